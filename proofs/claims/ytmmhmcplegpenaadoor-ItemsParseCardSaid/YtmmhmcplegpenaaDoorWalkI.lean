/- The walks, part I. -/
import Derived.Test.YtmmhmcplegpenaaDoorWalkT
namespace Go.Proofs.YtmmhmcplegpenaaDoor
open Go Go.Y Go.Proofs
set_option linter.unusedSimpArgs false
set_option linter.unusedVariables false
theorem item_spec {w0 w : World} {G : Ghost} {L : List Res} (M : Mem w0 G L w) (HG : Globs 0 1 2 3 G) {s : List UInt8} (hs : s.length ≤ 1048577) : Calls Tryd.prog 37 #[.string (str s)] w (Ret w0 G L fun G' v => ∃ (x : ItemD) (ma : Option Addr) (mc : Nat) (b : Bool), v = .tuple #[.agg #[.int .u64 (((x.key : Nat) : Int)), .int .u8 (((x.typ : Nat) : Int)), .string (str (x.text)), .slice (ma) (x.marks.length) (mc)], .bool b] ∧ (x.key < 18446744073709551616 ∧ x.typ < 256 ∧ x.text.length ≤ 9223372036854775807) ∧ RdSl rdStr 1 G' (.slice ma x.marks.length mc) x.marks ∧ (b = true → Rd8 s x) ∧ (b = false → ∀ y, ¬ Rd8 s y)) := by
 refine calls_start (vs := [_]) Tryd.func37 rfl (n := 72) rfl rfl ?_
 intro a F
 refine wp_seq <| w_reg <| rl_alloc F M tok30 rfl rfl ?_; clear F M a; intro b1 w a M F
 refine rl_run F (run_assign (F.ev rfl)) rfl ?_; clear F a; intro a F
 refine rl_nil <| q_tn <| wp_seq <| w_reg <| rl_run F (run_move (F.ev rfl)) rfl ?_; clear F a; intro a F
 refine rl_callS F ent53 rfl rfl (cut_spec (s := s) (sep := ([32] : List UInt8)) M HG (by omega)) ?_; clear F M a; rintro _ w a M rfl F
 have hclc3 := cut_lens 32 s
 refine rl_run F (run_move (F.ev rfl)) rfl ?_; clear F a; intro a F
 refine rl_run F (run_extract (v := .string (str ((Lib.cut s ([32] : List UInt8)).1))) (F.ev rfl) rfl) rfl ?_; clear F a; intro a F
 refine rl_run F (run_extract (v := .string (str ((Lib.cut s ([32] : List UInt8)).2.1))) (F.ev rfl) rfl) rfl ?_; clear F a; intro a F
 refine rl_run F (run_extract (v := .bool ((Lib.cut s ([32] : List UInt8)).2.2)) (F.ev rfl) rfl) rfl ?_; clear F a; intro a F
 iterate 3 (refine rl_run F (run_assign (F.ev rfl)) rfl ?_; clear F a; intro a F)
 refine rl_nil <| q_tn <| wp_seq <| w_reg <| rl_run F (run_move (F.ev rfl)) rfl ?_; clear F a; intro a F
 refine rl_callS F ent53 rfl rfl (cut_spec (s := (Lib.cut s ([32] : List UInt8)).2.1) (sep := ([32] : List UInt8)) M HG (by omega)) ?_; clear F M a; rintro _ w a M rfl F
 have hclc4 := cut_lens 32 ((Lib.cut s ([32] : List UInt8)).2.1)
 refine rl_run F (run_move (F.ev rfl)) rfl ?_; clear F a; intro a F
 refine rl_run F (run_extract (v := .string (str ((Lib.cut ((Lib.cut s ([32] : List UInt8)).2.1) ([32] : List UInt8)).1))) (F.ev rfl) rfl) rfl ?_; clear F a; intro a F
 refine rl_run F (run_extract (v := .string (str ((Lib.cut ((Lib.cut s ([32] : List UInt8)).2.1) ([32] : List UInt8)).2.1))) (F.ev rfl) rfl) rfl ?_; clear F a; intro a F
 refine rl_run F (run_extract (v := .bool ((Lib.cut ((Lib.cut s ([32] : List UInt8)).2.1) ([32] : List UInt8)).2.2)) (F.ev rfl) rfl) rfl ?_; clear F a; intro a F
 iterate 3 (refine rl_run F (run_assign (F.ev rfl)) rfl ?_; clear F a; intro a F)
 refine rl_nil <| q_tn <| wp_seq <| w_reg <| rl_run F (run_move (F.ev rfl)) rfl ?_; clear F a; intro a F
 refine rl_callS F ent53 rfl rfl (cut_spec (s := (Lib.cut ((Lib.cut s ([32] : List UInt8)).2.1) ([32] : List UInt8)).2.1) (sep := ([32] : List UInt8)) M HG (by omega)) ?_; clear F M a; rintro _ w a M rfl F
 have hclc5 := cut_lens 32 ((Lib.cut ((Lib.cut s ([32] : List UInt8)).2.1) ([32] : List UInt8)).2.1)
 refine rl_run F (run_move (F.ev rfl)) rfl ?_; clear F a; intro a F
 refine rl_run F (run_extract (v := .string (str ((Lib.cut ((Lib.cut ((Lib.cut s ([32] : List UInt8)).2.1) ([32] : List UInt8)).2.1) ([32] : List UInt8)).1))) (F.ev rfl) rfl) rfl ?_; clear F a; intro a F
 refine rl_run F (run_extract (v := .string (str ((Lib.cut ((Lib.cut ((Lib.cut s ([32] : List UInt8)).2.1) ([32] : List UInt8)).2.1) ([32] : List UInt8)).2.1))) (F.ev rfl) rfl) rfl ?_; clear F a; intro a F
 refine rl_run F (run_extract (v := .bool ((Lib.cut ((Lib.cut ((Lib.cut s ([32] : List UInt8)).2.1) ([32] : List UInt8)).2.1) ([32] : List UInt8)).2.2)) (F.ev rfl) rfl) rfl ?_; clear F a; intro a F
 iterate 3 (refine rl_run F (run_assign (F.ev rfl)) rfl ?_; clear F a; intro a F)
 refine rl_nil <| q_tn <| wp_seq <| w_reg <| rl_run F (run_move (F.ev rfl)) rfl ?_; clear F a; intro a F
 refine rl_callS F ent54 rfl rfl (pu64_spec (s := (Lib.cut s ([32] : List UInt8)).1) M HG (by omega)) ?_; clear F M a; rintro _ w a M ⟨u6, eru6, rfl, hiu6, hpuu6⟩ F
 have hltu6 := hpuu6.1
 refine rl_run F (run_move (F.ev rfl)) rfl ?_; clear F a; intro a F
 refine rl_run F (run_extract (v := .int .u64 (((u6 : Nat) : Int))) (F.ev rfl) rfl) rfl ?_; clear F a; intro a F
 refine rl_run F (run_extract (v := eru6) (F.ev rfl) rfl) rfl ?_; clear F a; intro a F
 iterate 2 (refine rl_run F (run_assign (F.ev rfl)) rfl ?_; clear F a; intro a F)
 refine rl_nil <| q_tn <| wp_seq <| w_reg <| rl_run F (run_move (F.ev rfl)) rfl ?_; clear F a; intro a F
 refine rl_callS F ent54 rfl rfl (pu8_spec (s := (Lib.cut ((Lib.cut s ([32] : List UInt8)).2.1) ([32] : List UInt8)).1) M HG (by omega)) ?_; clear F M a; rintro _ w a M ⟨u7, eru7, rfl, hiu7, hpuu7⟩ F
 have hltu7 := hpuu7.1
 refine rl_run F (run_move (F.ev rfl)) rfl ?_; clear F a; intro a F
 refine rl_run F (run_extract (v := .int .u64 (((u7 : Nat) : Int))) (F.ev rfl) rfl) rfl ?_; clear F a; intro a F
 refine rl_run F (run_extract (v := eru7) (F.ev rfl) rfl) rfl ?_; clear F a; intro a F
 iterate 2 (refine rl_run F (run_assign (F.ev rfl)) rfl ?_; clear F a; intro a F)
 refine rl_nil <| q_tn <| wp_seq <| w_reg ?_
 iterate 2 (refine rl_run F (run_move (F.ev rfl)) rfl ?_; clear F a; intro a F)
 refine rl_run F (run_conv_int tok5.k ⟨_, by rw [under_int tok27.k]⟩ (F.ev rfl) (in_u8 (by omega) (by omega))) rfl ?_; clear F a; intro a F
 refine rl_run F (run_move (F.ev rfl)) rfl ?_; clear F a; intro a F
 refine rl_run F (run_buildS (cs := [.int .u64 (((u6 : Nat) : Int)), .int .u8 (((u7 : Nat) : Int)), .string (str ((Lib.cut ((Lib.cut ((Lib.cut s ([32] : List UInt8)).2.1) ([32] : List UInt8)).2.1) ([32] : List UInt8)).2.1)), .slice none (0) (0)]) (ps := [(0, .int .u64 (((u6 : Nat) : Int))), (1, .int .u8 (((u7 : Nat) : Int))), (2, .string (str ((Lib.cut ((Lib.cut ((Lib.cut s ([32] : List UInt8)).2.1) ([32] : List UInt8)).2.1) ([32] : List UInt8)).2.1)))]) tok30.k rfl tok30 (F.evp rfl) rfl) rfl ?_; clear F a; intro a F
 refine rl_storeA F M tok30 (k := 0) rfl rfl rfl (us := [.int .u64 (((u6 : Nat) : Int)), .int .u8 (((u7 : Nat) : Int)), .string (str ((Lib.cut ((Lib.cut ((Lib.cut s ([32] : List UInt8)).2.1) ([32] : List UInt8)).2.1) ([32] : List UInt8)).2.1)), .slice none (0) (0)]) rfl rfl (by simp [Value.oneCell']) (by simp) ?_; clear F M a; intro w a M F
 change Mem w0 G (.blk b1 [.int .u64 (((u6 : Nat) : Int)), .int .u8 (((u7 : Nat) : Int)), .string (str ((Lib.cut ((Lib.cut ((Lib.cut s ([32] : List UInt8)).2.1) ([32] : List UInt8)).2.1) ([32] : List UInt8)).2.1)), .slice none (0) (0)] 30 :: L) _ at M
 refine rl_nil <| q_tn ?_
 iterate 2 (refine wp_seq ?_)
 refine w_reg <| rl_run F (run_move (F.ev rfl)) rfl ?_; clear F a; intro a F
 refine rl_run F (run_strNe (F.ev rfl) (F.ev rfl)) rfl ?_; clear F a; intro a F
 refine rl_nil <| q_tn <| w_cond F rfl ?_ ?_
 ·intro hc
  have h8b := hc; clear hc
  have h8 : ¬ (((Lib.cut ((Lib.cut ((Lib.cut s ([32] : List UInt8)).2.1) ([32] : List UInt8)).2.1) ([32] : List UInt8)).1) = ([45] : List UInt8)) := of_decide_eq_false (of_not_t h8b)
  have h8c : (decide (((Lib.cut ((Lib.cut ((Lib.cut s ([32] : List UInt8)).2.1) ([32] : List UInt8)).2.1) ([32] : List UInt8)).1) = ([45] : List UInt8))) = false := (of_not_t h8b)
  refine w_reg <| rl_run F (run_move (F.ev rfl)) rfl ?_; clear F a; intro a F
  refine rl_call F ent55 rfl rfl (split_spec (s := (Lib.cut ((Lib.cut ((Lib.cut s ([32] : List UInt8)).2.1) ([32] : List UInt8)).2.1) ([32] : List UInt8)).1) M HG (by omega)) ?_; clear F M a; rintro _ Gp9 w a hGp9 M ⟨ap9, rfl, Sp9⟩ F
  replace HG := HG.mono hGp9
  refine rl_run F (run_fieldAddr tok30.k rfl rfl (F.ev rfl)) rfl ?_; clear F a; intro a F
  refine rl_store1 F M tok28 rfl (k := 0) rfl rfl rfl rfl rfl ?_; clear F M a; intro w a M F
  refine rl_nil <| q_tn <| wp_seq ?_
  have hII10 : ((⟨u6, u7, (Lib.cut ((Lib.cut ((Lib.cut s ([32] : List UInt8)).2.1) ([32] : List UInt8)).2.1) ([32] : List UInt8)).2.1, splitF ((Lib.cut ((Lib.cut ((Lib.cut s ([32] : List UInt8)).2.1) ([32] : List UInt8)).2.1) ([32] : List UInt8)).1)⟩ : ItemD).key < 18446744073709551616 ∧ (⟨u6, u7, (Lib.cut ((Lib.cut ((Lib.cut s ([32] : List UInt8)).2.1) ([32] : List UInt8)).2.1) ([32] : List UInt8)).2.1, splitF ((Lib.cut ((Lib.cut ((Lib.cut s ([32] : List UInt8)).2.1) ([32] : List UInt8)).2.1) ([32] : List UInt8)).1)⟩ : ItemD).typ < 256 ∧ (⟨u6, u7, (Lib.cut ((Lib.cut ((Lib.cut s ([32] : List UInt8)).2.1) ([32] : List UInt8)).2.1) ([32] : List UInt8)).2.1, splitF ((Lib.cut ((Lib.cut ((Lib.cut s ([32] : List UInt8)).2.1) ([32] : List UInt8)).2.1) ([32] : List UInt8)).1)⟩ : ItemD).text.length ≤ 9223372036854775807) := ⟨by show u6 < _; omega, by show u7 < _; omega, by show ((Lib.cut ((Lib.cut ((Lib.cut s ([32] : List UInt8)).2.1) ([32] : List UInt8)).2.1) ([32] : List UInt8)).2.1).length ≤ _; omega⟩
  refine w_plan2 [(.pure, 0), (.free, 1), (.free, 2), (.free, 3), (.free, 4), (.free, 5), (.free, 6), (.free, 7), (.pure, 8), (.keep, 9), (.free, 10), (.free, 11), (.free, 12), (.pure, 13), (.free, 15), (.keep, 14), (.free, 16), (.free, 17), (.chg, 18), (.free, 19)] [18] (Keep Gp9 [.blk b1 [.int .u64 (((u6 : Nat) : Int)), .int .u8 (((u7 : Nat) : Int)), .string (str ((Lib.cut ((Lib.cut ((Lib.cut s ([32] : List UInt8)).2.1) ([32] : List UInt8)).2.1) ([32] : List UInt8)).2.1)), .slice (ap9) ((splitF ((Lib.cut ((Lib.cut ((Lib.cut s ([32] : List UInt8)).2.1) ([32] : List UInt8)).2.1) ([32] : List UInt8)).1)).length) ((splitF ((Lib.cut ((Lib.cut ((Lib.cut s ([32] : List UInt8)).2.1) ([32] : List UInt8)).2.1) ([32] : List UInt8)).1)).length)] 30]) rfl (by kernel_rfl) (fun c a d v w h => by cases d <;> exact h) ((M.drew _).keep (Gle.refl _) (by simp)) ?_
  replace M := M.drew (w.drawn + 1)
  refine pk_pure F (fun w M => run_loadA tok30 rfl (F.ev rfl) (cs := [.int .u64 (((u6 : Nat) : Int)), .int .u8 (((u7 : Nat) : Int)), .string (str ((Lib.cut ((Lib.cut ((Lib.cut s ([32] : List UInt8)).2.1) ([32] : List UInt8)).2.1) ([32] : List UInt8)).2.1)), .slice (ap9) ((splitF ((Lib.cut ((Lib.cut ((Lib.cut s ([32] : List UInt8)).2.1) ([32] : List UInt8)).2.1) ([32] : List UInt8)).1)).length) ((splitF ((Lib.cut ((Lib.cut ((Lib.cut s ([32] : List UInt8)).2.1) ([32] : List UInt8)).2.1) ([32] : List UInt8)).1)).length)]) rfl (M.cellsL (k := 0) rfl rfl)) rfl ?_; clear F a; intro a F
  refine pk_free F (fun w _ => run_move (F.ev rfl)) rfl ?_; clear F a; intro a F
  refine pk_free F (fun w _ => run_eqNilI tok61.k hiu6 (F.ev rfl) rfl) rfl ?_; clear F a; intro a F
  refine pk_free F (fun w _ => run_move (F.ev rfl)) rfl ?_; clear F a; intro a F
  rcases Bool.eq_false_or_eq_true (isNilI eru6) with hc | hc
  ·skip
   have h11b := hc; clear hc
   have h11 : (isNilI eru6) = true := h11b
   refine pk_free_g F rfl rfl h11b (fun w _ => run_move (F.ev rfl)) rfl ?_; clear F a; intro a F
   refine pk_free_g F rfl rfl h11b (fun w _ => run_eqNilI tok61.k hiu7 (F.ev rfl) rfl) rfl ?_; clear F a; intro a F
   refine pk_free F (fun w _ => run_pick_t (F.ev rfl) h11b (F.ev rfl)) rfl ?_; clear F a; intro a F
   refine pk_free F (fun w _ => run_move (F.ev rfl)) rfl ?_; clear F a; intro a F
   rcases Bool.eq_false_or_eq_true (isNilI eru7) with hc | hc
   ·skip
    have h12b := hc; clear hc
    have h12 : (isNilI eru7) = true := h12b
    refine pk_pure_g F rfl rfl h12b (fun w M => run_loadA tok30 rfl (F.ev rfl) (cs := [.int .u64 (((u6 : Nat) : Int)), .int .u8 (((u7 : Nat) : Int)), .string (str ((Lib.cut ((Lib.cut ((Lib.cut s ([32] : List UInt8)).2.1) ([32] : List UInt8)).2.1) ([32] : List UInt8)).2.1)), .slice (ap9) ((splitF ((Lib.cut ((Lib.cut ((Lib.cut s ([32] : List UInt8)).2.1) ([32] : List UInt8)).2.1) ([32] : List UInt8)).1)).length) ((splitF ((Lib.cut ((Lib.cut ((Lib.cut s ([32] : List UInt8)).2.1) ([32] : List UInt8)).2.1) ([32] : List UInt8)).1)).length)]) rfl (M.cellsL (k := 0) rfl rfl)) rfl ?_; clear F a; intro a F
    refine pk_keep_g F rfl rfl h12b ?_
    refine rl_guard_t F rfl rfl rfl h12b ?_
    refine rl_callS F ent9 rfl rfl (check_spec (x := (⟨u6, u7, (Lib.cut ((Lib.cut ((Lib.cut s ([32] : List UInt8)).2.1) ([32] : List UInt8)).2.1) ([32] : List UInt8)).2.1, splitF ((Lib.cut ((Lib.cut ((Lib.cut s ([32] : List UInt8)).2.1) ([32] : List UInt8)).2.1) ([32] : List UInt8)).1)⟩ : ItemD)) (t := 8) M hII10 Sp9) ?_; clear F M a; rintro _ w a M rfl F
    refine rl_nil <| ⟨Keep Gp9 [.blk b1 [.int .u64 (((u6 : Nat) : Int)), .int .u8 (((u7 : Nat) : Int)), .string (str ((Lib.cut ((Lib.cut ((Lib.cut s ([32] : List UInt8)).2.1) ([32] : List UInt8)).2.1) ([32] : List UInt8)).2.1)), .slice (ap9) ((splitF ((Lib.cut ((Lib.cut ((Lib.cut s ([32] : List UInt8)).2.1) ([32] : List UInt8)).2.1) ([32] : List UInt8)).1)).length) ((splitF ((Lib.cut ((Lib.cut ((Lib.cut s ([32] : List UInt8)).2.1) ([32] : List UInt8)).2.1) ([32] : List UInt8)).1)).length)] 30], M.keep (Gle.refl _) (by simp), fun w h => h.mono (Gle.refl _) (by simp), ?_⟩
    refine pk_free_g F rfl rfl h12b (fun w _ => run_eqi (F.ev rfl) (F.ev rfl)) rfl ?_; clear F a; intro a F
    refine pk_free F (fun w _ => run_pick_t (F.ev rfl) h12b (F.ev rfl)) rfl ?_; clear F a; intro a F
    refine pk_free F (fun w _ => run_move (F.ev rfl)) rfl ?_; clear F a; intro a F
    rcases Bool.eq_false_or_eq_true (decide (itmF 8 ((⟨u6, u7, (Lib.cut ((Lib.cut ((Lib.cut s ([32] : List UInt8)).2.1) ([32] : List UInt8)).2.1) ([32] : List UInt8)).2.1, splitF ((Lib.cut ((Lib.cut ((Lib.cut s ([32] : List UInt8)).2.1) ([32] : List UInt8)).2.1) ([32] : List UInt8)).1)⟩ : ItemD)) = 0)) with hc | hc
    ·skip
     have h13b := hc; clear hc
     have h13 : itmF 8 ((⟨u6, u7, (Lib.cut ((Lib.cut ((Lib.cut s ([32] : List UInt8)).2.1) ([32] : List UInt8)).2.1) ([32] : List UInt8)).2.1, splitF ((Lib.cut ((Lib.cut ((Lib.cut s ([32] : List UInt8)).2.1) ([32] : List UInt8)).2.1) ([32] : List UInt8)).1)⟩ : ItemD)) = 0 := of_decide_eq_true h13b
     refine pk_pure_g F rfl rfl h13b (fun w M => run_loadA tok30 rfl (F.ev rfl) (cs := [.int .u64 (((u6 : Nat) : Int)), .int .u8 (((u7 : Nat) : Int)), .string (str ((Lib.cut ((Lib.cut ((Lib.cut s ([32] : List UInt8)).2.1) ([32] : List UInt8)).2.1) ([32] : List UInt8)).2.1)), .slice (ap9) ((splitF ((Lib.cut ((Lib.cut ((Lib.cut s ([32] : List UInt8)).2.1) ([32] : List UInt8)).2.1) ([32] : List UInt8)).1)).length) ((splitF ((Lib.cut ((Lib.cut ((Lib.cut s ([32] : List UInt8)).2.1) ([32] : List UInt8)).2.1) ([32] : List UInt8)).1)).length)]) rfl (M.cellsL (k := 0) rfl rfl)) rfl ?_; clear F a; intro a F
     refine pk_free_g F rfl rfl h13b (fun w _ => run_move (F.ev rfl)) rfl ?_; clear F a; intro a F
     refine pk_keep_g F rfl rfl h13b ?_
     refine rl_guard_t F rfl rfl rfl h13b ?_
     refine rl_callS F ent33 rfl rfl (line_spec (x := (⟨u6, u7, (Lib.cut ((Lib.cut ((Lib.cut s ([32] : List UInt8)).2.1) ([32] : List UInt8)).2.1) ([32] : List UInt8)).2.1, splitF ((Lib.cut ((Lib.cut ((Lib.cut s ([32] : List UInt8)).2.1) ([32] : List UInt8)).2.1) ([32] : List UInt8)).1)⟩ : ItemD)) M HG hII10 Sp9 (itmF_zero.1 (by assumption))) ?_; clear F M a; rintro _ w a M rfl F
     have hlll14 := line_len (x := (⟨u6, u7, (Lib.cut ((Lib.cut ((Lib.cut s ([32] : List UInt8)).2.1) ([32] : List UInt8)).2.1) ([32] : List UInt8)).2.1, splitF ((Lib.cut ((Lib.cut ((Lib.cut s ([32] : List UInt8)).2.1) ([32] : List UInt8)).2.1) ([32] : List UInt8)).1)⟩ : ItemD)) (itmF_zero.1 (by assumption)) hII10.1 hII10.2.1
     refine rl_nil <| ⟨Keep Gp9 [.blk b1 [.int .u64 (((u6 : Nat) : Int)), .int .u8 (((u7 : Nat) : Int)), .string (str ((Lib.cut ((Lib.cut ((Lib.cut s ([32] : List UInt8)).2.1) ([32] : List UInt8)).2.1) ([32] : List UInt8)).2.1)), .slice (ap9) ((splitF ((Lib.cut ((Lib.cut ((Lib.cut s ([32] : List UInt8)).2.1) ([32] : List UInt8)).2.1) ([32] : List UInt8)).1)).length) ((splitF ((Lib.cut ((Lib.cut ((Lib.cut s ([32] : List UInt8)).2.1) ([32] : List UInt8)).2.1) ([32] : List UInt8)).1)).length)] 30], M.keep (Gle.refl _) (by simp), fun w h => h.mono (Gle.refl _) (by simp), ?_⟩
     refine pk_free_g F rfl rfl h13b (fun w _ => run_strEq (F.ev rfl) (F.ev rfl)) rfl ?_; clear F a; intro a F
     refine pk_free F (fun w _ => run_pick_t (F.ev rfl) h13b (F.ev rfl)) rfl ?_; clear F a; intro a F
     refine pk_chg ?_ rfl
     refine rl_storeA F M tok30 (k := 0) rfl rfl rfl (us := [.int .u64 (((u6 : Nat) : Int)), .int .u8 (((u7 : Nat) : Int)), .string (str ((Lib.cut ((Lib.cut ((Lib.cut s ([32] : List UInt8)).2.1) ([32] : List UInt8)).2.1) ([32] : List UInt8)).2.1)), .slice (ap9) ((splitF ((Lib.cut ((Lib.cut ((Lib.cut s ([32] : List UInt8)).2.1) ([32] : List UInt8)).2.1) ([32] : List UInt8)).1)).length) ((splitF ((Lib.cut ((Lib.cut ((Lib.cut s ([32] : List UInt8)).2.1) ([32] : List UInt8)).2.1) ([32] : List UInt8)).1)).length)]) rfl rfl (by simp [Value.oneCell']) (by simp) ?_; clear F M a; intro w a M F
     change Mem w0 Gp9 (.blk b1 [.int .u64 (((u6 : Nat) : Int)), .int .u8 (((u7 : Nat) : Int)), .string (str ((Lib.cut ((Lib.cut ((Lib.cut s ([32] : List UInt8)).2.1) ([32] : List UInt8)).2.1) ([32] : List UInt8)).2.1)), .slice (ap9) ((splitF ((Lib.cut ((Lib.cut ((Lib.cut s ([32] : List UInt8)).2.1) ([32] : List UInt8)).2.1) ([32] : List UInt8)).1)).length) ((splitF ((Lib.cut ((Lib.cut ((Lib.cut s ([32] : List UInt8)).2.1) ([32] : List UInt8)).2.1) ([32] : List UInt8)).1)).length)] 30 :: L) _ at M
     refine rl_nil <| ⟨Keep Gp9 [.blk b1 [.int .u64 (((u6 : Nat) : Int)), .int .u8 (((u7 : Nat) : Int)), .string (str ((Lib.cut ((Lib.cut ((Lib.cut s ([32] : List UInt8)).2.1) ([32] : List UInt8)).2.1) ([32] : List UInt8)).2.1)), .slice (ap9) ((splitF ((Lib.cut ((Lib.cut ((Lib.cut s ([32] : List UInt8)).2.1) ([32] : List UInt8)).2.1) ([32] : List UInt8)).1)).length) ((splitF ((Lib.cut ((Lib.cut ((Lib.cut s ([32] : List UInt8)).2.1) ([32] : List UInt8)).2.1) ([32] : List UInt8)).1)).length)] 30], M.keep (Gle.refl _) (by simp), ?_⟩
     refine pk_free F (fun w _ => run_assign (F.ev rfl)) rfl ?_; clear F a; intro a F
     refine pk_nil <| q_tn <| wp_ret <| fin_ct F M (k := 0) rfl rfl tok30 rfl rfl rfl rfl ?_
     refine ⟨_, hGp9, M.weaken (.cons _ (List.Sublist.refl _)), (⟨u6, u7, (Lib.cut ((Lib.cut ((Lib.cut s ([32] : List UInt8)).2.1) ([32] : List UInt8)).2.1) ([32] : List UInt8)).2.1, splitF ((Lib.cut ((Lib.cut ((Lib.cut s ([32] : List UInt8)).2.1) ([32] : List UInt8)).2.1) ([32] : List UInt8)).1)⟩ : ItemD), ap9, (splitF ((Lib.cut ((Lib.cut ((Lib.cut s ([32] : List UInt8)).2.1) ([32] : List UInt8)).2.1) ([32] : List UInt8)).1)).length, (decide ((lineF ((⟨u6, u7, (Lib.cut ((Lib.cut ((Lib.cut s ([32] : List UInt8)).2.1) ([32] : List UInt8)).2.1) ([32] : List UInt8)).2.1, splitF ((Lib.cut ((Lib.cut ((Lib.cut s ([32] : List UInt8)).2.1) ([32] : List UInt8)).2.1) ([32] : List UInt8)).1)⟩ : ItemD))) = s)), rfl, hII10, Sp9, ?_, ?_⟩
     ·intro hb_; first | (cases hb_; done) | exact ⟨itmF_zero.1 (by assumption), hII10.1, of_decide_eq_true hb_⟩
     ·intro hb_ y hy; obtain ⟨q1, q2, q3⟩ := item_back hy hpuu6 (by omega) hpuu7; unfold marksG at q3; first | rw [if_neg (by assumption)] at q3 | rw [if_pos (by assumption)] at q3
      first | exact absurd (show true = false from q1.symm.trans (by assumption)) (by decide) | exact absurd (show true = false from q2.symm.trans (by assumption)) (by decide) | exact absurd (show itmF 8 (⟨u6, u7, (Lib.cut ((Lib.cut ((Lib.cut s ([32] : List UInt8)).2.1) ([32] : List UInt8)).2.1) ([32] : List UInt8)).2.1, splitF ((Lib.cut ((Lib.cut ((Lib.cut s ([32] : List UInt8)).2.1) ([32] : List UInt8)).2.1) ([32] : List UInt8)).1)⟩ : ItemD) = 0 by rw [q3]; exact itmF_yes hy.1) (by assumption) | exact absurd (show lineF (⟨u6, u7, (Lib.cut ((Lib.cut ((Lib.cut s ([32] : List UInt8)).2.1) ([32] : List UInt8)).2.1) ([32] : List UInt8)).2.1, splitF ((Lib.cut ((Lib.cut ((Lib.cut s ([32] : List UInt8)).2.1) ([32] : List UInt8)).2.1) ([32] : List UInt8)).1)⟩ : ItemD) = s by rw [q3]; exact hy.2.2) (of_decide_eq_false hb_)
    ·skip
     have h15b := hc; clear hc
     have h15 : ¬ (itmF 8 ((⟨u6, u7, (Lib.cut ((Lib.cut ((Lib.cut s ([32] : List UInt8)).2.1) ([32] : List UInt8)).2.1) ([32] : List UInt8)).2.1, splitF ((Lib.cut ((Lib.cut ((Lib.cut s ([32] : List UInt8)).2.1) ([32] : List UInt8)).2.1) ([32] : List UInt8)).1)⟩ : ItemD)) = 0) := of_decide_eq_false h15b
     iterate 4 (refine pk_skip F rfl rfl h15b rfl ?_; clear F a; intro a F)
     refine pk_free F (fun w _ => run_pick_f (F.ev rfl) h15b (F.ev rfl)) rfl ?_; clear F a; intro a F
     refine pk_chg ?_ rfl
     refine rl_storeA F M tok30 (k := 0) rfl rfl rfl (us := [.int .u64 (((u6 : Nat) : Int)), .int .u8 (((u7 : Nat) : Int)), .string (str ((Lib.cut ((Lib.cut ((Lib.cut s ([32] : List UInt8)).2.1) ([32] : List UInt8)).2.1) ([32] : List UInt8)).2.1)), .slice (ap9) ((splitF ((Lib.cut ((Lib.cut ((Lib.cut s ([32] : List UInt8)).2.1) ([32] : List UInt8)).2.1) ([32] : List UInt8)).1)).length) ((splitF ((Lib.cut ((Lib.cut ((Lib.cut s ([32] : List UInt8)).2.1) ([32] : List UInt8)).2.1) ([32] : List UInt8)).1)).length)]) rfl rfl (by simp [Value.oneCell']) (by simp) ?_; clear F M a; intro w a M F
     change Mem w0 Gp9 (.blk b1 [.int .u64 (((u6 : Nat) : Int)), .int .u8 (((u7 : Nat) : Int)), .string (str ((Lib.cut ((Lib.cut ((Lib.cut s ([32] : List UInt8)).2.1) ([32] : List UInt8)).2.1) ([32] : List UInt8)).2.1)), .slice (ap9) ((splitF ((Lib.cut ((Lib.cut ((Lib.cut s ([32] : List UInt8)).2.1) ([32] : List UInt8)).2.1) ([32] : List UInt8)).1)).length) ((splitF ((Lib.cut ((Lib.cut ((Lib.cut s ([32] : List UInt8)).2.1) ([32] : List UInt8)).2.1) ([32] : List UInt8)).1)).length)] 30 :: L) _ at M
     refine rl_nil <| ⟨Keep Gp9 [.blk b1 [.int .u64 (((u6 : Nat) : Int)), .int .u8 (((u7 : Nat) : Int)), .string (str ((Lib.cut ((Lib.cut ((Lib.cut s ([32] : List UInt8)).2.1) ([32] : List UInt8)).2.1) ([32] : List UInt8)).2.1)), .slice (ap9) ((splitF ((Lib.cut ((Lib.cut ((Lib.cut s ([32] : List UInt8)).2.1) ([32] : List UInt8)).2.1) ([32] : List UInt8)).1)).length) ((splitF ((Lib.cut ((Lib.cut ((Lib.cut s ([32] : List UInt8)).2.1) ([32] : List UInt8)).2.1) ([32] : List UInt8)).1)).length)] 30], M.keep (Gle.refl _) (by simp), ?_⟩
     refine pk_free F (fun w _ => run_assign (F.ev rfl)) rfl ?_; clear F a; intro a F
     refine pk_nil <| q_tn <| wp_ret <| fin_ct F M (k := 0) rfl rfl tok30 rfl rfl rfl rfl ?_
     refine ⟨_, hGp9, M.weaken (.cons _ (List.Sublist.refl _)), (⟨u6, u7, (Lib.cut ((Lib.cut ((Lib.cut s ([32] : List UInt8)).2.1) ([32] : List UInt8)).2.1) ([32] : List UInt8)).2.1, splitF ((Lib.cut ((Lib.cut ((Lib.cut s ([32] : List UInt8)).2.1) ([32] : List UInt8)).2.1) ([32] : List UInt8)).1)⟩ : ItemD), ap9, (splitF ((Lib.cut ((Lib.cut ((Lib.cut s ([32] : List UInt8)).2.1) ([32] : List UInt8)).2.1) ([32] : List UInt8)).1)).length, false, rfl, hII10, Sp9, ?_, ?_⟩
     ·intro hb_; first | (cases hb_; done) | exact ⟨itmF_zero.1 (by assumption), hII10.1, of_decide_eq_true hb_⟩
     ·intro hb_ y hy; obtain ⟨q1, q2, q3⟩ := item_back hy hpuu6 (by omega) hpuu7; unfold marksG at q3; first | rw [if_neg (by assumption)] at q3 | rw [if_pos (by assumption)] at q3
      first | exact absurd (show true = false from q1.symm.trans (by assumption)) (by decide) | exact absurd (show true = false from q2.symm.trans (by assumption)) (by decide) | exact absurd (show itmF 8 (⟨u6, u7, (Lib.cut ((Lib.cut ((Lib.cut s ([32] : List UInt8)).2.1) ([32] : List UInt8)).2.1) ([32] : List UInt8)).2.1, splitF ((Lib.cut ((Lib.cut ((Lib.cut s ([32] : List UInt8)).2.1) ([32] : List UInt8)).2.1) ([32] : List UInt8)).1)⟩ : ItemD) = 0 by rw [q3]; exact itmF_yes hy.1) (by assumption) | exact absurd (show lineF (⟨u6, u7, (Lib.cut ((Lib.cut ((Lib.cut s ([32] : List UInt8)).2.1) ([32] : List UInt8)).2.1) ([32] : List UInt8)).2.1, splitF ((Lib.cut ((Lib.cut ((Lib.cut s ([32] : List UInt8)).2.1) ([32] : List UInt8)).2.1) ([32] : List UInt8)).1)⟩ : ItemD) = s by rw [q3]; exact hy.2.2) (of_decide_eq_false hb_)
   ·skip
    have h16b := hc; clear hc
    have h16 : (isNilI eru7) = false := h16b
    iterate 3 (refine pk_skip F rfl rfl h16b rfl ?_; clear F a; intro a F)
    refine pk_free F (fun w _ => run_pick_f (F.ev rfl) h16b (F.ev rfl)) rfl ?_; clear F a; intro a F
    refine pk_free F (fun w _ => run_move (F.ev rfl)) rfl ?_; clear F a; intro a F
    iterate 4 (refine pk_skip F rfl rfl rfl rfl ?_; clear F a; intro a F)
    refine pk_free F (fun w _ => run_pick_f (F.ev rfl) rfl (F.ev rfl)) rfl ?_; clear F a; intro a F
    refine pk_chg ?_ rfl
    refine rl_storeA F M tok30 (k := 0) rfl rfl rfl (us := [.int .u64 (((u6 : Nat) : Int)), .int .u8 (((u7 : Nat) : Int)), .string (str ((Lib.cut ((Lib.cut ((Lib.cut s ([32] : List UInt8)).2.1) ([32] : List UInt8)).2.1) ([32] : List UInt8)).2.1)), .slice (ap9) ((splitF ((Lib.cut ((Lib.cut ((Lib.cut s ([32] : List UInt8)).2.1) ([32] : List UInt8)).2.1) ([32] : List UInt8)).1)).length) ((splitF ((Lib.cut ((Lib.cut ((Lib.cut s ([32] : List UInt8)).2.1) ([32] : List UInt8)).2.1) ([32] : List UInt8)).1)).length)]) rfl rfl (by simp [Value.oneCell']) (by simp) ?_; clear F M a; intro w a M F
    change Mem w0 Gp9 (.blk b1 [.int .u64 (((u6 : Nat) : Int)), .int .u8 (((u7 : Nat) : Int)), .string (str ((Lib.cut ((Lib.cut ((Lib.cut s ([32] : List UInt8)).2.1) ([32] : List UInt8)).2.1) ([32] : List UInt8)).2.1)), .slice (ap9) ((splitF ((Lib.cut ((Lib.cut ((Lib.cut s ([32] : List UInt8)).2.1) ([32] : List UInt8)).2.1) ([32] : List UInt8)).1)).length) ((splitF ((Lib.cut ((Lib.cut ((Lib.cut s ([32] : List UInt8)).2.1) ([32] : List UInt8)).2.1) ([32] : List UInt8)).1)).length)] 30 :: L) _ at M
    refine rl_nil <| ⟨Keep Gp9 [.blk b1 [.int .u64 (((u6 : Nat) : Int)), .int .u8 (((u7 : Nat) : Int)), .string (str ((Lib.cut ((Lib.cut ((Lib.cut s ([32] : List UInt8)).2.1) ([32] : List UInt8)).2.1) ([32] : List UInt8)).2.1)), .slice (ap9) ((splitF ((Lib.cut ((Lib.cut ((Lib.cut s ([32] : List UInt8)).2.1) ([32] : List UInt8)).2.1) ([32] : List UInt8)).1)).length) ((splitF ((Lib.cut ((Lib.cut ((Lib.cut s ([32] : List UInt8)).2.1) ([32] : List UInt8)).2.1) ([32] : List UInt8)).1)).length)] 30], M.keep (Gle.refl _) (by simp), ?_⟩
    refine pk_free F (fun w _ => run_assign (F.ev rfl)) rfl ?_; clear F a; intro a F
    refine pk_nil <| q_tn <| wp_ret <| fin_ct F M (k := 0) rfl rfl tok30 rfl rfl rfl rfl ?_
    refine ⟨_, hGp9, M.weaken (.cons _ (List.Sublist.refl _)), (⟨u6, u7, (Lib.cut ((Lib.cut ((Lib.cut s ([32] : List UInt8)).2.1) ([32] : List UInt8)).2.1) ([32] : List UInt8)).2.1, splitF ((Lib.cut ((Lib.cut ((Lib.cut s ([32] : List UInt8)).2.1) ([32] : List UInt8)).2.1) ([32] : List UInt8)).1)⟩ : ItemD), ap9, (splitF ((Lib.cut ((Lib.cut ((Lib.cut s ([32] : List UInt8)).2.1) ([32] : List UInt8)).2.1) ([32] : List UInt8)).1)).length, false, rfl, hII10, Sp9, ?_, ?_⟩
    ·intro hb_; first | (cases hb_; done) | exact ⟨itmF_zero.1 (by assumption), hII10.1, of_decide_eq_true hb_⟩
    ·intro hb_ y hy; obtain ⟨q1, q2, q3⟩ := item_back hy hpuu6 (by omega) hpuu7; unfold marksG at q3; first | rw [if_neg (by assumption)] at q3 | rw [if_pos (by assumption)] at q3
     first | exact absurd (show true = false from q1.symm.trans (by assumption)) (by decide) | exact absurd (show true = false from q2.symm.trans (by assumption)) (by decide) | exact absurd (show itmF 8 (⟨u6, u7, (Lib.cut ((Lib.cut ((Lib.cut s ([32] : List UInt8)).2.1) ([32] : List UInt8)).2.1) ([32] : List UInt8)).2.1, splitF ((Lib.cut ((Lib.cut ((Lib.cut s ([32] : List UInt8)).2.1) ([32] : List UInt8)).2.1) ([32] : List UInt8)).1)⟩ : ItemD) = 0 by rw [q3]; exact itmF_yes hy.1) (by assumption) | exact absurd (show lineF (⟨u6, u7, (Lib.cut ((Lib.cut ((Lib.cut s ([32] : List UInt8)).2.1) ([32] : List UInt8)).2.1) ([32] : List UInt8)).2.1, splitF ((Lib.cut ((Lib.cut ((Lib.cut s ([32] : List UInt8)).2.1) ([32] : List UInt8)).2.1) ([32] : List UInt8)).1)⟩ : ItemD) = s by rw [q3]; exact hy.2.2) (of_decide_eq_false hb_)
  ·skip
   have h17b := hc; clear hc
   have h17 : (isNilI eru6) = false := h17b
   iterate 2 (refine pk_skip F rfl rfl h17b rfl ?_; clear F a; intro a F)
   refine pk_free F (fun w _ => run_pick_f (F.ev rfl) h17b (F.ev rfl)) rfl ?_; clear F a; intro a F
   refine pk_free F (fun w _ => run_move (F.ev rfl)) rfl ?_; clear F a; intro a F
   iterate 3 (refine pk_skip F rfl rfl rfl rfl ?_; clear F a; intro a F)
   refine pk_free F (fun w _ => run_pick_f (F.ev rfl) rfl (F.ev rfl)) rfl ?_; clear F a; intro a F
   refine pk_free F (fun w _ => run_move (F.ev rfl)) rfl ?_; clear F a; intro a F
   iterate 4 (refine pk_skip F rfl rfl rfl rfl ?_; clear F a; intro a F)
   refine pk_free F (fun w _ => run_pick_f (F.ev rfl) rfl (F.ev rfl)) rfl ?_; clear F a; intro a F
   refine pk_chg ?_ rfl
   refine rl_storeA F M tok30 (k := 0) rfl rfl rfl (us := [.int .u64 (((u6 : Nat) : Int)), .int .u8 (((u7 : Nat) : Int)), .string (str ((Lib.cut ((Lib.cut ((Lib.cut s ([32] : List UInt8)).2.1) ([32] : List UInt8)).2.1) ([32] : List UInt8)).2.1)), .slice (ap9) ((splitF ((Lib.cut ((Lib.cut ((Lib.cut s ([32] : List UInt8)).2.1) ([32] : List UInt8)).2.1) ([32] : List UInt8)).1)).length) ((splitF ((Lib.cut ((Lib.cut ((Lib.cut s ([32] : List UInt8)).2.1) ([32] : List UInt8)).2.1) ([32] : List UInt8)).1)).length)]) rfl rfl (by simp [Value.oneCell']) (by simp) ?_; clear F M a; intro w a M F
   change Mem w0 Gp9 (.blk b1 [.int .u64 (((u6 : Nat) : Int)), .int .u8 (((u7 : Nat) : Int)), .string (str ((Lib.cut ((Lib.cut ((Lib.cut s ([32] : List UInt8)).2.1) ([32] : List UInt8)).2.1) ([32] : List UInt8)).2.1)), .slice (ap9) ((splitF ((Lib.cut ((Lib.cut ((Lib.cut s ([32] : List UInt8)).2.1) ([32] : List UInt8)).2.1) ([32] : List UInt8)).1)).length) ((splitF ((Lib.cut ((Lib.cut ((Lib.cut s ([32] : List UInt8)).2.1) ([32] : List UInt8)).2.1) ([32] : List UInt8)).1)).length)] 30 :: L) _ at M
   refine rl_nil <| ⟨Keep Gp9 [.blk b1 [.int .u64 (((u6 : Nat) : Int)), .int .u8 (((u7 : Nat) : Int)), .string (str ((Lib.cut ((Lib.cut ((Lib.cut s ([32] : List UInt8)).2.1) ([32] : List UInt8)).2.1) ([32] : List UInt8)).2.1)), .slice (ap9) ((splitF ((Lib.cut ((Lib.cut ((Lib.cut s ([32] : List UInt8)).2.1) ([32] : List UInt8)).2.1) ([32] : List UInt8)).1)).length) ((splitF ((Lib.cut ((Lib.cut ((Lib.cut s ([32] : List UInt8)).2.1) ([32] : List UInt8)).2.1) ([32] : List UInt8)).1)).length)] 30], M.keep (Gle.refl _) (by simp), ?_⟩
   refine pk_free F (fun w _ => run_assign (F.ev rfl)) rfl ?_; clear F a; intro a F
   refine pk_nil <| q_tn <| wp_ret <| fin_ct F M (k := 0) rfl rfl tok30 rfl rfl rfl rfl ?_
   refine ⟨_, hGp9, M.weaken (.cons _ (List.Sublist.refl _)), (⟨u6, u7, (Lib.cut ((Lib.cut ((Lib.cut s ([32] : List UInt8)).2.1) ([32] : List UInt8)).2.1) ([32] : List UInt8)).2.1, splitF ((Lib.cut ((Lib.cut ((Lib.cut s ([32] : List UInt8)).2.1) ([32] : List UInt8)).2.1) ([32] : List UInt8)).1)⟩ : ItemD), ap9, (splitF ((Lib.cut ((Lib.cut ((Lib.cut s ([32] : List UInt8)).2.1) ([32] : List UInt8)).2.1) ([32] : List UInt8)).1)).length, false, rfl, hII10, Sp9, ?_, ?_⟩
   ·intro hb_; first | (cases hb_; done) | exact ⟨itmF_zero.1 (by assumption), hII10.1, of_decide_eq_true hb_⟩
   ·intro hb_ y hy; obtain ⟨q1, q2, q3⟩ := item_back hy hpuu6 (by omega) hpuu7; unfold marksG at q3; first | rw [if_neg (by assumption)] at q3 | rw [if_pos (by assumption)] at q3
    first | exact absurd (show true = false from q1.symm.trans (by assumption)) (by decide) | exact absurd (show true = false from q2.symm.trans (by assumption)) (by decide) | exact absurd (show itmF 8 (⟨u6, u7, (Lib.cut ((Lib.cut ((Lib.cut s ([32] : List UInt8)).2.1) ([32] : List UInt8)).2.1) ([32] : List UInt8)).2.1, splitF ((Lib.cut ((Lib.cut ((Lib.cut s ([32] : List UInt8)).2.1) ([32] : List UInt8)).2.1) ([32] : List UInt8)).1)⟩ : ItemD) = 0 by rw [q3]; exact itmF_yes hy.1) (by assumption) | exact absurd (show lineF (⟨u6, u7, (Lib.cut ((Lib.cut ((Lib.cut s ([32] : List UInt8)).2.1) ([32] : List UInt8)).2.1) ([32] : List UInt8)).2.1, splitF ((Lib.cut ((Lib.cut ((Lib.cut s ([32] : List UInt8)).2.1) ([32] : List UInt8)).2.1) ([32] : List UInt8)).1)⟩ : ItemD) = s by rw [q3]; exact hy.2.2) (of_decide_eq_false hb_)
 ·intro hc
  have h18b := hc; clear hc
  have h18 : ((Lib.cut ((Lib.cut ((Lib.cut s ([32] : List UInt8)).2.1) ([32] : List UInt8)).2.1) ([32] : List UInt8)).1) = ([45] : List UInt8) := of_decide_eq_true (of_not_f h18b)
  have h18c : (decide (((Lib.cut ((Lib.cut ((Lib.cut s ([32] : List UInt8)).2.1) ([32] : List UInt8)).2.1) ([32] : List UInt8)).1) = ([45] : List UInt8))) = true := (of_not_f h18b)
  refine wp_skip <| q_tn <| wp_seq ?_
  have hII19 : ((⟨u6, u7, (Lib.cut ((Lib.cut ((Lib.cut s ([32] : List UInt8)).2.1) ([32] : List UInt8)).2.1) ([32] : List UInt8)).2.1, ([] : List (List UInt8))⟩ : ItemD).key < 18446744073709551616 ∧ (⟨u6, u7, (Lib.cut ((Lib.cut ((Lib.cut s ([32] : List UInt8)).2.1) ([32] : List UInt8)).2.1) ([32] : List UInt8)).2.1, ([] : List (List UInt8))⟩ : ItemD).typ < 256 ∧ (⟨u6, u7, (Lib.cut ((Lib.cut ((Lib.cut s ([32] : List UInt8)).2.1) ([32] : List UInt8)).2.1) ([32] : List UInt8)).2.1, ([] : List (List UInt8))⟩ : ItemD).text.length ≤ 9223372036854775807) := ⟨by show u6 < _; omega, by show u7 < _; omega, by show ((Lib.cut ((Lib.cut ((Lib.cut s ([32] : List UInt8)).2.1) ([32] : List UInt8)).2.1) ([32] : List UInt8)).2.1).length ≤ _; omega⟩
  refine w_plan2 [(.pure, 0), (.free, 1), (.free, 2), (.free, 3), (.free, 4), (.free, 5), (.free, 6), (.free, 7), (.pure, 8), (.keep, 9), (.free, 10), (.free, 11), (.free, 12), (.pure, 13), (.free, 15), (.keep, 14), (.free, 16), (.free, 17), (.chg, 18), (.free, 19)] [18] (Keep G [.blk b1 [.int .u64 (((u6 : Nat) : Int)), .int .u8 (((u7 : Nat) : Int)), .string (str ((Lib.cut ((Lib.cut ((Lib.cut s ([32] : List UInt8)).2.1) ([32] : List UInt8)).2.1) ([32] : List UInt8)).2.1)), .slice none (0) (0)] 30]) rfl (by kernel_rfl) (fun c a d v w h => by cases d <;> exact h) ((M.drew _).keep (Gle.refl _) (by simp)) ?_
  replace M := M.drew (w.drawn + 1)
  refine pk_pure F (fun w M => run_loadA tok30 rfl (F.ev rfl) (cs := [.int .u64 (((u6 : Nat) : Int)), .int .u8 (((u7 : Nat) : Int)), .string (str ((Lib.cut ((Lib.cut ((Lib.cut s ([32] : List UInt8)).2.1) ([32] : List UInt8)).2.1) ([32] : List UInt8)).2.1)), .slice none (0) (0)]) rfl (M.cellsL (k := 0) rfl rfl)) rfl ?_; clear F a; intro a F
  refine pk_free F (fun w _ => run_move (F.ev rfl)) rfl ?_; clear F a; intro a F
  refine pk_free F (fun w _ => run_eqNilI tok61.k hiu6 (F.ev rfl) rfl) rfl ?_; clear F a; intro a F
  refine pk_free F (fun w _ => run_move (F.ev rfl)) rfl ?_; clear F a; intro a F
  rcases Bool.eq_false_or_eq_true (isNilI eru6) with hc | hc
  ·skip
   have h20b := hc; clear hc
   have h20 : (isNilI eru6) = true := h20b
   refine pk_free_g F rfl rfl h20b (fun w _ => run_move (F.ev rfl)) rfl ?_; clear F a; intro a F
   refine pk_free_g F rfl rfl h20b (fun w _ => run_eqNilI tok61.k hiu7 (F.ev rfl) rfl) rfl ?_; clear F a; intro a F
   refine pk_free F (fun w _ => run_pick_t (F.ev rfl) h20b (F.ev rfl)) rfl ?_; clear F a; intro a F
   refine pk_free F (fun w _ => run_move (F.ev rfl)) rfl ?_; clear F a; intro a F
   rcases Bool.eq_false_or_eq_true (isNilI eru7) with hc | hc
   ·skip
    have h21b := hc; clear hc
    have h21 : (isNilI eru7) = true := h21b
    refine pk_pure_g F rfl rfl h21b (fun w M => run_loadA tok30 rfl (F.ev rfl) (cs := [.int .u64 (((u6 : Nat) : Int)), .int .u8 (((u7 : Nat) : Int)), .string (str ((Lib.cut ((Lib.cut ((Lib.cut s ([32] : List UInt8)).2.1) ([32] : List UInt8)).2.1) ([32] : List UInt8)).2.1)), .slice none (0) (0)]) rfl (M.cellsL (k := 0) rfl rfl)) rfl ?_; clear F a; intro a F
    refine pk_keep_g F rfl rfl h21b ?_
    refine rl_guard_t F rfl rfl rfl h21b ?_
    refine rl_callS F ent9 rfl rfl (check_spec (x := (⟨u6, u7, (Lib.cut ((Lib.cut ((Lib.cut s ([32] : List UInt8)).2.1) ([32] : List UInt8)).2.1) ([32] : List UInt8)).2.1, ([] : List (List UInt8))⟩ : ItemD)) (t := 8) M hII19 RdSl.nil) ?_; clear F M a; rintro _ w a M rfl F
    refine rl_nil <| ⟨Keep G [.blk b1 [.int .u64 (((u6 : Nat) : Int)), .int .u8 (((u7 : Nat) : Int)), .string (str ((Lib.cut ((Lib.cut ((Lib.cut s ([32] : List UInt8)).2.1) ([32] : List UInt8)).2.1) ([32] : List UInt8)).2.1)), .slice none (0) (0)] 30], M.keep (Gle.refl _) (by simp), fun w h => h.mono (Gle.refl _) (by simp), ?_⟩
    refine pk_free_g F rfl rfl h21b (fun w _ => run_eqi (F.ev rfl) (F.ev rfl)) rfl ?_; clear F a; intro a F
    refine pk_free F (fun w _ => run_pick_t (F.ev rfl) h21b (F.ev rfl)) rfl ?_; clear F a; intro a F
    refine pk_free F (fun w _ => run_move (F.ev rfl)) rfl ?_; clear F a; intro a F
    rcases Bool.eq_false_or_eq_true (decide (itmF 8 ((⟨u6, u7, (Lib.cut ((Lib.cut ((Lib.cut s ([32] : List UInt8)).2.1) ([32] : List UInt8)).2.1) ([32] : List UInt8)).2.1, ([] : List (List UInt8))⟩ : ItemD)) = 0)) with hc | hc
    ·skip
     have h22b := hc; clear hc
     have h22 : itmF 8 ((⟨u6, u7, (Lib.cut ((Lib.cut ((Lib.cut s ([32] : List UInt8)).2.1) ([32] : List UInt8)).2.1) ([32] : List UInt8)).2.1, ([] : List (List UInt8))⟩ : ItemD)) = 0 := of_decide_eq_true h22b
     refine pk_pure_g F rfl rfl h22b (fun w M => run_loadA tok30 rfl (F.ev rfl) (cs := [.int .u64 (((u6 : Nat) : Int)), .int .u8 (((u7 : Nat) : Int)), .string (str ((Lib.cut ((Lib.cut ((Lib.cut s ([32] : List UInt8)).2.1) ([32] : List UInt8)).2.1) ([32] : List UInt8)).2.1)), .slice none (0) (0)]) rfl (M.cellsL (k := 0) rfl rfl)) rfl ?_; clear F a; intro a F
     refine pk_free_g F rfl rfl h22b (fun w _ => run_move (F.ev rfl)) rfl ?_; clear F a; intro a F
     refine pk_keep_g F rfl rfl h22b ?_
     refine rl_guard_t F rfl rfl rfl h22b ?_
     refine rl_callS F ent33 rfl rfl (line_spec (x := (⟨u6, u7, (Lib.cut ((Lib.cut ((Lib.cut s ([32] : List UInt8)).2.1) ([32] : List UInt8)).2.1) ([32] : List UInt8)).2.1, ([] : List (List UInt8))⟩ : ItemD)) M HG hII19 RdSl.nil (itmF_zero.1 (by assumption))) ?_; clear F M a; rintro _ w a M rfl F
     have hlll23 := line_len (x := (⟨u6, u7, (Lib.cut ((Lib.cut ((Lib.cut s ([32] : List UInt8)).2.1) ([32] : List UInt8)).2.1) ([32] : List UInt8)).2.1, ([] : List (List UInt8))⟩ : ItemD)) (itmF_zero.1 (by assumption)) hII19.1 hII19.2.1
     refine rl_nil <| ⟨Keep G [.blk b1 [.int .u64 (((u6 : Nat) : Int)), .int .u8 (((u7 : Nat) : Int)), .string (str ((Lib.cut ((Lib.cut ((Lib.cut s ([32] : List UInt8)).2.1) ([32] : List UInt8)).2.1) ([32] : List UInt8)).2.1)), .slice none (0) (0)] 30], M.keep (Gle.refl _) (by simp), fun w h => h.mono (Gle.refl _) (by simp), ?_⟩
     refine pk_free_g F rfl rfl h22b (fun w _ => run_strEq (F.ev rfl) (F.ev rfl)) rfl ?_; clear F a; intro a F
     refine pk_free F (fun w _ => run_pick_t (F.ev rfl) h22b (F.ev rfl)) rfl ?_; clear F a; intro a F
     refine pk_chg ?_ rfl
     refine rl_storeA F M tok30 (k := 0) rfl rfl rfl (us := [.int .u64 (((u6 : Nat) : Int)), .int .u8 (((u7 : Nat) : Int)), .string (str ((Lib.cut ((Lib.cut ((Lib.cut s ([32] : List UInt8)).2.1) ([32] : List UInt8)).2.1) ([32] : List UInt8)).2.1)), .slice none (0) (0)]) rfl rfl (by simp [Value.oneCell']) (by simp) ?_; clear F M a; intro w a M F
     change Mem w0 G (.blk b1 [.int .u64 (((u6 : Nat) : Int)), .int .u8 (((u7 : Nat) : Int)), .string (str ((Lib.cut ((Lib.cut ((Lib.cut s ([32] : List UInt8)).2.1) ([32] : List UInt8)).2.1) ([32] : List UInt8)).2.1)), .slice none (0) (0)] 30 :: L) _ at M
     refine rl_nil <| ⟨Keep G [.blk b1 [.int .u64 (((u6 : Nat) : Int)), .int .u8 (((u7 : Nat) : Int)), .string (str ((Lib.cut ((Lib.cut ((Lib.cut s ([32] : List UInt8)).2.1) ([32] : List UInt8)).2.1) ([32] : List UInt8)).2.1)), .slice none (0) (0)] 30], M.keep (Gle.refl _) (by simp), ?_⟩
     refine pk_free F (fun w _ => run_assign (F.ev rfl)) rfl ?_; clear F a; intro a F
     refine pk_nil <| q_tn <| wp_ret <| fin_ct F M (k := 0) rfl rfl tok30 rfl rfl rfl rfl ?_
     refine ⟨_, (Gle.refl _), M.weaken (.cons _ (List.Sublist.refl _)), (⟨u6, u7, (Lib.cut ((Lib.cut ((Lib.cut s ([32] : List UInt8)).2.1) ([32] : List UInt8)).2.1) ([32] : List UInt8)).2.1, ([] : List (List UInt8))⟩ : ItemD), none, 0, (decide ((lineF ((⟨u6, u7, (Lib.cut ((Lib.cut ((Lib.cut s ([32] : List UInt8)).2.1) ([32] : List UInt8)).2.1) ([32] : List UInt8)).2.1, ([] : List (List UInt8))⟩ : ItemD))) = s)), rfl, hII19, RdSl.nil, ?_, ?_⟩
     ·intro hb_; first | (cases hb_; done) | exact ⟨itmF_zero.1 (by assumption), hII19.1, of_decide_eq_true hb_⟩
     ·intro hb_ y hy; obtain ⟨q1, q2, q3⟩ := item_back hy hpuu6 (by omega) hpuu7; unfold marksG at q3; first | rw [if_neg (by assumption)] at q3 | rw [if_pos (by assumption)] at q3
      first | exact absurd (show true = false from q1.symm.trans (by assumption)) (by decide) | exact absurd (show true = false from q2.symm.trans (by assumption)) (by decide) | exact absurd (show itmF 8 (⟨u6, u7, (Lib.cut ((Lib.cut ((Lib.cut s ([32] : List UInt8)).2.1) ([32] : List UInt8)).2.1) ([32] : List UInt8)).2.1, ([] : List (List UInt8))⟩ : ItemD) = 0 by rw [q3]; exact itmF_yes hy.1) (by assumption) | exact absurd (show lineF (⟨u6, u7, (Lib.cut ((Lib.cut ((Lib.cut s ([32] : List UInt8)).2.1) ([32] : List UInt8)).2.1) ([32] : List UInt8)).2.1, ([] : List (List UInt8))⟩ : ItemD) = s by rw [q3]; exact hy.2.2) (of_decide_eq_false hb_)
    ·skip
     have h24b := hc; clear hc
     have h24 : ¬ (itmF 8 ((⟨u6, u7, (Lib.cut ((Lib.cut ((Lib.cut s ([32] : List UInt8)).2.1) ([32] : List UInt8)).2.1) ([32] : List UInt8)).2.1, ([] : List (List UInt8))⟩ : ItemD)) = 0) := of_decide_eq_false h24b
     iterate 4 (refine pk_skip F rfl rfl h24b rfl ?_; clear F a; intro a F)
     refine pk_free F (fun w _ => run_pick_f (F.ev rfl) h24b (F.ev rfl)) rfl ?_; clear F a; intro a F
     refine pk_chg ?_ rfl
     refine rl_storeA F M tok30 (k := 0) rfl rfl rfl (us := [.int .u64 (((u6 : Nat) : Int)), .int .u8 (((u7 : Nat) : Int)), .string (str ((Lib.cut ((Lib.cut ((Lib.cut s ([32] : List UInt8)).2.1) ([32] : List UInt8)).2.1) ([32] : List UInt8)).2.1)), .slice none (0) (0)]) rfl rfl (by simp [Value.oneCell']) (by simp) ?_; clear F M a; intro w a M F
     change Mem w0 G (.blk b1 [.int .u64 (((u6 : Nat) : Int)), .int .u8 (((u7 : Nat) : Int)), .string (str ((Lib.cut ((Lib.cut ((Lib.cut s ([32] : List UInt8)).2.1) ([32] : List UInt8)).2.1) ([32] : List UInt8)).2.1)), .slice none (0) (0)] 30 :: L) _ at M
     refine rl_nil <| ⟨Keep G [.blk b1 [.int .u64 (((u6 : Nat) : Int)), .int .u8 (((u7 : Nat) : Int)), .string (str ((Lib.cut ((Lib.cut ((Lib.cut s ([32] : List UInt8)).2.1) ([32] : List UInt8)).2.1) ([32] : List UInt8)).2.1)), .slice none (0) (0)] 30], M.keep (Gle.refl _) (by simp), ?_⟩
     refine pk_free F (fun w _ => run_assign (F.ev rfl)) rfl ?_; clear F a; intro a F
     refine pk_nil <| q_tn <| wp_ret <| fin_ct F M (k := 0) rfl rfl tok30 rfl rfl rfl rfl ?_
     refine ⟨_, (Gle.refl _), M.weaken (.cons _ (List.Sublist.refl _)), (⟨u6, u7, (Lib.cut ((Lib.cut ((Lib.cut s ([32] : List UInt8)).2.1) ([32] : List UInt8)).2.1) ([32] : List UInt8)).2.1, ([] : List (List UInt8))⟩ : ItemD), none, 0, false, rfl, hII19, RdSl.nil, ?_, ?_⟩
     ·intro hb_; first | (cases hb_; done) | exact ⟨itmF_zero.1 (by assumption), hII19.1, of_decide_eq_true hb_⟩
     ·intro hb_ y hy; obtain ⟨q1, q2, q3⟩ := item_back hy hpuu6 (by omega) hpuu7; unfold marksG at q3; first | rw [if_neg (by assumption)] at q3 | rw [if_pos (by assumption)] at q3
      first | exact absurd (show true = false from q1.symm.trans (by assumption)) (by decide) | exact absurd (show true = false from q2.symm.trans (by assumption)) (by decide) | exact absurd (show itmF 8 (⟨u6, u7, (Lib.cut ((Lib.cut ((Lib.cut s ([32] : List UInt8)).2.1) ([32] : List UInt8)).2.1) ([32] : List UInt8)).2.1, ([] : List (List UInt8))⟩ : ItemD) = 0 by rw [q3]; exact itmF_yes hy.1) (by assumption) | exact absurd (show lineF (⟨u6, u7, (Lib.cut ((Lib.cut ((Lib.cut s ([32] : List UInt8)).2.1) ([32] : List UInt8)).2.1) ([32] : List UInt8)).2.1, ([] : List (List UInt8))⟩ : ItemD) = s by rw [q3]; exact hy.2.2) (of_decide_eq_false hb_)
   ·skip
    have h25b := hc; clear hc
    have h25 : (isNilI eru7) = false := h25b
    iterate 3 (refine pk_skip F rfl rfl h25b rfl ?_; clear F a; intro a F)
    refine pk_free F (fun w _ => run_pick_f (F.ev rfl) h25b (F.ev rfl)) rfl ?_; clear F a; intro a F
    refine pk_free F (fun w _ => run_move (F.ev rfl)) rfl ?_; clear F a; intro a F
    iterate 4 (refine pk_skip F rfl rfl rfl rfl ?_; clear F a; intro a F)
    refine pk_free F (fun w _ => run_pick_f (F.ev rfl) rfl (F.ev rfl)) rfl ?_; clear F a; intro a F
    refine pk_chg ?_ rfl
    refine rl_storeA F M tok30 (k := 0) rfl rfl rfl (us := [.int .u64 (((u6 : Nat) : Int)), .int .u8 (((u7 : Nat) : Int)), .string (str ((Lib.cut ((Lib.cut ((Lib.cut s ([32] : List UInt8)).2.1) ([32] : List UInt8)).2.1) ([32] : List UInt8)).2.1)), .slice none (0) (0)]) rfl rfl (by simp [Value.oneCell']) (by simp) ?_; clear F M a; intro w a M F
    change Mem w0 G (.blk b1 [.int .u64 (((u6 : Nat) : Int)), .int .u8 (((u7 : Nat) : Int)), .string (str ((Lib.cut ((Lib.cut ((Lib.cut s ([32] : List UInt8)).2.1) ([32] : List UInt8)).2.1) ([32] : List UInt8)).2.1)), .slice none (0) (0)] 30 :: L) _ at M
    refine rl_nil <| ⟨Keep G [.blk b1 [.int .u64 (((u6 : Nat) : Int)), .int .u8 (((u7 : Nat) : Int)), .string (str ((Lib.cut ((Lib.cut ((Lib.cut s ([32] : List UInt8)).2.1) ([32] : List UInt8)).2.1) ([32] : List UInt8)).2.1)), .slice none (0) (0)] 30], M.keep (Gle.refl _) (by simp), ?_⟩
    refine pk_free F (fun w _ => run_assign (F.ev rfl)) rfl ?_; clear F a; intro a F
    refine pk_nil <| q_tn <| wp_ret <| fin_ct F M (k := 0) rfl rfl tok30 rfl rfl rfl rfl ?_
    refine ⟨_, (Gle.refl _), M.weaken (.cons _ (List.Sublist.refl _)), (⟨u6, u7, (Lib.cut ((Lib.cut ((Lib.cut s ([32] : List UInt8)).2.1) ([32] : List UInt8)).2.1) ([32] : List UInt8)).2.1, ([] : List (List UInt8))⟩ : ItemD), none, 0, false, rfl, hII19, RdSl.nil, ?_, ?_⟩
    ·intro hb_; first | (cases hb_; done) | exact ⟨itmF_zero.1 (by assumption), hII19.1, of_decide_eq_true hb_⟩
    ·intro hb_ y hy; obtain ⟨q1, q2, q3⟩ := item_back hy hpuu6 (by omega) hpuu7; unfold marksG at q3; first | rw [if_neg (by assumption)] at q3 | rw [if_pos (by assumption)] at q3
     first | exact absurd (show true = false from q1.symm.trans (by assumption)) (by decide) | exact absurd (show true = false from q2.symm.trans (by assumption)) (by decide) | exact absurd (show itmF 8 (⟨u6, u7, (Lib.cut ((Lib.cut ((Lib.cut s ([32] : List UInt8)).2.1) ([32] : List UInt8)).2.1) ([32] : List UInt8)).2.1, ([] : List (List UInt8))⟩ : ItemD) = 0 by rw [q3]; exact itmF_yes hy.1) (by assumption) | exact absurd (show lineF (⟨u6, u7, (Lib.cut ((Lib.cut ((Lib.cut s ([32] : List UInt8)).2.1) ([32] : List UInt8)).2.1) ([32] : List UInt8)).2.1, ([] : List (List UInt8))⟩ : ItemD) = s by rw [q3]; exact hy.2.2) (of_decide_eq_false hb_)
  ·skip
   have h26b := hc; clear hc
   have h26 : (isNilI eru6) = false := h26b
   iterate 2 (refine pk_skip F rfl rfl h26b rfl ?_; clear F a; intro a F)
   refine pk_free F (fun w _ => run_pick_f (F.ev rfl) h26b (F.ev rfl)) rfl ?_; clear F a; intro a F
   refine pk_free F (fun w _ => run_move (F.ev rfl)) rfl ?_; clear F a; intro a F
   iterate 3 (refine pk_skip F rfl rfl rfl rfl ?_; clear F a; intro a F)
   refine pk_free F (fun w _ => run_pick_f (F.ev rfl) rfl (F.ev rfl)) rfl ?_; clear F a; intro a F
   refine pk_free F (fun w _ => run_move (F.ev rfl)) rfl ?_; clear F a; intro a F
   iterate 4 (refine pk_skip F rfl rfl rfl rfl ?_; clear F a; intro a F)
   refine pk_free F (fun w _ => run_pick_f (F.ev rfl) rfl (F.ev rfl)) rfl ?_; clear F a; intro a F
   refine pk_chg ?_ rfl
   refine rl_storeA F M tok30 (k := 0) rfl rfl rfl (us := [.int .u64 (((u6 : Nat) : Int)), .int .u8 (((u7 : Nat) : Int)), .string (str ((Lib.cut ((Lib.cut ((Lib.cut s ([32] : List UInt8)).2.1) ([32] : List UInt8)).2.1) ([32] : List UInt8)).2.1)), .slice none (0) (0)]) rfl rfl (by simp [Value.oneCell']) (by simp) ?_; clear F M a; intro w a M F
   change Mem w0 G (.blk b1 [.int .u64 (((u6 : Nat) : Int)), .int .u8 (((u7 : Nat) : Int)), .string (str ((Lib.cut ((Lib.cut ((Lib.cut s ([32] : List UInt8)).2.1) ([32] : List UInt8)).2.1) ([32] : List UInt8)).2.1)), .slice none (0) (0)] 30 :: L) _ at M
   refine rl_nil <| ⟨Keep G [.blk b1 [.int .u64 (((u6 : Nat) : Int)), .int .u8 (((u7 : Nat) : Int)), .string (str ((Lib.cut ((Lib.cut ((Lib.cut s ([32] : List UInt8)).2.1) ([32] : List UInt8)).2.1) ([32] : List UInt8)).2.1)), .slice none (0) (0)] 30], M.keep (Gle.refl _) (by simp), ?_⟩
   refine pk_free F (fun w _ => run_assign (F.ev rfl)) rfl ?_; clear F a; intro a F
   refine pk_nil <| q_tn <| wp_ret <| fin_ct F M (k := 0) rfl rfl tok30 rfl rfl rfl rfl ?_
   refine ⟨_, (Gle.refl _), M.weaken (.cons _ (List.Sublist.refl _)), (⟨u6, u7, (Lib.cut ((Lib.cut ((Lib.cut s ([32] : List UInt8)).2.1) ([32] : List UInt8)).2.1) ([32] : List UInt8)).2.1, ([] : List (List UInt8))⟩ : ItemD), none, 0, false, rfl, hII19, RdSl.nil, ?_, ?_⟩
   ·intro hb_; first | (cases hb_; done) | exact ⟨itmF_zero.1 (by assumption), hII19.1, of_decide_eq_true hb_⟩
   ·intro hb_ y hy; obtain ⟨q1, q2, q3⟩ := item_back hy hpuu6 (by omega) hpuu7; unfold marksG at q3; first | rw [if_neg (by assumption)] at q3 | rw [if_pos (by assumption)] at q3
    first | exact absurd (show true = false from q1.symm.trans (by assumption)) (by decide) | exact absurd (show true = false from q2.symm.trans (by assumption)) (by decide) | exact absurd (show itmF 8 (⟨u6, u7, (Lib.cut ((Lib.cut ((Lib.cut s ([32] : List UInt8)).2.1) ([32] : List UInt8)).2.1) ([32] : List UInt8)).2.1, ([] : List (List UInt8))⟩ : ItemD) = 0 by rw [q3]; exact itmF_yes hy.1) (by assumption) | exact absurd (show lineF (⟨u6, u7, (Lib.cut ((Lib.cut ((Lib.cut s ([32] : List UInt8)).2.1) ([32] : List UInt8)).2.1) ([32] : List UInt8)).2.1, ([] : List (List UInt8))⟩ : ItemD) = s by rw [q3]; exact hy.2.2) (of_decide_eq_false hb_)
theorem cut_lt {c : UInt8} {s : List UInt8} (h : (Lib.cut s [c]).2.2 = true) : (Lib.cut s [c]).2.1.length < s.length := by
 rw [cut_ix] at h ⊢
 split
 ·rename_i h1; simp only [List.length_drop]; omega
 ·rename_i h1; rw [if_neg h1] at h; cases h
theorem read_spec {w0 w : World} {G : Ghost} {L : List Res} (M : Mem w0 G L w) {s : List UInt8} (hs : s.length ≤ 1048578) : Calls Tryd.prog 39 #[.string (str s)] w (Ret w0 G L fun G' v => ∃ (x : ItemD) (ma : Option Addr) (mc : Nat) (b : Bool), v = .tuple #[.agg #[.int .u64 (((x.key : Nat) : Int)), .int .u8 (((x.typ : Nat) : Int)), .string (str (x.text)), .slice (ma) (x.marks.length) (mc)], .int .i64 (if b = true then 1 else 0)] ∧ (x.key < 18446744073709551616 ∧ x.typ < 256 ∧ x.text.length ≤ 9223372036854775807) ∧ RdSl rdStr 1 G' (.slice ma x.marks.length mc) x.marks ∧ (b = true → Rd10 s x) ∧ (b = false → ∀ y, ¬ Rd10 s y)) := by
 refine calls_start (vs := [_]) Tryd.func39 rfl (n := 106) rfl rfl ?_
 intro a F
 refine wp_seq <| w_reg <| rl_alloc F M tok30 rfl rfl ?_; clear F M a; intro b1 w a M F
 refine rl_run F (run_assign (F.ev rfl)) rfl ?_; clear F a; intro a F
 refine rl_nil <| q_tn <| wp_seq <| w_reg <| rl_run F (run_move (F.ev rfl)) rfl ?_; clear F a; intro a F
 refine rl_callS F ent38 rfl rfl (rcut_spec (s := s) (c := (32 : UInt8)) M (by omega)) ?_; clear F M a; rintro _ w a M rfl F
 have hclc3 := cut_lens (32 : UInt8) s
 refine rl_run F (run_move (F.ev rfl)) rfl ?_; clear F a; intro a F
 refine rl_run F (run_extract (v := .string (str ((Lib.cut s [(32 : UInt8)]).1))) (F.ev rfl) rfl) rfl ?_; clear F a; intro a F
 refine rl_run F (run_extract (v := .string (str ((Lib.cut s [(32 : UInt8)]).2.1))) (F.ev rfl) rfl) rfl ?_; clear F a; intro a F
 refine rl_run F (run_extract (v := .int .i64 ((if (Lib.cut s [(32 : UInt8)]).2.2 = true then (1 : Int) else 0))) (F.ev rfl) rfl) rfl ?_; clear F a; intro a F
 iterate 3 (refine rl_run F (run_assign (F.ev rfl)) rfl ?_; clear F a; intro a F)
 refine rl_nil <| q_tn <| wp_seq <| w_reg <| rl_run F (run_move (F.ev rfl)) rfl ?_; clear F a; intro a F
 refine rl_callS F ent38 rfl rfl (rcut_spec (s := (Lib.cut s [(32 : UInt8)]).2.1) (c := (32 : UInt8)) M (by omega)) ?_; clear F M a; rintro _ w a M rfl F
 have hclc4 := cut_lens (32 : UInt8) ((Lib.cut s [(32 : UInt8)]).2.1)
 refine rl_run F (run_move (F.ev rfl)) rfl ?_; clear F a; intro a F
 refine rl_run F (run_extract (v := .string (str ((Lib.cut ((Lib.cut s [(32 : UInt8)]).2.1) [(32 : UInt8)]).1))) (F.ev rfl) rfl) rfl ?_; clear F a; intro a F
 refine rl_run F (run_extract (v := .string (str ((Lib.cut ((Lib.cut s [(32 : UInt8)]).2.1) [(32 : UInt8)]).2.1))) (F.ev rfl) rfl) rfl ?_; clear F a; intro a F
 refine rl_run F (run_extract (v := .int .i64 ((if (Lib.cut ((Lib.cut s [(32 : UInt8)]).2.1) [(32 : UInt8)]).2.2 = true then (1 : Int) else 0))) (F.ev rfl) rfl) rfl ?_; clear F a; intro a F
 iterate 3 (refine rl_run F (run_assign (F.ev rfl)) rfl ?_; clear F a; intro a F)
 refine rl_nil <| q_tn <| wp_seq <| w_reg <| rl_run F (run_move (F.ev rfl)) rfl ?_; clear F a; intro a F
 refine rl_callS F ent38 rfl rfl (rcut_spec (s := (Lib.cut ((Lib.cut s [(32 : UInt8)]).2.1) [(32 : UInt8)]).2.1) (c := (32 : UInt8)) M (by omega)) ?_; clear F M a; rintro _ w a M rfl F
 have hclc5 := cut_lens (32 : UInt8) ((Lib.cut ((Lib.cut s [(32 : UInt8)]).2.1) [(32 : UInt8)]).2.1)
 refine rl_run F (run_move (F.ev rfl)) rfl ?_; clear F a; intro a F
 refine rl_run F (run_extract (v := .string (str ((Lib.cut ((Lib.cut ((Lib.cut s [(32 : UInt8)]).2.1) [(32 : UInt8)]).2.1) [(32 : UInt8)]).1))) (F.ev rfl) rfl) rfl ?_; clear F a; intro a F
 refine rl_run F (run_extract (v := .string (str ((Lib.cut ((Lib.cut ((Lib.cut s [(32 : UInt8)]).2.1) [(32 : UInt8)]).2.1) [(32 : UInt8)]).2.1))) (F.ev rfl) rfl) rfl ?_; clear F a; intro a F
 refine rl_run F (run_extract (v := .int .i64 ((if (Lib.cut ((Lib.cut ((Lib.cut s [(32 : UInt8)]).2.1) [(32 : UInt8)]).2.1) [(32 : UInt8)]).2.2 = true then (1 : Int) else 0))) (F.ev rfl) rfl) rfl ?_; clear F a; intro a F
 iterate 3 (refine rl_run F (run_assign (F.ev rfl)) rfl ?_; clear F a; intro a F)
 refine rl_nil <| q_tn <| wp_seq <| w_reg <| rl_run F (run_move (F.ev rfl)) rfl ?_; clear F a; intro a F
 refine rl_callS F ent38 rfl rfl (rcut_spec (s := (Lib.cut ((Lib.cut ((Lib.cut s [(32 : UInt8)]).2.1) [(32 : UInt8)]).2.1) [(32 : UInt8)]).2.1) (c := (10 : UInt8)) M (by omega)) ?_; clear F M a; rintro _ w a M rfl F
 have hclc6 := cut_lens (10 : UInt8) ((Lib.cut ((Lib.cut ((Lib.cut s [(32 : UInt8)]).2.1) [(32 : UInt8)]).2.1) [(32 : UInt8)]).2.1)
 refine rl_run F (run_move (F.ev rfl)) rfl ?_; clear F a; intro a F
 refine rl_run F (run_extract (v := .string (str ((Lib.cut ((Lib.cut ((Lib.cut ((Lib.cut s [(32 : UInt8)]).2.1) [(32 : UInt8)]).2.1) [(32 : UInt8)]).2.1) [(10 : UInt8)]).1))) (F.ev rfl) rfl) rfl ?_; clear F a; intro a F
 refine rl_run F (run_extract (v := .string (str ((Lib.cut ((Lib.cut ((Lib.cut ((Lib.cut s [(32 : UInt8)]).2.1) [(32 : UInt8)]).2.1) [(32 : UInt8)]).2.1) [(10 : UInt8)]).2.1))) (F.ev rfl) rfl) rfl ?_; clear F a; intro a F
 refine rl_run F (run_extract (v := .int .i64 ((if (Lib.cut ((Lib.cut ((Lib.cut ((Lib.cut s [(32 : UInt8)]).2.1) [(32 : UInt8)]).2.1) [(32 : UInt8)]).2.1) [(10 : UInt8)]).2.2 = true then (1 : Int) else 0))) (F.ev rfl) rfl) rfl ?_; clear F a; intro a F
 iterate 3 (refine rl_run F (run_assign (F.ev rfl)) rfl ?_; clear F a; intro a F)
 refine rl_nil <| q_tn <| wp_seq <| w_reg <| rl_run F (run_move (F.ev rfl)) rfl ?_; clear F a; intro a F
 refine rl_callS F ent56 rfl rfl (rval_spec (s := (Lib.cut s [(32 : UInt8)]).1) M (by omega)) ?_; clear F M a; rintro _ w a M ⟨u7, bu7, rfl, hpuu7⟩ F
 refine rl_run F (run_move (F.ev rfl)) rfl ?_; clear F a; intro a F
 refine rl_run F (run_extract (v := .int .u64 (((u7 : Nat) : Int))) (F.ev rfl) rfl) rfl ?_; clear F a; intro a F
 refine rl_run F (run_extract (v := .int .i64 ((if bu7 = true then (1 : Int) else 0))) (F.ev rfl) rfl) rfl ?_; clear F a; intro a F
 iterate 2 (refine rl_run F (run_assign (F.ev rfl)) rfl ?_; clear F a; intro a F)
 refine rl_nil <| q_tn <| wp_seq <| w_reg <| rl_run F (run_move (F.ev rfl)) rfl ?_; clear F a; intro a F
 refine rl_callS F ent56 rfl rfl (rval_spec (s := (Lib.cut ((Lib.cut s [(32 : UInt8)]).2.1) [(32 : UInt8)]).1) M (by omega)) ?_; clear F M a; rintro _ w a M ⟨u8, bu8, rfl, hpuu8⟩ F
 refine rl_run F (run_move (F.ev rfl)) rfl ?_; clear F a; intro a F
 refine rl_run F (run_extract (v := .int .u64 (((u8 : Nat) : Int))) (F.ev rfl) rfl) rfl ?_; clear F a; intro a F
 refine rl_run F (run_extract (v := .int .i64 ((if bu8 = true then (1 : Int) else 0))) (F.ev rfl) rfl) rfl ?_; clear F a; intro a F
 iterate 2 (refine rl_run F (run_assign (F.ev rfl)) rfl ?_; clear F a; intro a F)
 refine rl_nil <| q_tn ?_
 iterate 2 (refine wp_seq ?_)
 have hB := fun (y : ItemD) (hy : Rd10 s y) => read_back hy hpuu7 (by omega) hpuu8
 have hlt1 := hpuu7.1
 have hlt2 := hpuu8.1
 refine w_reg ?_
 iterate 2 (refine rl_run F (run_move (F.ev rfl)) rfl ?_; clear F a; intro a F)
 refine rl_run F (run_muli (F.ev rfl) (F.ev rfl) (in_i64 (by ((repeat' split) <;> omega)) (by ((repeat' split) <;> omega)))) rfl ?_; clear F a; intro a F
 refine rl_run F (run_move (F.ev rfl)) rfl ?_; clear F a; intro a F
 refine rl_run F (run_muli (F.ev rfl) (F.ev rfl) (in_i64 (by ((repeat' split) <;> omega)) (by ((repeat' split) <;> omega)))) rfl ?_; clear F a; intro a F
 refine rl_run F (run_eqi (F.ev rfl) (F.ev rfl)) rfl ?_; clear F a; intro a F
 refine rl_run F (run_move (F.ev rfl)) rfl ?_; clear F a; intro a F
 rcases Bool.eq_false_or_eq_true (decide ((((if bu7 = true then (1 : Int) else 0)) * ((if bu8 = true then (1 : Int) else 0))) * ((if (Lib.cut ((Lib.cut ((Lib.cut ((Lib.cut s [(32 : UInt8)]).2.1) [(32 : UInt8)]).2.1) [(32 : UInt8)]).2.1) [(10 : UInt8)]).2.2 = true then (1 : Int) else 0)) = 0)) with hc | hc
 ·skip
  have h9b := hc; clear hc
  have h9 : (((if bu7 = true then (1 : Int) else 0)) * ((if bu8 = true then (1 : Int) else 0))) * ((if (Lib.cut ((Lib.cut ((Lib.cut ((Lib.cut s [(32 : UInt8)]).2.1) [(32 : UInt8)]).2.1) [(32 : UInt8)]).2.1) [(10 : UInt8)]).2.2 = true then (1 : Int) else 0)) = 0 := of_decide_eq_true h9b
  iterate 2 (refine rl_guard_f F rfl rfl rfl h9b ?_; clear F a; intro a F)
  refine rl_run F (run_pick_t (F.ev rfl) h9b (F.ev rfl)) rfl ?_; clear F a; intro a F
  refine rl_run F (run_move (F.ev rfl)) rfl ?_; clear F a; intro a F
  iterate 2 (refine rl_guard_f F rfl rfl rfl rfl ?_; clear F a; intro a F)
  refine rl_run F (run_pick_t (F.ev rfl) rfl (F.ev rfl)) rfl ?_; clear F a; intro a F
  refine rl_nil <| q_tn <| w_cond_t F rfl rfl ?_
  refine wp_seq <| w_reg <| rl_run F (run_buildS (cs := [.int .u64 (0), .int .u8 (0), .string (str ([] : List UInt8)), .slice none (0) (0)]) (ps := []) tok30.k rfl tok30 (F.evp rfl) rfl) rfl ?_; clear F a; intro a F
  refine rl_storeA F M tok30 (k := 0) rfl rfl rfl (us := [.int .u64 (0), .int .u8 (0), .string (str ([] : List UInt8)), .slice none (0) (0)]) rfl rfl (by simp [Value.oneCell']) (by simp) ?_; clear F M a; intro w a M F
  change Mem w0 G (.blk b1 [.int .u64 (0), .int .u8 (0), .string (str ([] : List UInt8)), .slice none (0) (0)] 30 :: L) _ at M
  refine rl_run F (run_assign (F.ev rfl)) rfl ?_; clear F a; intro a F
  refine rl_nil <| q_tn <| wp_ret <| q_tr <| fin_ct F M (k := 0) rfl rfl tok30 rfl rfl rfl rfl ?_
  refine ⟨_, (Gle.refl _), M.weaken (.cons _ (List.Sublist.refl _)), (⟨0, 0, [], []⟩ : ItemD), none, 0, false, rfl, ⟨by decide, by decide, by decide⟩, RdSl.nil, fun h_ => (by cases h_), fun _ y hy => ?_⟩
  obtain ⟨q1, q2, q3, q4, q5, q6⟩ := hB y hy
  first | exact absurd (show (((if bu7 = true then (1 : Int) else 0)) * ((if bu8 = true then (1 : Int) else 0))) * ((if (Lib.cut ((Lib.cut ((Lib.cut ((Lib.cut s [(32 : UInt8)]).2.1) [(32 : UInt8)]).2.1) [(32 : UInt8)]).2.1) [(10 : UInt8)]).2.2 = true then (1 : Int) else 0)) = 0 by assumption) (by rw [q1, q2, q6]; simp) | (have h9_ := hy.1.2.1; omega)
 ·skip
  have h10b := hc; clear hc
  have h10 : ¬ ((((if bu7 = true then (1 : Int) else 0)) * ((if bu8 = true then (1 : Int) else 0))) * ((if (Lib.cut ((Lib.cut ((Lib.cut ((Lib.cut s [(32 : UInt8)]).2.1) [(32 : UInt8)]).2.1) [(32 : UInt8)]).2.1) [(10 : UInt8)]).2.2 = true then (1 : Int) else 0)) = 0) := of_decide_eq_false h10b
  refine rl_guard_t F rfl rfl rfl h10b ?_
  refine rl_run F (run_move (F.ev rfl)) rfl ?_; clear F a; intro a F
  refine rl_guard_t F rfl rfl rfl h10b ?_
  refine rl_run F (run_gtr (F.ev rfl) (F.ev rfl)) rfl ?_; clear F a; intro a F
  refine rl_run F (run_pick_f (F.ev rfl) h10b (F.ev rfl)) rfl ?_; clear F a; intro a F
  refine rl_run F (run_move (F.ev rfl)) rfl ?_; clear F a; intro a F
  rcases Bool.eq_false_or_eq_true (decide (7 < ((u8 : Nat) : Int))) with hc | hc
  ·skip
   have h11b := hc; clear hc
   have h11 : 7 < ((u8 : Nat) : Int) := of_decide_eq_true h11b
   iterate 2 (refine rl_guard_f F rfl rfl rfl h11b ?_; clear F a; intro a F)
   refine rl_run F (run_pick_t (F.ev rfl) h11b (F.ev rfl)) rfl ?_; clear F a; intro a F
   refine rl_nil <| q_tn <| w_cond_t F rfl rfl ?_
   refine wp_seq <| w_reg <| rl_run F (run_buildS (cs := [.int .u64 (0), .int .u8 (0), .string (str ([] : List UInt8)), .slice none (0) (0)]) (ps := []) tok30.k rfl tok30 (F.evp rfl) rfl) rfl ?_; clear F a; intro a F
   refine rl_storeA F M tok30 (k := 0) rfl rfl rfl (us := [.int .u64 (0), .int .u8 (0), .string (str ([] : List UInt8)), .slice none (0) (0)]) rfl rfl (by simp [Value.oneCell']) (by simp) ?_; clear F M a; intro w a M F
   change Mem w0 G (.blk b1 [.int .u64 (0), .int .u8 (0), .string (str ([] : List UInt8)), .slice none (0) (0)] 30 :: L) _ at M
   refine rl_run F (run_assign (F.ev rfl)) rfl ?_; clear F a; intro a F
   refine rl_nil <| q_tn <| wp_ret <| q_tr <| fin_ct F M (k := 0) rfl rfl tok30 rfl rfl rfl rfl ?_
   refine ⟨_, (Gle.refl _), M.weaken (.cons _ (List.Sublist.refl _)), (⟨0, 0, [], []⟩ : ItemD), none, 0, false, rfl, ⟨by decide, by decide, by decide⟩, RdSl.nil, fun h_ => (by cases h_), fun _ y hy => ?_⟩
   obtain ⟨q1, q2, q3, q4, q5, q6⟩ := hB y hy
   first | exact absurd (show (((if bu7 = true then (1 : Int) else 0)) * ((if bu8 = true then (1 : Int) else 0))) * ((if (Lib.cut ((Lib.cut ((Lib.cut ((Lib.cut s [(32 : UInt8)]).2.1) [(32 : UInt8)]).2.1) [(32 : UInt8)]).2.1) [(10 : UInt8)]).2.2 = true then (1 : Int) else 0)) = 0 by assumption) (by rw [q1, q2, q6]; simp) | (have h9_ := hy.1.2.1; omega)
  ·skip
   have h12b := hc; clear hc
   have h12 : ¬ (7 < ((u8 : Nat) : Int)) := of_decide_eq_false h12b
   refine rl_guard_t F rfl rfl rfl h12b ?_
   refine rl_run F (run_move (F.ev rfl)) rfl ?_; clear F a; intro a F
   refine rl_guard_t F rfl rfl rfl h12b ?_
   refine rl_run F (run_strNe (F.ev rfl) (F.ev rfl)) rfl ?_; clear F a; intro a F
   refine rl_run F (run_pick_f (F.ev rfl) h12b (F.ev rfl)) rfl ?_; clear F a; intro a F
   refine rl_nil <| q_tn <| w_cond F rfl ?_ ?_
   ·intro hc
    have h13b := hc; clear hc
    have h13 : ¬ (((Lib.cut ((Lib.cut ((Lib.cut ((Lib.cut s [(32 : UInt8)]).2.1) [(32 : UInt8)]).2.1) [(32 : UInt8)]).2.1) [(10 : UInt8)]).2.1) = ([] : List UInt8)) := of_decide_eq_false (of_not_t h13b)
    have h13c : (decide (((Lib.cut ((Lib.cut ((Lib.cut ((Lib.cut s [(32 : UInt8)]).2.1) [(32 : UInt8)]).2.1) [(32 : UInt8)]).2.1) [(10 : UInt8)]).2.1) = ([] : List UInt8))) = false := (of_not_t h13b)
    refine wp_seq <| w_reg <| rl_run F (run_buildS (cs := [.int .u64 (0), .int .u8 (0), .string (str ([] : List UInt8)), .slice none (0) (0)]) (ps := []) tok30.k rfl tok30 (F.evp rfl) rfl) rfl ?_; clear F a; intro a F
    refine rl_storeA F M tok30 (k := 0) rfl rfl rfl (us := [.int .u64 (0), .int .u8 (0), .string (str ([] : List UInt8)), .slice none (0) (0)]) rfl rfl (by simp [Value.oneCell']) (by simp) ?_; clear F M a; intro w a M F
    change Mem w0 G (.blk b1 [.int .u64 (0), .int .u8 (0), .string (str ([] : List UInt8)), .slice none (0) (0)] 30 :: L) _ at M
    refine rl_run F (run_assign (F.ev rfl)) rfl ?_; clear F a; intro a F
    refine rl_nil <| q_tn <| wp_ret <| q_tr <| fin_ct F M (k := 0) rfl rfl tok30 rfl rfl rfl rfl ?_
    refine ⟨_, (Gle.refl _), M.weaken (.cons _ (List.Sublist.refl _)), (⟨0, 0, [], []⟩ : ItemD), none, 0, false, rfl, ⟨by decide, by decide, by decide⟩, RdSl.nil, fun h_ => (by cases h_), fun _ y hy => ?_⟩
    obtain ⟨q1, q2, q3, q4, q5, q6⟩ := hB y hy
    first | exact absurd (show (((if bu7 = true then (1 : Int) else 0)) * ((if bu8 = true then (1 : Int) else 0))) * ((if (Lib.cut ((Lib.cut ((Lib.cut ((Lib.cut s [(32 : UInt8)]).2.1) [(32 : UInt8)]).2.1) [(32 : UInt8)]).2.1) [(10 : UInt8)]).2.2 = true then (1 : Int) else 0)) = 0 by assumption) (by rw [q1, q2, q6]; simp) | (have h9_ := hy.1.2.1; omega) | exact absurd (show (Lib.cut ((Lib.cut ((Lib.cut ((Lib.cut s [(32 : UInt8)]).2.1) [(32 : UInt8)]).2.1) [(32 : UInt8)]).2.1) [(10 : UInt8)]).2.1 = [] by rw [q6]) (by assumption)
   ·intro hc
    have h14b := hc; clear hc
    have h14 : ((Lib.cut ((Lib.cut ((Lib.cut ((Lib.cut s [(32 : UInt8)]).2.1) [(32 : UInt8)]).2.1) [(32 : UInt8)]).2.1) [(10 : UInt8)]).2.1) = ([] : List UInt8) := of_decide_eq_true (of_not_f h14b)
    have h14c : (decide (((Lib.cut ((Lib.cut ((Lib.cut ((Lib.cut s [(32 : UInt8)]).2.1) [(32 : UInt8)]).2.1) [(32 : UInt8)]).2.1) [(10 : UInt8)]).2.1) = ([] : List UInt8))) = true := (of_not_f h14b)
    refine wp_skip <| q_tn <| wp_seq <| w_reg ?_
    iterate 2 (refine rl_run F (run_move (F.ev rfl)) rfl ?_; clear F a; intro a F)
    refine rl_run F (run_conv_int tok5.k ⟨_, by rw [under_int tok27.k]⟩ (F.ev rfl) (in_u8 (by omega) (by omega))) rfl ?_; clear F a; intro a F
    refine rl_run F (run_move (F.ev rfl)) rfl ?_; clear F a; intro a F
    refine rl_run F (run_buildS (cs := [.int .u64 (((u7 : Nat) : Int)), .int .u8 (((u8 : Nat) : Int)), .string (str ((Lib.cut ((Lib.cut ((Lib.cut ((Lib.cut s [(32 : UInt8)]).2.1) [(32 : UInt8)]).2.1) [(32 : UInt8)]).2.1) [(10 : UInt8)]).1)), .slice none (0) (0)]) (ps := [(0, .int .u64 (((u7 : Nat) : Int))), (1, .int .u8 (((u8 : Nat) : Int))), (2, .string (str ((Lib.cut ((Lib.cut ((Lib.cut ((Lib.cut s [(32 : UInt8)]).2.1) [(32 : UInt8)]).2.1) [(32 : UInt8)]).2.1) [(10 : UInt8)]).1)))]) tok30.k rfl tok30 (F.evp rfl) rfl) rfl ?_; clear F a; intro a F
    refine rl_alloc F M tok30 rfl rfl ?_; clear F M a; intro b15 w a M F
    refine rl_storeA F M tok30 (k := 0) rfl rfl rfl (us := [.int .u64 (((u7 : Nat) : Int)), .int .u8 (((u8 : Nat) : Int)), .string (str ((Lib.cut ((Lib.cut ((Lib.cut ((Lib.cut s [(32 : UInt8)]).2.1) [(32 : UInt8)]).2.1) [(32 : UInt8)]).2.1) [(10 : UInt8)]).1)), .slice none (0) (0)]) rfl rfl (by simp [Value.oneCell']) (by simp) ?_; clear F M a; intro w a M F
    change Mem w0 G (.blk b15 [.int .u64 (((u7 : Nat) : Int)), .int .u8 (((u8 : Nat) : Int)), .string (str ((Lib.cut ((Lib.cut ((Lib.cut ((Lib.cut s [(32 : UInt8)]).2.1) [(32 : UInt8)]).2.1) [(32 : UInt8)]).2.1) [(10 : UInt8)]).1)), .slice none (0) (0)] 30 :: _ :: L) _ at M
    refine rl_nil <| q_tn <| wp_seq <| wp_block ?_
    change Mem w0 G (.blk b15 [.int .u64 (((u7 : Nat) : Int)), .int .u8 (((u8 : Nat) : Int)), .string (str ((Lib.cut ((Lib.cut ((Lib.cut ((Lib.cut s [(32 : UInt8)]).2.1) [(32 : UInt8)]).2.1) [(32 : UInt8)]).2.1) [(10 : UInt8)]).1)), .slice none (0) (0)] 30 :: _ :: L) _ at M
    have M := (M.nilrow 9 1).perm (List.Perm.swap _ _ _)
    change Mem w0 G (.blk b15 [.int .u64 (((u7 : Nat) : Int)), .int .u8 (((u8 : Nat) : Int)), .string (str ((Lib.cut ((Lib.cut ((Lib.cut ((Lib.cut s [(32 : UInt8)]).2.1) [(32 : UInt8)]).2.1) [(32 : UInt8)]).2.1) [(10 : UInt8)]).1)), .slice none (0) (0)] 30 :: .row (.slice none (0) (0)) (0) ([]) 9 1 :: .blk b1 [.int .u64 (0), .int .u8 (0), .string (str ([] : List UInt8)), .slice none (0) (0)] 30 :: L) _ at M
    refine w_loopN (fun m a' w' => ∃ (am : Option Addr), ∃ (nm : Nat), ∃ (cm : Nat), ∃ (csm : List Value), ∃ (xs : List (List UInt8)), ∃ (c : List UInt8), m = c.length ∧ Fits 106 a' [(0, .string (str (s))), (2, .pointer (some ⟨b1, 0, none⟩)), (3, .int .i64 (0)), (20, .pointer (some ⟨b15, 0, none⟩)), (10, .string (str (c)))] ∧ Mem w0 G (.blk b15 [.int .u64 (((u7 : Nat) : Int)), .int .u8 (((u8 : Nat) : Int)), .string (str ((Lib.cut ((Lib.cut ((Lib.cut ((Lib.cut s [(32 : UInt8)]).2.1) [(32 : UInt8)]).2.1) [(32 : UInt8)]).2.1) [(10 : UInt8)]).1)), .slice (am) (nm) (cm)] 30 :: .row (.slice (am) (nm) (cm)) (nm) (csm) 9 1 :: .blk b1 [.int .u64 (0), .int .u8 (0), .string (str ([] : List UInt8)), .slice none (0) (0)] 30 :: L) w' ∧ (Els rdStr 1 G csm xs) ∧ (xs.length + c.length ≤ s.length) ∧ (nm = xs.length) ∧ (∀ y, Rd10 s y → MkI y.marks xs c)) _ ⟨none, 0, 0, [], [], (Lib.cut ((Lib.cut ((Lib.cut s [(32 : UInt8)]).2.1) [(32 : UInt8)]).2.1) [(32 : UInt8)]).1, rfl, F.to ⟨rfl, rfl, rfl, rfl, rfl, trivial⟩, M, rfl, by simp only [List.length_nil]; omega, rfl, fun y hy => MkI.nil (hB y hy).2.2.2.2.1⟩ ?_
    clear F M
    rintro m a w ⟨am, nm, cm, csm, xs, c, rfl, F, M, Em, hxl, hnm, hM⟩
    iterate 2 (refine wp_seq ?_)
    refine w_reg <| rl_run F (run_move (F.ev rfl)) rfl ?_; clear F a; intro a F
    refine rl_run F (run_strNe (F.ev rfl) (F.ev rfl)) rfl ?_; clear F a; intro a F
    refine rl_nil <| q_tn <| w_cond F rfl ?_ ?_
    ·intro hc
     have h17b := hc; clear hc
     have h17 : ¬ (c = ([45] : List UInt8)) := of_decide_eq_false (of_not_t h17b)
     have h17c : (decide (c = ([45] : List UInt8))) = false := (of_not_t h17b)
     refine wp_skip <| q_tn <| wp_block <| wp_seq <| w_reg <| rl_run F (run_move (F.ev rfl)) rfl ?_; clear F a; intro a F
     refine rl_callS F ent38 rfl rfl (rcut_spec (s := c) (c := (44 : UInt8)) M (by omega)) ?_; clear F M a; rintro _ w a M rfl F
     have hclc18 := cut_lens (44 : UInt8) c
     refine rl_run F (run_move (F.ev rfl)) rfl ?_; clear F a; intro a F
     refine rl_run F (run_extract (v := .string (str ((Lib.cut c [(44 : UInt8)]).1))) (F.ev rfl) rfl) rfl ?_; clear F a; intro a F
     refine rl_run F (run_extract (v := .string (str ((Lib.cut c [(44 : UInt8)]).2.1))) (F.ev rfl) rfl) rfl ?_; clear F a; intro a F
     refine rl_run F (run_extract (v := .int .i64 ((if (Lib.cut c [(44 : UInt8)]).2.2 = true then (1 : Int) else 0))) (F.ev rfl) rfl) rfl ?_; clear F a; intro a F
     iterate 3 (refine rl_run F (run_assign (F.ev rfl)) rfl ?_; clear F a; intro a F)
     refine rl_nil <| q_tn <| wp_seq <| w_reg <| rl_run F (run_fieldAddr tok30.k rfl rfl (F.ev rfl)) rfl ?_; clear F a; intro a F
     refine rl_run F (run_load1 (agf tok28 rfl) (F.ev rfl) (M.cellL (k := 0) rfl rfl)) rfl ?_; clear F a; intro a F
     refine rl_run F (run_move (F.ev rfl)) rfl ?_; clear F a; intro a F
     refine rl_buildSlice1 F M tok28.k tok9 rfl rfl (cs := [.string (str ((Lib.cut c [(44 : UInt8)]).1))]) rfl rfl (by simp [Value.oneCell']) (by decide) rfl ?_; clear F M a; intro v19 w a M F
     obtain ⟨av19, cv19, rfl, hlev19, hcmv19, hlv19⟩ := M.row_shape (k := 0) rfl
     have Eb : Els rdStr 1 G [.string (str ((Lib.cut c [(44 : UInt8)]).1))] [(Lib.cut c [(44 : UInt8)]).1] := ⟨[.string (str ((Lib.cut c [(44 : UInt8)]).1))], [], rfl, rfl, ⟨rfl, by omega⟩, rfl⟩
     refine rl_append_row F M (k := 2) (k2 := 0) rfl rfl tok28.k tok9 rfl rfl (by decide) rfl rfl (by show _ * 16 ≤ _; (try simp only [List.length_drop, List.length_take, List.length_append, List.length_cons, List.length_nil]); omega) (by (try simp only [List.length_drop, List.length_take, List.length_append, List.length_cons, List.length_nil]); omega) rfl ?_; clear F M a; intro v20 w a M F
     have Ev20 := Els.append Em Eb
     obtain ⟨av20, cv20, rfl, hlev20, hcmv20, hlv20⟩ := M.row_shape (k := 2) rfl
     refine rl_run F (run_fieldAddr tok30.k rfl rfl (F.ev rfl)) rfl ?_; clear F a; intro a F
     refine rl_store1 F M tok28 rfl (k := 1) rfl rfl rfl rfl rfl ?_; clear F M a; intro w a M F
     refine rl_nil <| q_tn ?_
     iterate 2 (refine wp_seq ?_)
     refine w_reg <| rl_run F (run_move (F.ev rfl)) rfl ?_; clear F a; intro a F
     refine rl_run F (run_eqi (F.ev rfl) (F.ev rfl)) rfl ?_; clear F a; intro a F
     refine rl_nil <| q_tn <| w_cond F rfl ?_ ?_
     ·intro hc
      have h21b := hc; clear hc
      have h21 : (if (Lib.cut c [(44 : UInt8)]).2.2 = true then (1 : Int) else 0) = 0 := of_decide_eq_true h21b
      refine wp_exit <| q_te <| q_be rfl ?_
      refine q_te <| q_bh <| q_tn ?_
      iterate 2 (refine wp_seq ?_)
      have hE : ∀ y, Rd10 s y → y.marks = xs ++ ([(Lib.cut c [(44 : UInt8)]).1]) := fun y hy => ((hM y hy).step hy.1.2.2.2.2 (by assumption)).2 (fun h_ => by rw [if_pos h_] at *; omega)
      obtain ⟨hnz22, Gz22, az22, cz22, hGz22, hez22, Sz22, M⟩ := M.freeze_row mono_rdStr (k := 2) rfl Ev20 (by decide)
      clear hez22 az22 cz22
      replace Em := Em.mono mono_rdStr hGz22
      replace Eb := Eb.mono mono_rdStr hGz22
      rw [hnz22] at M Sz22
      change Mem w0 Gz22 (.row (.slice (av19) (1) (cv19)) (1) ([.string (str ((Lib.cut c [(44 : UInt8)]).1))]) 9 1 :: .blk b15 [.int .u64 (((u7 : Nat) : Int)), .int .u8 (((u8 : Nat) : Int)), .string (str ((Lib.cut ((Lib.cut ((Lib.cut ((Lib.cut s [(32 : UInt8)]).2.1) [(32 : UInt8)]).2.1) [(32 : UInt8)]).2.1) [(10 : UInt8)]).1)), .slice (av20) ((xs ++ ([(Lib.cut c [(44 : UInt8)]).1])).length) (cv20)] 30 :: .blk b1 [.int .u64 (0), .int .u8 (0), .string (str ([] : List UInt8)), .slice none (0) (0)] 30 :: L) _ at M
      have hII23 : ((⟨u7, u8, (Lib.cut ((Lib.cut ((Lib.cut ((Lib.cut s [(32 : UInt8)]).2.1) [(32 : UInt8)]).2.1) [(32 : UInt8)]).2.1) [(10 : UInt8)]).1, xs ++ ([(Lib.cut c [(44 : UInt8)]).1])⟩ : ItemD).key < 18446744073709551616 ∧ (⟨u7, u8, (Lib.cut ((Lib.cut ((Lib.cut ((Lib.cut s [(32 : UInt8)]).2.1) [(32 : UInt8)]).2.1) [(32 : UInt8)]).2.1) [(10 : UInt8)]).1, xs ++ ([(Lib.cut c [(44 : UInt8)]).1])⟩ : ItemD).typ < 256 ∧ (⟨u7, u8, (Lib.cut ((Lib.cut ((Lib.cut ((Lib.cut s [(32 : UInt8)]).2.1) [(32 : UInt8)]).2.1) [(32 : UInt8)]).2.1) [(10 : UInt8)]).1, xs ++ ([(Lib.cut c [(44 : UInt8)]).1])⟩ : ItemD).text.length ≤ 9223372036854775807) := ⟨by show u7 < _; omega, by show u8 < _; omega, by show ((Lib.cut ((Lib.cut ((Lib.cut ((Lib.cut s [(32 : UInt8)]).2.1) [(32 : UInt8)]).2.1) [(32 : UInt8)]).2.1) [(10 : UInt8)]).1).length ≤ _; omega⟩
      refine w_reg <| rl_run F (run_loadA tok30 rfl (F.ev rfl) (cs := [.int .u64 (((u7 : Nat) : Int)), .int .u8 (((u8 : Nat) : Int)), .string (str ((Lib.cut ((Lib.cut ((Lib.cut ((Lib.cut s [(32 : UInt8)]).2.1) [(32 : UInt8)]).2.1) [(32 : UInt8)]).2.1) [(10 : UInt8)]).1)), .slice (av20) ((xs ++ ([(Lib.cut c [(44 : UInt8)]).1])).length) (cv20)]) rfl (M.cellsL (k := 1) rfl rfl)) rfl ?_; clear F a; intro a F
      refine rl_callS F ent10 rfl rfl (rcheck_spec (x := (⟨u7, u8, (Lib.cut ((Lib.cut ((Lib.cut ((Lib.cut s [(32 : UInt8)]).2.1) [(32 : UInt8)]).2.1) [(32 : UInt8)]).2.1) [(10 : UInt8)]).1, xs ++ ([(Lib.cut c [(44 : UInt8)]).1])⟩ : ItemD)) (t := 8) M hII23 Sz22) ?_; clear F M a; rintro _ w a M rfl F
      refine rl_run F (run_gtr (F.ev rfl) (F.ev rfl)) rfl ?_; clear F a; intro a F
      refine rl_run F (run_move (F.ev rfl)) rfl ?_; clear F a; intro a F
      rcases Bool.eq_false_or_eq_true (decide (0 < itmF 8 ((⟨u7, u8, (Lib.cut ((Lib.cut ((Lib.cut ((Lib.cut s [(32 : UInt8)]).2.1) [(32 : UInt8)]).2.1) [(32 : UInt8)]).2.1) [(10 : UInt8)]).1, xs ++ ([(Lib.cut c [(44 : UInt8)]).1])⟩ : ItemD)))) with hc | hc
      ·skip
       have h24b := hc; clear hc
       have h24 : 0 < itmF 8 ((⟨u7, u8, (Lib.cut ((Lib.cut ((Lib.cut ((Lib.cut s [(32 : UInt8)]).2.1) [(32 : UInt8)]).2.1) [(32 : UInt8)]).2.1) [(10 : UInt8)]).1, xs ++ ([(Lib.cut c [(44 : UInt8)]).1])⟩ : ItemD)) := of_decide_eq_true h24b
       iterate 4 (refine rl_guard_f F rfl rfl rfl h24b ?_; clear F a; intro a F)
       refine rl_run F (run_pick_t (F.ev rfl) h24b (F.ev rfl)) rfl ?_; clear F a; intro a F
       refine rl_nil <| q_tn <| w_cond_t F rfl rfl ?_
       refine wp_seq <| w_reg <| rl_run F (run_buildS (cs := [.int .u64 (0), .int .u8 (0), .string (str ([] : List UInt8)), .slice none (0) (0)]) (ps := []) tok30.k rfl tok30 (F.evp rfl) rfl) rfl ?_; clear F a; intro a F
       refine rl_storeA F M tok30 (k := 2) rfl rfl rfl (us := [.int .u64 (0), .int .u8 (0), .string (str ([] : List UInt8)), .slice none (0) (0)]) rfl rfl (by simp [Value.oneCell']) (by simp) ?_; clear F M a; intro w a M F
       change Mem w0 Gz22 (_ :: _ :: .blk b1 [.int .u64 (0), .int .u8 (0), .string (str ([] : List UInt8)), .slice none (0) (0)] 30 :: L) _ at M
       refine rl_run F (run_assign (F.ev rfl)) rfl ?_; clear F a; intro a F
       refine rl_nil <| q_tn <| wp_ret <| q_tr <| fin_ct F M (k := 2) rfl rfl tok30 rfl rfl rfl rfl ?_
       refine ⟨_, hGz22, M.weaken (.cons _ (.cons _ (.cons _ (List.Sublist.refl _)))), (⟨0, 0, [], []⟩ : ItemD), none, 0, false, rfl, ⟨by decide, by decide, by decide⟩, RdSl.nil, fun h_ => (by cases h_), fun _ y hy => ?_⟩
       obtain ⟨q1, q2, q3, q4, q5, q6⟩ := hB y hy
       have q7 : (⟨u7, u8, (Lib.cut ((Lib.cut ((Lib.cut ((Lib.cut s [(32 : UInt8)]).2.1) [(32 : UInt8)]).2.1) [(32 : UInt8)]).2.1) [(10 : UInt8)]).1, xs ++ ([(Lib.cut c [(44 : UInt8)]).1])⟩ : ItemD) = y := item_ext q3 q4 (by show _ = _; rw [q6]) (hE y hy).symm
       first | exact absurd (q7 ▸ hy.1 : ItemOk 8 (⟨u7, u8, (Lib.cut ((Lib.cut ((Lib.cut ((Lib.cut s [(32 : UInt8)]).2.1) [(32 : UInt8)]).2.1) [(32 : UInt8)]).2.1) [(10 : UInt8)]).1, xs ++ ([(Lib.cut c [(44 : UInt8)]).1])⟩ : ItemD)) (itmF_gt (by assumption)) | exact absurd (show lineF (⟨u7, u8, (Lib.cut ((Lib.cut ((Lib.cut ((Lib.cut s [(32 : UInt8)]).2.1) [(32 : UInt8)]).2.1) [(32 : UInt8)]).2.1) [(10 : UInt8)]).1, xs ++ ([(Lib.cut c [(44 : UInt8)]).1])⟩ : ItemD) ++ [10] = s by rw [q7]; exact hy.2.2) (by assumption)
      ·skip
       have h25b := hc; clear hc
       have h25 : ¬ (0 < itmF 8 ((⟨u7, u8, (Lib.cut ((Lib.cut ((Lib.cut ((Lib.cut s [(32 : UInt8)]).2.1) [(32 : UInt8)]).2.1) [(32 : UInt8)]).2.1) [(10 : UInt8)]).1, xs ++ ([(Lib.cut c [(44 : UInt8)]).1])⟩ : ItemD))) := of_decide_eq_false h25b
       refine rl_guard_t F rfl rfl rfl h25b ?_
       refine rl_run F (run_loadA tok30 rfl (F.ev rfl) (cs := [.int .u64 (((u7 : Nat) : Int)), .int .u8 (((u8 : Nat) : Int)), .string (str ((Lib.cut ((Lib.cut ((Lib.cut ((Lib.cut s [(32 : UInt8)]).2.1) [(32 : UInt8)]).2.1) [(32 : UInt8)]).2.1) [(10 : UInt8)]).1)), .slice (av20) ((xs ++ ([(Lib.cut c [(44 : UInt8)]).1])).length) (cv20)]) rfl (M.cellsL (k := 1) rfl rfl)) rfl ?_; clear F a; intro a F
       refine rl_guard_t F rfl rfl rfl h25b ?_
       refine rl_callS F ent12 rfl rfl (rline_spec (x := (⟨u7, u8, (Lib.cut ((Lib.cut ((Lib.cut ((Lib.cut s [(32 : UInt8)]).2.1) [(32 : UInt8)]).2.1) [(32 : UInt8)]).2.1) [(10 : UInt8)]).1, xs ++ ([(Lib.cut c [(44 : UInt8)]).1])⟩ : ItemD)) M hII23 Sz22 (itmF_le (by assumption))) ?_; clear F M a; rintro _ w a M rfl F
       have hlll26 := line_len (x := (⟨u7, u8, (Lib.cut ((Lib.cut ((Lib.cut ((Lib.cut s [(32 : UInt8)]).2.1) [(32 : UInt8)]).2.1) [(32 : UInt8)]).2.1) [(10 : UInt8)]).1, xs ++ ([(Lib.cut c [(44 : UInt8)]).1])⟩ : ItemD)) (itmF_le (by assumption)) hII23.1 hII23.2.1
       refine rl_guard_t F rfl rfl rfl h25b ?_
       refine rl_run F (run_move (F.ev rfl)) rfl ?_; clear F a; intro a F
       refine rl_guard_t F rfl rfl rfl h25b ?_
       refine rl_run F (run_strNe (F.ev rfl) (F.ev rfl)) rfl ?_; clear F a; intro a F
       refine rl_run F (run_pick_f (F.ev rfl) h25b (F.ev rfl)) rfl ?_; clear F a; intro a F
       refine rl_nil <| q_tn <| w_cond F rfl ?_ ?_
       ·intro hc
        have h27b := hc; clear hc
        have h27 : ¬ ((lineF ((⟨u7, u8, (Lib.cut ((Lib.cut ((Lib.cut ((Lib.cut s [(32 : UInt8)]).2.1) [(32 : UInt8)]).2.1) [(32 : UInt8)]).2.1) [(10 : UInt8)]).1, xs ++ ([(Lib.cut c [(44 : UInt8)]).1])⟩ : ItemD)) ++ [10]) = s) := of_decide_eq_false (of_not_t h27b)
        have h27c : (decide ((lineF ((⟨u7, u8, (Lib.cut ((Lib.cut ((Lib.cut ((Lib.cut s [(32 : UInt8)]).2.1) [(32 : UInt8)]).2.1) [(32 : UInt8)]).2.1) [(10 : UInt8)]).1, xs ++ ([(Lib.cut c [(44 : UInt8)]).1])⟩ : ItemD)) ++ [10]) = s)) = false := (of_not_t h27b)
        refine wp_seq <| w_reg <| rl_run F (run_buildS (cs := [.int .u64 (0), .int .u8 (0), .string (str ([] : List UInt8)), .slice none (0) (0)]) (ps := []) tok30.k rfl tok30 (F.evp rfl) rfl) rfl ?_; clear F a; intro a F
        refine rl_storeA F M tok30 (k := 2) rfl rfl rfl (us := [.int .u64 (0), .int .u8 (0), .string (str ([] : List UInt8)), .slice none (0) (0)]) rfl rfl (by simp [Value.oneCell']) (by simp) ?_; clear F M a; intro w a M F
        change Mem w0 Gz22 (_ :: _ :: .blk b1 [.int .u64 (0), .int .u8 (0), .string (str ([] : List UInt8)), .slice none (0) (0)] 30 :: L) _ at M
        refine rl_run F (run_assign (F.ev rfl)) rfl ?_; clear F a; intro a F
        refine rl_nil <| q_tn <| wp_ret <| q_tr <| fin_ct F M (k := 2) rfl rfl tok30 rfl rfl rfl rfl ?_
        refine ⟨_, hGz22, M.weaken (.cons _ (.cons _ (.cons _ (List.Sublist.refl _)))), (⟨0, 0, [], []⟩ : ItemD), none, 0, false, rfl, ⟨by decide, by decide, by decide⟩, RdSl.nil, fun h_ => (by cases h_), fun _ y hy => ?_⟩
        obtain ⟨q1, q2, q3, q4, q5, q6⟩ := hB y hy
        have q7 : (⟨u7, u8, (Lib.cut ((Lib.cut ((Lib.cut ((Lib.cut s [(32 : UInt8)]).2.1) [(32 : UInt8)]).2.1) [(32 : UInt8)]).2.1) [(10 : UInt8)]).1, xs ++ ([(Lib.cut c [(44 : UInt8)]).1])⟩ : ItemD) = y := item_ext q3 q4 (by show _ = _; rw [q6]) (hE y hy).symm
        first | exact absurd (q7 ▸ hy.1 : ItemOk 8 (⟨u7, u8, (Lib.cut ((Lib.cut ((Lib.cut ((Lib.cut s [(32 : UInt8)]).2.1) [(32 : UInt8)]).2.1) [(32 : UInt8)]).2.1) [(10 : UInt8)]).1, xs ++ ([(Lib.cut c [(44 : UInt8)]).1])⟩ : ItemD)) (itmF_gt (by assumption)) | exact absurd (show lineF (⟨u7, u8, (Lib.cut ((Lib.cut ((Lib.cut ((Lib.cut s [(32 : UInt8)]).2.1) [(32 : UInt8)]).2.1) [(32 : UInt8)]).2.1) [(10 : UInt8)]).1, xs ++ ([(Lib.cut c [(44 : UInt8)]).1])⟩ : ItemD) ++ [10] = s by rw [q7]; exact hy.2.2) (by assumption)
       ·intro hc
        have h28b := hc; clear hc
        have h28 : (lineF ((⟨u7, u8, (Lib.cut ((Lib.cut ((Lib.cut ((Lib.cut s [(32 : UInt8)]).2.1) [(32 : UInt8)]).2.1) [(32 : UInt8)]).2.1) [(10 : UInt8)]).1, xs ++ ([(Lib.cut c [(44 : UInt8)]).1])⟩ : ItemD)) ++ [10]) = s := of_decide_eq_true (of_not_f h28b)
        have h28c : (decide ((lineF ((⟨u7, u8, (Lib.cut ((Lib.cut ((Lib.cut ((Lib.cut s [(32 : UInt8)]).2.1) [(32 : UInt8)]).2.1) [(32 : UInt8)]).2.1) [(10 : UInt8)]).1, xs ++ ([(Lib.cut c [(44 : UInt8)]).1])⟩ : ItemD)) ++ [10]) = s)) = true := (of_not_f h28b)
        refine wp_skip <| q_tn <| wp_seq <| w_reg <| rl_run F (run_loadA tok30 rfl (F.ev rfl) (cs := [.int .u64 (((u7 : Nat) : Int)), .int .u8 (((u8 : Nat) : Int)), .string (str ((Lib.cut ((Lib.cut ((Lib.cut ((Lib.cut s [(32 : UInt8)]).2.1) [(32 : UInt8)]).2.1) [(32 : UInt8)]).2.1) [(10 : UInt8)]).1)), .slice (av20) ((xs ++ ([(Lib.cut c [(44 : UInt8)]).1])).length) (cv20)]) rfl (M.cellsL (k := 1) rfl rfl)) rfl ?_; clear F a; intro a F
        refine rl_storeA F M tok30 (k := 2) rfl rfl rfl (us := [.int .u64 (((u7 : Nat) : Int)), .int .u8 (((u8 : Nat) : Int)), .string (str ((Lib.cut ((Lib.cut ((Lib.cut ((Lib.cut s [(32 : UInt8)]).2.1) [(32 : UInt8)]).2.1) [(32 : UInt8)]).2.1) [(10 : UInt8)]).1)), .slice (av20) ((xs ++ ([(Lib.cut c [(44 : UInt8)]).1])).length) (cv20)]) rfl rfl (by simp [Value.oneCell']) (by simp) ?_; clear F M a; intro w a M F
        change Mem w0 Gz22 (_ :: _ :: .blk b1 [.int .u64 (((u7 : Nat) : Int)), .int .u8 (((u8 : Nat) : Int)), .string (str ((Lib.cut ((Lib.cut ((Lib.cut ((Lib.cut s [(32 : UInt8)]).2.1) [(32 : UInt8)]).2.1) [(32 : UInt8)]).2.1) [(10 : UInt8)]).1)), .slice (av20) ((xs ++ ([(Lib.cut c [(44 : UInt8)]).1])).length) (cv20)] 30 :: L) _ at M
        refine rl_run F (run_assign (F.ev rfl)) rfl ?_; clear F a; intro a F
        refine rl_nil <| q_tn <| wp_ret <| fin_ct F M (k := 2) rfl rfl tok30 rfl rfl rfl rfl ?_
        exact ⟨_, hGz22, M.weaken (.cons _ (.cons _ (.cons _ (List.Sublist.refl _)))), (⟨u7, u8, (Lib.cut ((Lib.cut ((Lib.cut ((Lib.cut s [(32 : UInt8)]).2.1) [(32 : UInt8)]).2.1) [(32 : UInt8)]).2.1) [(10 : UInt8)]).1, xs ++ ([(Lib.cut c [(44 : UInt8)]).1])⟩ : ItemD), av20, cv20, true, rfl, hII23, Sz22, fun _ => ⟨itmF_le (by assumption), hII23.1, by assumption⟩, fun h_ => (by cases h_)⟩
     ·intro hc
      have h29b := hc; clear hc
      have h29 : ¬ ((if (Lib.cut c [(44 : UInt8)]).2.2 = true then (1 : Int) else 0) = 0) := of_decide_eq_false h29b
      refine wp_skip <| q_tn <| w_reg <| rl_run F (run_move (F.ev rfl)) rfl ?_; clear F a; intro a F
      refine rl_run F (run_assign (F.ev rfl)) rfl ?_; clear F a; intro a F
      refine rl_nil <| q_bn <| q_tn ?_
      exact ⟨_, (by have h9_ := cut_lt (c := 44) (s := c) (Classical.byContradiction fun h_ => by rw [if_neg h_] at *; omega); omega), (av20), (nm + 1), (cv20), csm ++ ([.string (str ((Lib.cut c [(44 : UInt8)]).1))]), xs ++ ([(Lib.cut c [(44 : UInt8)]).1]), (Lib.cut c [(44 : UInt8)]).2.1, rfl, F.to ⟨rfl, rfl, rfl, rfl, rfl, trivial⟩, (M.weaken (.cons _ (.cons_cons _ (.cons_cons _ (.cons_cons _ (List.Sublist.refl _)))))), Ev20, by have h9_ := cut_lt (c := 44) (s := c) (Classical.byContradiction fun h_ => by rw [if_neg h_] at *; omega); simp only [List.length_append, List.length_cons, List.length_nil]; omega, by simp only [List.length_append, List.length_cons, List.length_nil]; omega, fun y hy => ((hM y hy).step hy.1.2.2.2.2 (by assumption)).1 (Classical.byContradiction fun h_ => by rw [if_neg h_] at *; omega)⟩
    ·intro hc
     have h30b := hc; clear hc
     have h30 : c = ([45] : List UInt8) := of_decide_eq_true (of_not_f h30b)
     have h30c : (decide (c = ([45] : List UInt8))) = true := (of_not_f h30b)
     refine wp_exit ?_
     iterate 2 (refine q_te ?_)
     refine q_bh <| q_tn ?_
     iterate 2 (refine wp_seq ?_)
     have hE : ∀ y, Rd10 s y → y.marks = xs := fun y hy => MkI.dash hy.1.2.2.2.2 (by rw [← (show c = [45] by assumption)]; exact hM y hy)
     obtain ⟨hnz31, Gz31, az31, cz31, hGz31, hez31, Sz31, M⟩ := M.freeze_row mono_rdStr (k := 1) rfl Em (by decide)
     clear hez31 az31 cz31
     rw [hnz31] at M Sz31
     change Mem w0 Gz31 (.blk b15 [.int .u64 (((u7 : Nat) : Int)), .int .u8 (((u8 : Nat) : Int)), .string (str ((Lib.cut ((Lib.cut ((Lib.cut ((Lib.cut s [(32 : UInt8)]).2.1) [(32 : UInt8)]).2.1) [(32 : UInt8)]).2.1) [(10 : UInt8)]).1)), .slice (am) ((xs).length) (cm)] 30 :: .blk b1 [.int .u64 (0), .int .u8 (0), .string (str ([] : List UInt8)), .slice none (0) (0)] 30 :: L) _ at M
     have hII32 : ((⟨u7, u8, (Lib.cut ((Lib.cut ((Lib.cut ((Lib.cut s [(32 : UInt8)]).2.1) [(32 : UInt8)]).2.1) [(32 : UInt8)]).2.1) [(10 : UInt8)]).1, xs⟩ : ItemD).key < 18446744073709551616 ∧ (⟨u7, u8, (Lib.cut ((Lib.cut ((Lib.cut ((Lib.cut s [(32 : UInt8)]).2.1) [(32 : UInt8)]).2.1) [(32 : UInt8)]).2.1) [(10 : UInt8)]).1, xs⟩ : ItemD).typ < 256 ∧ (⟨u7, u8, (Lib.cut ((Lib.cut ((Lib.cut ((Lib.cut s [(32 : UInt8)]).2.1) [(32 : UInt8)]).2.1) [(32 : UInt8)]).2.1) [(10 : UInt8)]).1, xs⟩ : ItemD).text.length ≤ 9223372036854775807) := ⟨by show u7 < _; omega, by show u8 < _; omega, by show ((Lib.cut ((Lib.cut ((Lib.cut ((Lib.cut s [(32 : UInt8)]).2.1) [(32 : UInt8)]).2.1) [(32 : UInt8)]).2.1) [(10 : UInt8)]).1).length ≤ _; omega⟩
     refine w_reg <| rl_run F (run_loadA tok30 rfl (F.ev rfl) (cs := [.int .u64 (((u7 : Nat) : Int)), .int .u8 (((u8 : Nat) : Int)), .string (str ((Lib.cut ((Lib.cut ((Lib.cut ((Lib.cut s [(32 : UInt8)]).2.1) [(32 : UInt8)]).2.1) [(32 : UInt8)]).2.1) [(10 : UInt8)]).1)), .slice (am) ((xs).length) (cm)]) rfl (M.cellsL (k := 0) rfl rfl)) rfl ?_; clear F a; intro a F
     refine rl_callS F ent10 rfl rfl (rcheck_spec (x := (⟨u7, u8, (Lib.cut ((Lib.cut ((Lib.cut ((Lib.cut s [(32 : UInt8)]).2.1) [(32 : UInt8)]).2.1) [(32 : UInt8)]).2.1) [(10 : UInt8)]).1, xs⟩ : ItemD)) (t := 8) M hII32 Sz31) ?_; clear F M a; rintro _ w a M rfl F
     refine rl_run F (run_gtr (F.ev rfl) (F.ev rfl)) rfl ?_; clear F a; intro a F
     refine rl_run F (run_move (F.ev rfl)) rfl ?_; clear F a; intro a F
     rcases Bool.eq_false_or_eq_true (decide (0 < itmF 8 ((⟨u7, u8, (Lib.cut ((Lib.cut ((Lib.cut ((Lib.cut s [(32 : UInt8)]).2.1) [(32 : UInt8)]).2.1) [(32 : UInt8)]).2.1) [(10 : UInt8)]).1, xs⟩ : ItemD)))) with hc | hc
     ·skip
      have h33b := hc; clear hc
      have h33 : 0 < itmF 8 ((⟨u7, u8, (Lib.cut ((Lib.cut ((Lib.cut ((Lib.cut s [(32 : UInt8)]).2.1) [(32 : UInt8)]).2.1) [(32 : UInt8)]).2.1) [(10 : UInt8)]).1, xs⟩ : ItemD)) := of_decide_eq_true h33b
      iterate 4 (refine rl_guard_f F rfl rfl rfl h33b ?_; clear F a; intro a F)
      refine rl_run F (run_pick_t (F.ev rfl) h33b (F.ev rfl)) rfl ?_; clear F a; intro a F
      refine rl_nil <| q_tn <| w_cond_t F rfl rfl ?_
      refine wp_seq <| w_reg <| rl_run F (run_buildS (cs := [.int .u64 (0), .int .u8 (0), .string (str ([] : List UInt8)), .slice none (0) (0)]) (ps := []) tok30.k rfl tok30 (F.evp rfl) rfl) rfl ?_; clear F a; intro a F
      refine rl_storeA F M tok30 (k := 1) rfl rfl rfl (us := [.int .u64 (0), .int .u8 (0), .string (str ([] : List UInt8)), .slice none (0) (0)]) rfl rfl (by simp [Value.oneCell']) (by simp) ?_; clear F M a; intro w a M F
      change Mem w0 Gz31 (_ :: .blk b1 [.int .u64 (0), .int .u8 (0), .string (str ([] : List UInt8)), .slice none (0) (0)] 30 :: L) _ at M
      refine rl_run F (run_assign (F.ev rfl)) rfl ?_; clear F a; intro a F
      refine rl_nil <| q_tn <| wp_ret <| q_tr <| fin_ct F M (k := 1) rfl rfl tok30 rfl rfl rfl rfl ?_
      refine ⟨_, hGz31, M.weaken (.cons _ (.cons _ (List.Sublist.refl _))), (⟨0, 0, [], []⟩ : ItemD), none, 0, false, rfl, ⟨by decide, by decide, by decide⟩, RdSl.nil, fun h_ => (by cases h_), fun _ y hy => ?_⟩
      obtain ⟨q1, q2, q3, q4, q5, q6⟩ := hB y hy
      have q7 : (⟨u7, u8, (Lib.cut ((Lib.cut ((Lib.cut ((Lib.cut s [(32 : UInt8)]).2.1) [(32 : UInt8)]).2.1) [(32 : UInt8)]).2.1) [(10 : UInt8)]).1, xs⟩ : ItemD) = y := item_ext q3 q4 (by show _ = _; rw [q6]) (hE y hy).symm
      first | exact absurd (q7 ▸ hy.1 : ItemOk 8 (⟨u7, u8, (Lib.cut ((Lib.cut ((Lib.cut ((Lib.cut s [(32 : UInt8)]).2.1) [(32 : UInt8)]).2.1) [(32 : UInt8)]).2.1) [(10 : UInt8)]).1, xs⟩ : ItemD)) (itmF_gt (by assumption)) | exact absurd (show lineF (⟨u7, u8, (Lib.cut ((Lib.cut ((Lib.cut ((Lib.cut s [(32 : UInt8)]).2.1) [(32 : UInt8)]).2.1) [(32 : UInt8)]).2.1) [(10 : UInt8)]).1, xs⟩ : ItemD) ++ [10] = s by rw [q7]; exact hy.2.2) (by assumption)
     ·skip
      have h34b := hc; clear hc
      have h34 : ¬ (0 < itmF 8 ((⟨u7, u8, (Lib.cut ((Lib.cut ((Lib.cut ((Lib.cut s [(32 : UInt8)]).2.1) [(32 : UInt8)]).2.1) [(32 : UInt8)]).2.1) [(10 : UInt8)]).1, xs⟩ : ItemD))) := of_decide_eq_false h34b
      refine rl_guard_t F rfl rfl rfl h34b ?_
      refine rl_run F (run_loadA tok30 rfl (F.ev rfl) (cs := [.int .u64 (((u7 : Nat) : Int)), .int .u8 (((u8 : Nat) : Int)), .string (str ((Lib.cut ((Lib.cut ((Lib.cut ((Lib.cut s [(32 : UInt8)]).2.1) [(32 : UInt8)]).2.1) [(32 : UInt8)]).2.1) [(10 : UInt8)]).1)), .slice (am) ((xs).length) (cm)]) rfl (M.cellsL (k := 0) rfl rfl)) rfl ?_; clear F a; intro a F
      refine rl_guard_t F rfl rfl rfl h34b ?_
      refine rl_callS F ent12 rfl rfl (rline_spec (x := (⟨u7, u8, (Lib.cut ((Lib.cut ((Lib.cut ((Lib.cut s [(32 : UInt8)]).2.1) [(32 : UInt8)]).2.1) [(32 : UInt8)]).2.1) [(10 : UInt8)]).1, xs⟩ : ItemD)) M hII32 Sz31 (itmF_le (by assumption))) ?_; clear F M a; rintro _ w a M rfl F
      have hlll35 := line_len (x := (⟨u7, u8, (Lib.cut ((Lib.cut ((Lib.cut ((Lib.cut s [(32 : UInt8)]).2.1) [(32 : UInt8)]).2.1) [(32 : UInt8)]).2.1) [(10 : UInt8)]).1, xs⟩ : ItemD)) (itmF_le (by assumption)) hII32.1 hII32.2.1
      refine rl_guard_t F rfl rfl rfl h34b ?_
      refine rl_run F (run_move (F.ev rfl)) rfl ?_; clear F a; intro a F
      refine rl_guard_t F rfl rfl rfl h34b ?_
      refine rl_run F (run_strNe (F.ev rfl) (F.ev rfl)) rfl ?_; clear F a; intro a F
      refine rl_run F (run_pick_f (F.ev rfl) h34b (F.ev rfl)) rfl ?_; clear F a; intro a F
      refine rl_nil <| q_tn <| w_cond F rfl ?_ ?_
      ·intro hc
       have h36b := hc; clear hc
       have h36 : ¬ ((lineF ((⟨u7, u8, (Lib.cut ((Lib.cut ((Lib.cut ((Lib.cut s [(32 : UInt8)]).2.1) [(32 : UInt8)]).2.1) [(32 : UInt8)]).2.1) [(10 : UInt8)]).1, xs⟩ : ItemD)) ++ [10]) = s) := of_decide_eq_false (of_not_t h36b)
       have h36c : (decide ((lineF ((⟨u7, u8, (Lib.cut ((Lib.cut ((Lib.cut ((Lib.cut s [(32 : UInt8)]).2.1) [(32 : UInt8)]).2.1) [(32 : UInt8)]).2.1) [(10 : UInt8)]).1, xs⟩ : ItemD)) ++ [10]) = s)) = false := (of_not_t h36b)
       refine wp_seq <| w_reg <| rl_run F (run_buildS (cs := [.int .u64 (0), .int .u8 (0), .string (str ([] : List UInt8)), .slice none (0) (0)]) (ps := []) tok30.k rfl tok30 (F.evp rfl) rfl) rfl ?_; clear F a; intro a F
       refine rl_storeA F M tok30 (k := 1) rfl rfl rfl (us := [.int .u64 (0), .int .u8 (0), .string (str ([] : List UInt8)), .slice none (0) (0)]) rfl rfl (by simp [Value.oneCell']) (by simp) ?_; clear F M a; intro w a M F
       change Mem w0 Gz31 (_ :: .blk b1 [.int .u64 (0), .int .u8 (0), .string (str ([] : List UInt8)), .slice none (0) (0)] 30 :: L) _ at M
       refine rl_run F (run_assign (F.ev rfl)) rfl ?_; clear F a; intro a F
       refine rl_nil <| q_tn <| wp_ret <| q_tr <| fin_ct F M (k := 1) rfl rfl tok30 rfl rfl rfl rfl ?_
       refine ⟨_, hGz31, M.weaken (.cons _ (.cons _ (List.Sublist.refl _))), (⟨0, 0, [], []⟩ : ItemD), none, 0, false, rfl, ⟨by decide, by decide, by decide⟩, RdSl.nil, fun h_ => (by cases h_), fun _ y hy => ?_⟩
       obtain ⟨q1, q2, q3, q4, q5, q6⟩ := hB y hy
       have q7 : (⟨u7, u8, (Lib.cut ((Lib.cut ((Lib.cut ((Lib.cut s [(32 : UInt8)]).2.1) [(32 : UInt8)]).2.1) [(32 : UInt8)]).2.1) [(10 : UInt8)]).1, xs⟩ : ItemD) = y := item_ext q3 q4 (by show _ = _; rw [q6]) (hE y hy).symm
       first | exact absurd (q7 ▸ hy.1 : ItemOk 8 (⟨u7, u8, (Lib.cut ((Lib.cut ((Lib.cut ((Lib.cut s [(32 : UInt8)]).2.1) [(32 : UInt8)]).2.1) [(32 : UInt8)]).2.1) [(10 : UInt8)]).1, xs⟩ : ItemD)) (itmF_gt (by assumption)) | exact absurd (show lineF (⟨u7, u8, (Lib.cut ((Lib.cut ((Lib.cut ((Lib.cut s [(32 : UInt8)]).2.1) [(32 : UInt8)]).2.1) [(32 : UInt8)]).2.1) [(10 : UInt8)]).1, xs⟩ : ItemD) ++ [10] = s by rw [q7]; exact hy.2.2) (by assumption)
      ·intro hc
       have h37b := hc; clear hc
       have h37 : (lineF ((⟨u7, u8, (Lib.cut ((Lib.cut ((Lib.cut ((Lib.cut s [(32 : UInt8)]).2.1) [(32 : UInt8)]).2.1) [(32 : UInt8)]).2.1) [(10 : UInt8)]).1, xs⟩ : ItemD)) ++ [10]) = s := of_decide_eq_true (of_not_f h37b)
       have h37c : (decide ((lineF ((⟨u7, u8, (Lib.cut ((Lib.cut ((Lib.cut ((Lib.cut s [(32 : UInt8)]).2.1) [(32 : UInt8)]).2.1) [(32 : UInt8)]).2.1) [(10 : UInt8)]).1, xs⟩ : ItemD)) ++ [10]) = s)) = true := (of_not_f h37b)
       refine wp_skip <| q_tn <| wp_seq <| w_reg <| rl_run F (run_loadA tok30 rfl (F.ev rfl) (cs := [.int .u64 (((u7 : Nat) : Int)), .int .u8 (((u8 : Nat) : Int)), .string (str ((Lib.cut ((Lib.cut ((Lib.cut ((Lib.cut s [(32 : UInt8)]).2.1) [(32 : UInt8)]).2.1) [(32 : UInt8)]).2.1) [(10 : UInt8)]).1)), .slice (am) ((xs).length) (cm)]) rfl (M.cellsL (k := 0) rfl rfl)) rfl ?_; clear F a; intro a F
       refine rl_storeA F M tok30 (k := 1) rfl rfl rfl (us := [.int .u64 (((u7 : Nat) : Int)), .int .u8 (((u8 : Nat) : Int)), .string (str ((Lib.cut ((Lib.cut ((Lib.cut ((Lib.cut s [(32 : UInt8)]).2.1) [(32 : UInt8)]).2.1) [(32 : UInt8)]).2.1) [(10 : UInt8)]).1)), .slice (am) ((xs).length) (cm)]) rfl rfl (by simp [Value.oneCell']) (by simp) ?_; clear F M a; intro w a M F
       change Mem w0 Gz31 (_ :: .blk b1 [.int .u64 (((u7 : Nat) : Int)), .int .u8 (((u8 : Nat) : Int)), .string (str ((Lib.cut ((Lib.cut ((Lib.cut ((Lib.cut s [(32 : UInt8)]).2.1) [(32 : UInt8)]).2.1) [(32 : UInt8)]).2.1) [(10 : UInt8)]).1)), .slice (am) ((xs).length) (cm)] 30 :: L) _ at M
       refine rl_run F (run_assign (F.ev rfl)) rfl ?_; clear F a; intro a F
       refine rl_nil <| q_tn <| wp_ret <| fin_ct F M (k := 1) rfl rfl tok30 rfl rfl rfl rfl ?_
       exact ⟨_, hGz31, M.weaken (.cons _ (.cons _ (List.Sublist.refl _))), (⟨u7, u8, (Lib.cut ((Lib.cut ((Lib.cut ((Lib.cut s [(32 : UInt8)]).2.1) [(32 : UInt8)]).2.1) [(32 : UInt8)]).2.1) [(10 : UInt8)]).1, xs⟩ : ItemD), am, cm, true, rfl, hII32, Sz31, fun _ => ⟨itmF_le (by assumption), hII32.1, by assumption⟩, fun h_ => (by cases h_)⟩
end Go.Proofs.YtmmhmcplegpenaaDoor
