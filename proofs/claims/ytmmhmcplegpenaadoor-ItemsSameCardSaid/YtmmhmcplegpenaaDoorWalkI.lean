/- The walks, part I. -/
import Derived.Test.YtmmhmcplegpenaaDoorWalkT
namespace Go.Proofs.YtmmhmcplegpenaaDoor
open Go Go.Y Go.Proofs
set_option linter.unusedSimpArgs false
set_option linter.unusedVariables false
theorem item_spec {w0 w : World} {G : Ghost} {L : List Res} (M : Mem w0 G L w) (HG : Globs 0 1 2 3 G) {s : List UInt8} (hs : s.length ≤ 1048577) : Calls Tryd.prog 37 #[.string (str s)] w (Ret w0 G L fun G' v => ∃ (x : ItemD) (ma : Option Addr) (mc : Nat) (b : Bool), v = .tuple #[.agg #[.int .u64 (((x.key : Nat) : Int)), .int .u8 (((x.typ : Nat) : Int)), .string (str (x.text)), .slice (ma) (x.marks.length) (mc)], .bool b] ∧ (x.key < 18446744073709551616 ∧ x.typ < 256 ∧ x.text.length ≤ 9223372036854775807) ∧ RdSl rdStr 1 G' (.slice ma x.marks.length mc) x.marks ∧ (b = true → Rd8 s x) ∧ (b = false → ∀ y, ¬ Rd8 s y)) := by
 refine calls_start (vs := [_]) Tryd.func37 rfl (n := 72) rfl rfl ?_
 intro a F
 refine wp_seq <| w_reg <| rl_alloc F M tok30 rfl rfl ?_; clear F M a; intro b1 w a M F
 refine rl_run F (run_assign (F.ev rfl)) rfl ?_; clear F a; intro a F
 refine rl_nil <| q_tn <| wp_seq <| w_reg <| rl_run F (run_move (F.ev rfl)) rfl ?_; clear F a; intro a F
 refine rl_callS F ent53 rfl rfl (cut_spec (s := s) (sep := ([32] : List UInt8)) M HG (by omega)) ?_; clear F M a; rintro _ w a M rfl F
 have hclc3 := cut_lens 32 s
 refine rl_run F (run_move (F.ev rfl)) rfl ?_; clear F a; intro a F
 refine rl_run F (run_extract (v := .string (str ((Lib.cut s ([32] : List UInt8)).1))) (F.ev rfl) rfl) rfl ?_; clear F a; intro a F
 refine rl_run F (run_extract (v := .string (str ((Lib.cut s ([32] : List UInt8)).2.1))) (F.ev rfl) rfl) rfl ?_; clear F a; intro a F
 refine rl_run F (run_extract (v := .bool ((Lib.cut s ([32] : List UInt8)).2.2)) (F.ev rfl) rfl) rfl ?_; clear F a; intro a F
 iterate 3 (refine rl_run F (run_assign (F.ev rfl)) rfl ?_; clear F a; intro a F)
 refine rl_nil <| q_tn <| wp_seq <| w_reg <| rl_run F (run_move (F.ev rfl)) rfl ?_; clear F a; intro a F
 refine rl_callS F ent53 rfl rfl (cut_spec (s := (Lib.cut s ([32] : List UInt8)).2.1) (sep := ([32] : List UInt8)) M HG (by omega)) ?_; clear F M a; rintro _ w a M rfl F
 have hclc4 := cut_lens 32 ((Lib.cut s ([32] : List UInt8)).2.1)
 refine rl_run F (run_move (F.ev rfl)) rfl ?_; clear F a; intro a F
 refine rl_run F (run_extract (v := .string (str ((Lib.cut ((Lib.cut s ([32] : List UInt8)).2.1) ([32] : List UInt8)).1))) (F.ev rfl) rfl) rfl ?_; clear F a; intro a F
 refine rl_run F (run_extract (v := .string (str ((Lib.cut ((Lib.cut s ([32] : List UInt8)).2.1) ([32] : List UInt8)).2.1))) (F.ev rfl) rfl) rfl ?_; clear F a; intro a F
 refine rl_run F (run_extract (v := .bool ((Lib.cut ((Lib.cut s ([32] : List UInt8)).2.1) ([32] : List UInt8)).2.2)) (F.ev rfl) rfl) rfl ?_; clear F a; intro a F
 iterate 3 (refine rl_run F (run_assign (F.ev rfl)) rfl ?_; clear F a; intro a F)
 refine rl_nil <| q_tn <| wp_seq <| w_reg <| rl_run F (run_move (F.ev rfl)) rfl ?_; clear F a; intro a F
 refine rl_callS F ent53 rfl rfl (cut_spec (s := (Lib.cut ((Lib.cut s ([32] : List UInt8)).2.1) ([32] : List UInt8)).2.1) (sep := ([32] : List UInt8)) M HG (by omega)) ?_; clear F M a; rintro _ w a M rfl F
 have hclc5 := cut_lens 32 ((Lib.cut ((Lib.cut s ([32] : List UInt8)).2.1) ([32] : List UInt8)).2.1)
 refine rl_run F (run_move (F.ev rfl)) rfl ?_; clear F a; intro a F
 refine rl_run F (run_extract (v := .string (str ((Lib.cut ((Lib.cut ((Lib.cut s ([32] : List UInt8)).2.1) ([32] : List UInt8)).2.1) ([32] : List UInt8)).1))) (F.ev rfl) rfl) rfl ?_; clear F a; intro a F
 refine rl_run F (run_extract (v := .string (str ((Lib.cut ((Lib.cut ((Lib.cut s ([32] : List UInt8)).2.1) ([32] : List UInt8)).2.1) ([32] : List UInt8)).2.1))) (F.ev rfl) rfl) rfl ?_; clear F a; intro a F
 refine rl_run F (run_extract (v := .bool ((Lib.cut ((Lib.cut ((Lib.cut s ([32] : List UInt8)).2.1) ([32] : List UInt8)).2.1) ([32] : List UInt8)).2.2)) (F.ev rfl) rfl) rfl ?_; clear F a; intro a F
 iterate 3 (refine rl_run F (run_assign (F.ev rfl)) rfl ?_; clear F a; intro a F)
 refine rl_nil <| q_tn <| wp_seq <| w_reg <| rl_run F (run_move (F.ev rfl)) rfl ?_; clear F a; intro a F
 refine rl_callS F ent54 rfl rfl (pu64_spec (s := (Lib.cut s ([32] : List UInt8)).1) M HG (by omega)) ?_; clear F M a; rintro _ w a M ⟨u6, eru6, rfl, hiu6, hpuu6⟩ F
 have hltu6 := hpuu6.1
 refine rl_run F (run_move (F.ev rfl)) rfl ?_; clear F a; intro a F
 refine rl_run F (run_extract (v := .int .u64 (((u6 : Nat) : Int))) (F.ev rfl) rfl) rfl ?_; clear F a; intro a F
 refine rl_run F (run_extract (v := eru6) (F.ev rfl) rfl) rfl ?_; clear F a; intro a F
 iterate 2 (refine rl_run F (run_assign (F.ev rfl)) rfl ?_; clear F a; intro a F)
 refine rl_nil <| q_tn <| wp_seq <| w_reg <| rl_run F (run_move (F.ev rfl)) rfl ?_; clear F a; intro a F
 refine rl_callS F ent54 rfl rfl (pu8_spec (s := (Lib.cut ((Lib.cut s ([32] : List UInt8)).2.1) ([32] : List UInt8)).1) M HG (by omega)) ?_; clear F M a; rintro _ w a M ⟨u7, eru7, rfl, hiu7, hpuu7⟩ F
 have hltu7 := hpuu7.1
 refine rl_run F (run_move (F.ev rfl)) rfl ?_; clear F a; intro a F
 refine rl_run F (run_extract (v := .int .u64 (((u7 : Nat) : Int))) (F.ev rfl) rfl) rfl ?_; clear F a; intro a F
 refine rl_run F (run_extract (v := eru7) (F.ev rfl) rfl) rfl ?_; clear F a; intro a F
 iterate 2 (refine rl_run F (run_assign (F.ev rfl)) rfl ?_; clear F a; intro a F)
 refine rl_nil <| q_tn <| wp_seq <| w_reg ?_
 iterate 2 (refine rl_run F (run_move (F.ev rfl)) rfl ?_; clear F a; intro a F)
 refine rl_run F (run_conv_int tok5.k ⟨_, by rw [under_int tok27.k]⟩ (F.ev rfl) (in_u8 (by omega) (by omega))) rfl ?_; clear F a; intro a F
 refine rl_run F (run_move (F.ev rfl)) rfl ?_; clear F a; intro a F
 refine rl_run F (run_buildS (cs := [.int .u64 (((u6 : Nat) : Int)), .int .u8 (((u7 : Nat) : Int)), .string (str ((Lib.cut ((Lib.cut ((Lib.cut s ([32] : List UInt8)).2.1) ([32] : List UInt8)).2.1) ([32] : List UInt8)).2.1)), .slice none (0) (0)]) (ps := [(0, .int .u64 (((u6 : Nat) : Int))), (1, .int .u8 (((u7 : Nat) : Int))), (2, .string (str ((Lib.cut ((Lib.cut ((Lib.cut s ([32] : List UInt8)).2.1) ([32] : List UInt8)).2.1) ([32] : List UInt8)).2.1)))]) tok30.k rfl tok30 (F.evp rfl) rfl) rfl ?_; clear F a; intro a F
 refine rl_storeA F M tok30 (k := 0) rfl rfl rfl (us := [.int .u64 (((u6 : Nat) : Int)), .int .u8 (((u7 : Nat) : Int)), .string (str ((Lib.cut ((Lib.cut ((Lib.cut s ([32] : List UInt8)).2.1) ([32] : List UInt8)).2.1) ([32] : List UInt8)).2.1)), .slice none (0) (0)]) rfl rfl (by simp [Value.oneCell']) (by simp) ?_; clear F M a; intro w a M F
 change Mem w0 G (.blk b1 [.int .u64 (((u6 : Nat) : Int)), .int .u8 (((u7 : Nat) : Int)), .string (str ((Lib.cut ((Lib.cut ((Lib.cut s ([32] : List UInt8)).2.1) ([32] : List UInt8)).2.1) ([32] : List UInt8)).2.1)), .slice none (0) (0)] 30 :: L) _ at M
 refine rl_nil <| q_tn ?_
 iterate 2 (refine wp_seq ?_)
 refine w_reg <| rl_run F (run_move (F.ev rfl)) rfl ?_; clear F a; intro a F
 refine rl_run F (run_strNe (F.ev rfl) (F.ev rfl)) rfl ?_; clear F a; intro a F
 refine rl_nil <| q_tn <| w_cond F rfl ?_ ?_
 ·intro hc
  have h8b := hc; clear hc
  have h8 : ¬ (((Lib.cut ((Lib.cut ((Lib.cut s ([32] : List UInt8)).2.1) ([32] : List UInt8)).2.1) ([32] : List UInt8)).1) = ([45] : List UInt8)) := of_decide_eq_false (of_not_t h8b)
  have h8c : (decide (((Lib.cut ((Lib.cut ((Lib.cut s ([32] : List UInt8)).2.1) ([32] : List UInt8)).2.1) ([32] : List UInt8)).1) = ([45] : List UInt8))) = false := (of_not_t h8b)
  refine w_reg <| rl_run F (run_move (F.ev rfl)) rfl ?_; clear F a; intro a F
  refine rl_call F ent55 rfl rfl (split_spec (s := (Lib.cut ((Lib.cut ((Lib.cut s ([32] : List UInt8)).2.1) ([32] : List UInt8)).2.1) ([32] : List UInt8)).1) M HG (by omega)) ?_; clear F M a; rintro _ Gp9 w a hGp9 M ⟨ap9, rfl, Sp9⟩ F
  replace HG := HG.mono hGp9
  refine rl_run F (run_fieldAddr tok30.k rfl rfl (F.ev rfl)) rfl ?_; clear F a; intro a F
  refine rl_store1 F M tok28 rfl (k := 0) rfl rfl rfl rfl rfl ?_; clear F M a; intro w a M F
  refine rl_nil <| q_tn <| wp_seq ?_
  have hII10 : ((⟨u6, u7, (Lib.cut ((Lib.cut ((Lib.cut s ([32] : List UInt8)).2.1) ([32] : List UInt8)).2.1) ([32] : List UInt8)).2.1, splitF ((Lib.cut ((Lib.cut ((Lib.cut s ([32] : List UInt8)).2.1) ([32] : List UInt8)).2.1) ([32] : List UInt8)).1)⟩ : ItemD).key < 18446744073709551616 ∧ (⟨u6, u7, (Lib.cut ((Lib.cut ((Lib.cut s ([32] : List UInt8)).2.1) ([32] : List UInt8)).2.1) ([32] : List UInt8)).2.1, splitF ((Lib.cut ((Lib.cut ((Lib.cut s ([32] : List UInt8)).2.1) ([32] : List UInt8)).2.1) ([32] : List UInt8)).1)⟩ : ItemD).typ < 256 ∧ (⟨u6, u7, (Lib.cut ((Lib.cut ((Lib.cut s ([32] : List UInt8)).2.1) ([32] : List UInt8)).2.1) ([32] : List UInt8)).2.1, splitF ((Lib.cut ((Lib.cut ((Lib.cut s ([32] : List UInt8)).2.1) ([32] : List UInt8)).2.1) ([32] : List UInt8)).1)⟩ : ItemD).text.length ≤ 9223372036854775807) := ⟨by show u6 < _; omega, by show u7 < _; omega, by show ((Lib.cut ((Lib.cut ((Lib.cut s ([32] : List UInt8)).2.1) ([32] : List UInt8)).2.1) ([32] : List UInt8)).2.1).length ≤ _; omega⟩
  refine w_plan2 [(.pure, 0), (.free, 1), (.free, 2), (.free, 3), (.free, 4), (.free, 5), (.free, 6), (.free, 7), (.pure, 8), (.keep, 9), (.free, 10), (.free, 11), (.free, 12), (.pure, 13), (.free, 15), (.keep, 14), (.free, 16), (.free, 17), (.chg, 18), (.free, 19)] [18] (Keep Gp9 [.blk b1 [.int .u64 (((u6 : Nat) : Int)), .int .u8 (((u7 : Nat) : Int)), .string (str ((Lib.cut ((Lib.cut ((Lib.cut s ([32] : List UInt8)).2.1) ([32] : List UInt8)).2.1) ([32] : List UInt8)).2.1)), .slice (ap9) ((splitF ((Lib.cut ((Lib.cut ((Lib.cut s ([32] : List UInt8)).2.1) ([32] : List UInt8)).2.1) ([32] : List UInt8)).1)).length) ((splitF ((Lib.cut ((Lib.cut ((Lib.cut s ([32] : List UInt8)).2.1) ([32] : List UInt8)).2.1) ([32] : List UInt8)).1)).length)] 30]) rfl (by kernel_rfl) (fun c a d v w h => by cases d <;> exact h) ((M.drew _).keep (Gle.refl _) (by simp)) ?_
  replace M := M.drew (w.drawn + 1)
  refine pk_pure F (fun w M => run_loadA tok30 rfl (F.ev rfl) (cs := [.int .u64 (((u6 : Nat) : Int)), .int .u8 (((u7 : Nat) : Int)), .string (str ((Lib.cut ((Lib.cut ((Lib.cut s ([32] : List UInt8)).2.1) ([32] : List UInt8)).2.1) ([32] : List UInt8)).2.1)), .slice (ap9) ((splitF ((Lib.cut ((Lib.cut ((Lib.cut s ([32] : List UInt8)).2.1) ([32] : List UInt8)).2.1) ([32] : List UInt8)).1)).length) ((splitF ((Lib.cut ((Lib.cut ((Lib.cut s ([32] : List UInt8)).2.1) ([32] : List UInt8)).2.1) ([32] : List UInt8)).1)).length)]) rfl (M.cellsL (k := 0) rfl rfl)) rfl ?_; clear F a; intro a F
  refine pk_free F (fun w _ => run_move (F.ev rfl)) rfl ?_; clear F a; intro a F
  refine pk_free F (fun w _ => run_eqNilI tok61.k hiu6 (F.ev rfl) rfl) rfl ?_; clear F a; intro a F
  refine pk_free F (fun w _ => run_move (F.ev rfl)) rfl ?_; clear F a; intro a F
  rcases Bool.eq_false_or_eq_true (isNilI eru6) with hc | hc
  ·skip
   have h11b := hc; clear hc
   have h11 : (isNilI eru6) = true := h11b
   refine pk_free_g F rfl rfl h11b (fun w _ => run_move (F.ev rfl)) rfl ?_; clear F a; intro a F
   refine pk_free_g F rfl rfl h11b (fun w _ => run_eqNilI tok61.k hiu7 (F.ev rfl) rfl) rfl ?_; clear F a; intro a F
   refine pk_free F (fun w _ => run_pick_t (F.ev rfl) h11b (F.ev rfl)) rfl ?_; clear F a; intro a F
   refine pk_free F (fun w _ => run_move (F.ev rfl)) rfl ?_; clear F a; intro a F
   rcases Bool.eq_false_or_eq_true (isNilI eru7) with hc | hc
   ·skip
    have h12b := hc; clear hc
    have h12 : (isNilI eru7) = true := h12b
    refine pk_pure_g F rfl rfl h12b (fun w M => run_loadA tok30 rfl (F.ev rfl) (cs := [.int .u64 (((u6 : Nat) : Int)), .int .u8 (((u7 : Nat) : Int)), .string (str ((Lib.cut ((Lib.cut ((Lib.cut s ([32] : List UInt8)).2.1) ([32] : List UInt8)).2.1) ([32] : List UInt8)).2.1)), .slice (ap9) ((splitF ((Lib.cut ((Lib.cut ((Lib.cut s ([32] : List UInt8)).2.1) ([32] : List UInt8)).2.1) ([32] : List UInt8)).1)).length) ((splitF ((Lib.cut ((Lib.cut ((Lib.cut s ([32] : List UInt8)).2.1) ([32] : List UInt8)).2.1) ([32] : List UInt8)).1)).length)]) rfl (M.cellsL (k := 0) rfl rfl)) rfl ?_; clear F a; intro a F
    refine pk_keep_g F rfl rfl h12b ?_
    refine rl_guard_t F rfl rfl rfl h12b ?_
    refine rl_callS F ent9 rfl rfl (check_spec (x := (⟨u6, u7, (Lib.cut ((Lib.cut ((Lib.cut s ([32] : List UInt8)).2.1) ([32] : List UInt8)).2.1) ([32] : List UInt8)).2.1, splitF ((Lib.cut ((Lib.cut ((Lib.cut s ([32] : List UInt8)).2.1) ([32] : List UInt8)).2.1) ([32] : List UInt8)).1)⟩ : ItemD)) (t := 8) M hII10 Sp9) ?_; clear F M a; rintro _ w a M rfl F
    refine rl_nil <| ⟨Keep Gp9 [.blk b1 [.int .u64 (((u6 : Nat) : Int)), .int .u8 (((u7 : Nat) : Int)), .string (str ((Lib.cut ((Lib.cut ((Lib.cut s ([32] : List UInt8)).2.1) ([32] : List UInt8)).2.1) ([32] : List UInt8)).2.1)), .slice (ap9) ((splitF ((Lib.cut ((Lib.cut ((Lib.cut s ([32] : List UInt8)).2.1) ([32] : List UInt8)).2.1) ([32] : List UInt8)).1)).length) ((splitF ((Lib.cut ((Lib.cut ((Lib.cut s ([32] : List UInt8)).2.1) ([32] : List UInt8)).2.1) ([32] : List UInt8)).1)).length)] 30], M.keep (Gle.refl _) (by simp), fun w h => h.mono (Gle.refl _) (by simp), ?_⟩
    refine pk_free_g F rfl rfl h12b (fun w _ => run_eqi (F.ev rfl) (F.ev rfl)) rfl ?_; clear F a; intro a F
    refine pk_free F (fun w _ => run_pick_t (F.ev rfl) h12b (F.ev rfl)) rfl ?_; clear F a; intro a F
    refine pk_free F (fun w _ => run_move (F.ev rfl)) rfl ?_; clear F a; intro a F
    rcases Bool.eq_false_or_eq_true (decide (itmF 8 ((⟨u6, u7, (Lib.cut ((Lib.cut ((Lib.cut s ([32] : List UInt8)).2.1) ([32] : List UInt8)).2.1) ([32] : List UInt8)).2.1, splitF ((Lib.cut ((Lib.cut ((Lib.cut s ([32] : List UInt8)).2.1) ([32] : List UInt8)).2.1) ([32] : List UInt8)).1)⟩ : ItemD)) = 0)) with hc | hc
    ·skip
     have h13b := hc; clear hc
     have h13 : itmF 8 ((⟨u6, u7, (Lib.cut ((Lib.cut ((Lib.cut s ([32] : List UInt8)).2.1) ([32] : List UInt8)).2.1) ([32] : List UInt8)).2.1, splitF ((Lib.cut ((Lib.cut ((Lib.cut s ([32] : List UInt8)).2.1) ([32] : List UInt8)).2.1) ([32] : List UInt8)).1)⟩ : ItemD)) = 0 := of_decide_eq_true h13b
     refine pk_pure_g F rfl rfl h13b (fun w M => run_loadA tok30 rfl (F.ev rfl) (cs := [.int .u64 (((u6 : Nat) : Int)), .int .u8 (((u7 : Nat) : Int)), .string (str ((Lib.cut ((Lib.cut ((Lib.cut s ([32] : List UInt8)).2.1) ([32] : List UInt8)).2.1) ([32] : List UInt8)).2.1)), .slice (ap9) ((splitF ((Lib.cut ((Lib.cut ((Lib.cut s ([32] : List UInt8)).2.1) ([32] : List UInt8)).2.1) ([32] : List UInt8)).1)).length) ((splitF ((Lib.cut ((Lib.cut ((Lib.cut s ([32] : List UInt8)).2.1) ([32] : List UInt8)).2.1) ([32] : List UInt8)).1)).length)]) rfl (M.cellsL (k := 0) rfl rfl)) rfl ?_; clear F a; intro a F
     refine pk_free_g F rfl rfl h13b (fun w _ => run_move (F.ev rfl)) rfl ?_; clear F a; intro a F
     refine pk_keep_g F rfl rfl h13b ?_
     refine rl_guard_t F rfl rfl rfl h13b ?_
     refine rl_callS F ent33 rfl rfl (line_spec (x := (⟨u6, u7, (Lib.cut ((Lib.cut ((Lib.cut s ([32] : List UInt8)).2.1) ([32] : List UInt8)).2.1) ([32] : List UInt8)).2.1, splitF ((Lib.cut ((Lib.cut ((Lib.cut s ([32] : List UInt8)).2.1) ([32] : List UInt8)).2.1) ([32] : List UInt8)).1)⟩ : ItemD)) M HG hII10 Sp9 (itmF_zero.1 (by assumption))) ?_; clear F M a; rintro _ w a M rfl F
     have hlll14 := line_len (x := (⟨u6, u7, (Lib.cut ((Lib.cut ((Lib.cut s ([32] : List UInt8)).2.1) ([32] : List UInt8)).2.1) ([32] : List UInt8)).2.1, splitF ((Lib.cut ((Lib.cut ((Lib.cut s ([32] : List UInt8)).2.1) ([32] : List UInt8)).2.1) ([32] : List UInt8)).1)⟩ : ItemD)) (itmF_zero.1 (by assumption)) hII10.1 hII10.2.1
     refine rl_nil <| ⟨Keep Gp9 [.blk b1 [.int .u64 (((u6 : Nat) : Int)), .int .u8 (((u7 : Nat) : Int)), .string (str ((Lib.cut ((Lib.cut ((Lib.cut s ([32] : List UInt8)).2.1) ([32] : List UInt8)).2.1) ([32] : List UInt8)).2.1)), .slice (ap9) ((splitF ((Lib.cut ((Lib.cut ((Lib.cut s ([32] : List UInt8)).2.1) ([32] : List UInt8)).2.1) ([32] : List UInt8)).1)).length) ((splitF ((Lib.cut ((Lib.cut ((Lib.cut s ([32] : List UInt8)).2.1) ([32] : List UInt8)).2.1) ([32] : List UInt8)).1)).length)] 30], M.keep (Gle.refl _) (by simp), fun w h => h.mono (Gle.refl _) (by simp), ?_⟩
     refine pk_free_g F rfl rfl h13b (fun w _ => run_strEq (F.ev rfl) (F.ev rfl)) rfl ?_; clear F a; intro a F
     refine pk_free F (fun w _ => run_pick_t (F.ev rfl) h13b (F.ev rfl)) rfl ?_; clear F a; intro a F
     refine pk_chg ?_ rfl
     refine rl_storeA F M tok30 (k := 0) rfl rfl rfl (us := [.int .u64 (((u6 : Nat) : Int)), .int .u8 (((u7 : Nat) : Int)), .string (str ((Lib.cut ((Lib.cut ((Lib.cut s ([32] : List UInt8)).2.1) ([32] : List UInt8)).2.1) ([32] : List UInt8)).2.1)), .slice (ap9) ((splitF ((Lib.cut ((Lib.cut ((Lib.cut s ([32] : List UInt8)).2.1) ([32] : List UInt8)).2.1) ([32] : List UInt8)).1)).length) ((splitF ((Lib.cut ((Lib.cut ((Lib.cut s ([32] : List UInt8)).2.1) ([32] : List UInt8)).2.1) ([32] : List UInt8)).1)).length)]) rfl rfl (by simp [Value.oneCell']) (by simp) ?_; clear F M a; intro w a M F
     change Mem w0 Gp9 (.blk b1 [.int .u64 (((u6 : Nat) : Int)), .int .u8 (((u7 : Nat) : Int)), .string (str ((Lib.cut ((Lib.cut ((Lib.cut s ([32] : List UInt8)).2.1) ([32] : List UInt8)).2.1) ([32] : List UInt8)).2.1)), .slice (ap9) ((splitF ((Lib.cut ((Lib.cut ((Lib.cut s ([32] : List UInt8)).2.1) ([32] : List UInt8)).2.1) ([32] : List UInt8)).1)).length) ((splitF ((Lib.cut ((Lib.cut ((Lib.cut s ([32] : List UInt8)).2.1) ([32] : List UInt8)).2.1) ([32] : List UInt8)).1)).length)] 30 :: L) _ at M
     refine rl_nil <| ⟨Keep Gp9 [.blk b1 [.int .u64 (((u6 : Nat) : Int)), .int .u8 (((u7 : Nat) : Int)), .string (str ((Lib.cut ((Lib.cut ((Lib.cut s ([32] : List UInt8)).2.1) ([32] : List UInt8)).2.1) ([32] : List UInt8)).2.1)), .slice (ap9) ((splitF ((Lib.cut ((Lib.cut ((Lib.cut s ([32] : List UInt8)).2.1) ([32] : List UInt8)).2.1) ([32] : List UInt8)).1)).length) ((splitF ((Lib.cut ((Lib.cut ((Lib.cut s ([32] : List UInt8)).2.1) ([32] : List UInt8)).2.1) ([32] : List UInt8)).1)).length)] 30], M.keep (Gle.refl _) (by simp), ?_⟩
     refine pk_free F (fun w _ => run_assign (F.ev rfl)) rfl ?_; clear F a; intro a F
     refine pk_nil <| q_tn <| wp_ret <| fin_ct F M (k := 0) rfl rfl tok30 rfl rfl rfl rfl ?_
     refine ⟨_, hGp9, M.weaken (.cons _ (List.Sublist.refl _)), (⟨u6, u7, (Lib.cut ((Lib.cut ((Lib.cut s ([32] : List UInt8)).2.1) ([32] : List UInt8)).2.1) ([32] : List UInt8)).2.1, splitF ((Lib.cut ((Lib.cut ((Lib.cut s ([32] : List UInt8)).2.1) ([32] : List UInt8)).2.1) ([32] : List UInt8)).1)⟩ : ItemD), ap9, (splitF ((Lib.cut ((Lib.cut ((Lib.cut s ([32] : List UInt8)).2.1) ([32] : List UInt8)).2.1) ([32] : List UInt8)).1)).length, (decide ((lineF ((⟨u6, u7, (Lib.cut ((Lib.cut ((Lib.cut s ([32] : List UInt8)).2.1) ([32] : List UInt8)).2.1) ([32] : List UInt8)).2.1, splitF ((Lib.cut ((Lib.cut ((Lib.cut s ([32] : List UInt8)).2.1) ([32] : List UInt8)).2.1) ([32] : List UInt8)).1)⟩ : ItemD))) = s)), rfl, hII10, Sp9, ?_, ?_⟩
     ·intro hb_; first | (cases hb_; done) | exact ⟨itmF_zero.1 (by assumption), hII10.1, of_decide_eq_true hb_⟩
     ·intro hb_ y hy; obtain ⟨q1, q2, q3⟩ := item_back hy hpuu6 (by omega) hpuu7; unfold marksG at q3; first | rw [if_neg (by assumption)] at q3 | rw [if_pos (by assumption)] at q3
      first | exact absurd (show true = false from q1.symm.trans (by assumption)) (by decide) | exact absurd (show true = false from q2.symm.trans (by assumption)) (by decide) | exact absurd (show itmF 8 (⟨u6, u7, (Lib.cut ((Lib.cut ((Lib.cut s ([32] : List UInt8)).2.1) ([32] : List UInt8)).2.1) ([32] : List UInt8)).2.1, splitF ((Lib.cut ((Lib.cut ((Lib.cut s ([32] : List UInt8)).2.1) ([32] : List UInt8)).2.1) ([32] : List UInt8)).1)⟩ : ItemD) = 0 by rw [q3]; exact itmF_yes hy.1) (by assumption) | exact absurd (show lineF (⟨u6, u7, (Lib.cut ((Lib.cut ((Lib.cut s ([32] : List UInt8)).2.1) ([32] : List UInt8)).2.1) ([32] : List UInt8)).2.1, splitF ((Lib.cut ((Lib.cut ((Lib.cut s ([32] : List UInt8)).2.1) ([32] : List UInt8)).2.1) ([32] : List UInt8)).1)⟩ : ItemD) = s by rw [q3]; exact hy.2.2) (of_decide_eq_false hb_)
    ·skip
     have h15b := hc; clear hc
     have h15 : ¬ (itmF 8 ((⟨u6, u7, (Lib.cut ((Lib.cut ((Lib.cut s ([32] : List UInt8)).2.1) ([32] : List UInt8)).2.1) ([32] : List UInt8)).2.1, splitF ((Lib.cut ((Lib.cut ((Lib.cut s ([32] : List UInt8)).2.1) ([32] : List UInt8)).2.1) ([32] : List UInt8)).1)⟩ : ItemD)) = 0) := of_decide_eq_false h15b
     iterate 4 (refine pk_skip F rfl rfl h15b rfl ?_; clear F a; intro a F)
     refine pk_free F (fun w _ => run_pick_f (F.ev rfl) h15b (F.ev rfl)) rfl ?_; clear F a; intro a F
     refine pk_chg ?_ rfl
     refine rl_storeA F M tok30 (k := 0) rfl rfl rfl (us := [.int .u64 (((u6 : Nat) : Int)), .int .u8 (((u7 : Nat) : Int)), .string (str ((Lib.cut ((Lib.cut ((Lib.cut s ([32] : List UInt8)).2.1) ([32] : List UInt8)).2.1) ([32] : List UInt8)).2.1)), .slice (ap9) ((splitF ((Lib.cut ((Lib.cut ((Lib.cut s ([32] : List UInt8)).2.1) ([32] : List UInt8)).2.1) ([32] : List UInt8)).1)).length) ((splitF ((Lib.cut ((Lib.cut ((Lib.cut s ([32] : List UInt8)).2.1) ([32] : List UInt8)).2.1) ([32] : List UInt8)).1)).length)]) rfl rfl (by simp [Value.oneCell']) (by simp) ?_; clear F M a; intro w a M F
     change Mem w0 Gp9 (.blk b1 [.int .u64 (((u6 : Nat) : Int)), .int .u8 (((u7 : Nat) : Int)), .string (str ((Lib.cut ((Lib.cut ((Lib.cut s ([32] : List UInt8)).2.1) ([32] : List UInt8)).2.1) ([32] : List UInt8)).2.1)), .slice (ap9) ((splitF ((Lib.cut ((Lib.cut ((Lib.cut s ([32] : List UInt8)).2.1) ([32] : List UInt8)).2.1) ([32] : List UInt8)).1)).length) ((splitF ((Lib.cut ((Lib.cut ((Lib.cut s ([32] : List UInt8)).2.1) ([32] : List UInt8)).2.1) ([32] : List UInt8)).1)).length)] 30 :: L) _ at M
     refine rl_nil <| ⟨Keep Gp9 [.blk b1 [.int .u64 (((u6 : Nat) : Int)), .int .u8 (((u7 : Nat) : Int)), .string (str ((Lib.cut ((Lib.cut ((Lib.cut s ([32] : List UInt8)).2.1) ([32] : List UInt8)).2.1) ([32] : List UInt8)).2.1)), .slice (ap9) ((splitF ((Lib.cut ((Lib.cut ((Lib.cut s ([32] : List UInt8)).2.1) ([32] : List UInt8)).2.1) ([32] : List UInt8)).1)).length) ((splitF ((Lib.cut ((Lib.cut ((Lib.cut s ([32] : List UInt8)).2.1) ([32] : List UInt8)).2.1) ([32] : List UInt8)).1)).length)] 30], M.keep (Gle.refl _) (by simp), ?_⟩
     refine pk_free F (fun w _ => run_assign (F.ev rfl)) rfl ?_; clear F a; intro a F
     refine pk_nil <| q_tn <| wp_ret <| fin_ct F M (k := 0) rfl rfl tok30 rfl rfl rfl rfl ?_
     refine ⟨_, hGp9, M.weaken (.cons _ (List.Sublist.refl _)), (⟨u6, u7, (Lib.cut ((Lib.cut ((Lib.cut s ([32] : List UInt8)).2.1) ([32] : List UInt8)).2.1) ([32] : List UInt8)).2.1, splitF ((Lib.cut ((Lib.cut ((Lib.cut s ([32] : List UInt8)).2.1) ([32] : List UInt8)).2.1) ([32] : List UInt8)).1)⟩ : ItemD), ap9, (splitF ((Lib.cut ((Lib.cut ((Lib.cut s ([32] : List UInt8)).2.1) ([32] : List UInt8)).2.1) ([32] : List UInt8)).1)).length, false, rfl, hII10, Sp9, ?_, ?_⟩
     ·intro hb_; first | (cases hb_; done) | exact ⟨itmF_zero.1 (by assumption), hII10.1, of_decide_eq_true hb_⟩
     ·intro hb_ y hy; obtain ⟨q1, q2, q3⟩ := item_back hy hpuu6 (by omega) hpuu7; unfold marksG at q3; first | rw [if_neg (by assumption)] at q3 | rw [if_pos (by assumption)] at q3
      first | exact absurd (show true = false from q1.symm.trans (by assumption)) (by decide) | exact absurd (show true = false from q2.symm.trans (by assumption)) (by decide) | exact absurd (show itmF 8 (⟨u6, u7, (Lib.cut ((Lib.cut ((Lib.cut s ([32] : List UInt8)).2.1) ([32] : List UInt8)).2.1) ([32] : List UInt8)).2.1, splitF ((Lib.cut ((Lib.cut ((Lib.cut s ([32] : List UInt8)).2.1) ([32] : List UInt8)).2.1) ([32] : List UInt8)).1)⟩ : ItemD) = 0 by rw [q3]; exact itmF_yes hy.1) (by assumption) | exact absurd (show lineF (⟨u6, u7, (Lib.cut ((Lib.cut ((Lib.cut s ([32] : List UInt8)).2.1) ([32] : List UInt8)).2.1) ([32] : List UInt8)).2.1, splitF ((Lib.cut ((Lib.cut ((Lib.cut s ([32] : List UInt8)).2.1) ([32] : List UInt8)).2.1) ([32] : List UInt8)).1)⟩ : ItemD) = s by rw [q3]; exact hy.2.2) (of_decide_eq_false hb_)
   ·skip
    have h16b := hc; clear hc
    have h16 : (isNilI eru7) = false := h16b
    iterate 3 (refine pk_skip F rfl rfl h16b rfl ?_; clear F a; intro a F)
    refine pk_free F (fun w _ => run_pick_f (F.ev rfl) h16b (F.ev rfl)) rfl ?_; clear F a; intro a F
    refine pk_free F (fun w _ => run_move (F.ev rfl)) rfl ?_; clear F a; intro a F
    iterate 4 (refine pk_skip F rfl rfl rfl rfl ?_; clear F a; intro a F)
    refine pk_free F (fun w _ => run_pick_f (F.ev rfl) rfl (F.ev rfl)) rfl ?_; clear F a; intro a F
    refine pk_chg ?_ rfl
    refine rl_storeA F M tok30 (k := 0) rfl rfl rfl (us := [.int .u64 (((u6 : Nat) : Int)), .int .u8 (((u7 : Nat) : Int)), .string (str ((Lib.cut ((Lib.cut ((Lib.cut s ([32] : List UInt8)).2.1) ([32] : List UInt8)).2.1) ([32] : List UInt8)).2.1)), .slice (ap9) ((splitF ((Lib.cut ((Lib.cut ((Lib.cut s ([32] : List UInt8)).2.1) ([32] : List UInt8)).2.1) ([32] : List UInt8)).1)).length) ((splitF ((Lib.cut ((Lib.cut ((Lib.cut s ([32] : List UInt8)).2.1) ([32] : List UInt8)).2.1) ([32] : List UInt8)).1)).length)]) rfl rfl (by simp [Value.oneCell']) (by simp) ?_; clear F M a; intro w a M F
    change Mem w0 Gp9 (.blk b1 [.int .u64 (((u6 : Nat) : Int)), .int .u8 (((u7 : Nat) : Int)), .string (str ((Lib.cut ((Lib.cut ((Lib.cut s ([32] : List UInt8)).2.1) ([32] : List UInt8)).2.1) ([32] : List UInt8)).2.1)), .slice (ap9) ((splitF ((Lib.cut ((Lib.cut ((Lib.cut s ([32] : List UInt8)).2.1) ([32] : List UInt8)).2.1) ([32] : List UInt8)).1)).length) ((splitF ((Lib.cut ((Lib.cut ((Lib.cut s ([32] : List UInt8)).2.1) ([32] : List UInt8)).2.1) ([32] : List UInt8)).1)).length)] 30 :: L) _ at M
    refine rl_nil <| ⟨Keep Gp9 [.blk b1 [.int .u64 (((u6 : Nat) : Int)), .int .u8 (((u7 : Nat) : Int)), .string (str ((Lib.cut ((Lib.cut ((Lib.cut s ([32] : List UInt8)).2.1) ([32] : List UInt8)).2.1) ([32] : List UInt8)).2.1)), .slice (ap9) ((splitF ((Lib.cut ((Lib.cut ((Lib.cut s ([32] : List UInt8)).2.1) ([32] : List UInt8)).2.1) ([32] : List UInt8)).1)).length) ((splitF ((Lib.cut ((Lib.cut ((Lib.cut s ([32] : List UInt8)).2.1) ([32] : List UInt8)).2.1) ([32] : List UInt8)).1)).length)] 30], M.keep (Gle.refl _) (by simp), ?_⟩
    refine pk_free F (fun w _ => run_assign (F.ev rfl)) rfl ?_; clear F a; intro a F
    refine pk_nil <| q_tn <| wp_ret <| fin_ct F M (k := 0) rfl rfl tok30 rfl rfl rfl rfl ?_
    refine ⟨_, hGp9, M.weaken (.cons _ (List.Sublist.refl _)), (⟨u6, u7, (Lib.cut ((Lib.cut ((Lib.cut s ([32] : List UInt8)).2.1) ([32] : List UInt8)).2.1) ([32] : List UInt8)).2.1, splitF ((Lib.cut ((Lib.cut ((Lib.cut s ([32] : List UInt8)).2.1) ([32] : List UInt8)).2.1) ([32] : List UInt8)).1)⟩ : ItemD), ap9, (splitF ((Lib.cut ((Lib.cut ((Lib.cut s ([32] : List UInt8)).2.1) ([32] : List UInt8)).2.1) ([32] : List UInt8)).1)).length, false, rfl, hII10, Sp9, ?_, ?_⟩
    ·intro hb_; first | (cases hb_; done) | exact ⟨itmF_zero.1 (by assumption), hII10.1, of_decide_eq_true hb_⟩
    ·intro hb_ y hy; obtain ⟨q1, q2, q3⟩ := item_back hy hpuu6 (by omega) hpuu7; unfold marksG at q3; first | rw [if_neg (by assumption)] at q3 | rw [if_pos (by assumption)] at q3
     first | exact absurd (show true = false from q1.symm.trans (by assumption)) (by decide) | exact absurd (show true = false from q2.symm.trans (by assumption)) (by decide) | exact absurd (show itmF 8 (⟨u6, u7, (Lib.cut ((Lib.cut ((Lib.cut s ([32] : List UInt8)).2.1) ([32] : List UInt8)).2.1) ([32] : List UInt8)).2.1, splitF ((Lib.cut ((Lib.cut ((Lib.cut s ([32] : List UInt8)).2.1) ([32] : List UInt8)).2.1) ([32] : List UInt8)).1)⟩ : ItemD) = 0 by rw [q3]; exact itmF_yes hy.1) (by assumption) | exact absurd (show lineF (⟨u6, u7, (Lib.cut ((Lib.cut ((Lib.cut s ([32] : List UInt8)).2.1) ([32] : List UInt8)).2.1) ([32] : List UInt8)).2.1, splitF ((Lib.cut ((Lib.cut ((Lib.cut s ([32] : List UInt8)).2.1) ([32] : List UInt8)).2.1) ([32] : List UInt8)).1)⟩ : ItemD) = s by rw [q3]; exact hy.2.2) (of_decide_eq_false hb_)
  ·skip
   have h17b := hc; clear hc
   have h17 : (isNilI eru6) = false := h17b
   iterate 2 (refine pk_skip F rfl rfl h17b rfl ?_; clear F a; intro a F)
   refine pk_free F (fun w _ => run_pick_f (F.ev rfl) h17b (F.ev rfl)) rfl ?_; clear F a; intro a F
   refine pk_free F (fun w _ => run_move (F.ev rfl)) rfl ?_; clear F a; intro a F
   iterate 3 (refine pk_skip F rfl rfl rfl rfl ?_; clear F a; intro a F)
   refine pk_free F (fun w _ => run_pick_f (F.ev rfl) rfl (F.ev rfl)) rfl ?_; clear F a; intro a F
   refine pk_free F (fun w _ => run_move (F.ev rfl)) rfl ?_; clear F a; intro a F
   iterate 4 (refine pk_skip F rfl rfl rfl rfl ?_; clear F a; intro a F)
   refine pk_free F (fun w _ => run_pick_f (F.ev rfl) rfl (F.ev rfl)) rfl ?_; clear F a; intro a F
   refine pk_chg ?_ rfl
   refine rl_storeA F M tok30 (k := 0) rfl rfl rfl (us := [.int .u64 (((u6 : Nat) : Int)), .int .u8 (((u7 : Nat) : Int)), .string (str ((Lib.cut ((Lib.cut ((Lib.cut s ([32] : List UInt8)).2.1) ([32] : List UInt8)).2.1) ([32] : List UInt8)).2.1)), .slice (ap9) ((splitF ((Lib.cut ((Lib.cut ((Lib.cut s ([32] : List UInt8)).2.1) ([32] : List UInt8)).2.1) ([32] : List UInt8)).1)).length) ((splitF ((Lib.cut ((Lib.cut ((Lib.cut s ([32] : List UInt8)).2.1) ([32] : List UInt8)).2.1) ([32] : List UInt8)).1)).length)]) rfl rfl (by simp [Value.oneCell']) (by simp) ?_; clear F M a; intro w a M F
   change Mem w0 Gp9 (.blk b1 [.int .u64 (((u6 : Nat) : Int)), .int .u8 (((u7 : Nat) : Int)), .string (str ((Lib.cut ((Lib.cut ((Lib.cut s ([32] : List UInt8)).2.1) ([32] : List UInt8)).2.1) ([32] : List UInt8)).2.1)), .slice (ap9) ((splitF ((Lib.cut ((Lib.cut ((Lib.cut s ([32] : List UInt8)).2.1) ([32] : List UInt8)).2.1) ([32] : List UInt8)).1)).length) ((splitF ((Lib.cut ((Lib.cut ((Lib.cut s ([32] : List UInt8)).2.1) ([32] : List UInt8)).2.1) ([32] : List UInt8)).1)).length)] 30 :: L) _ at M
   refine rl_nil <| ⟨Keep Gp9 [.blk b1 [.int .u64 (((u6 : Nat) : Int)), .int .u8 (((u7 : Nat) : Int)), .string (str ((Lib.cut ((Lib.cut ((Lib.cut s ([32] : List UInt8)).2.1) ([32] : List UInt8)).2.1) ([32] : List UInt8)).2.1)), .slice (ap9) ((splitF ((Lib.cut ((Lib.cut ((Lib.cut s ([32] : List UInt8)).2.1) ([32] : List UInt8)).2.1) ([32] : List UInt8)).1)).length) ((splitF ((Lib.cut ((Lib.cut ((Lib.cut s ([32] : List UInt8)).2.1) ([32] : List UInt8)).2.1) ([32] : List UInt8)).1)).length)] 30], M.keep (Gle.refl _) (by simp), ?_⟩
   refine pk_free F (fun w _ => run_assign (F.ev rfl)) rfl ?_; clear F a; intro a F
   refine pk_nil <| q_tn <| wp_ret <| fin_ct F M (k := 0) rfl rfl tok30 rfl rfl rfl rfl ?_
   refine ⟨_, hGp9, M.weaken (.cons _ (List.Sublist.refl _)), (⟨u6, u7, (Lib.cut ((Lib.cut ((Lib.cut s ([32] : List UInt8)).2.1) ([32] : List UInt8)).2.1) ([32] : List UInt8)).2.1, splitF ((Lib.cut ((Lib.cut ((Lib.cut s ([32] : List UInt8)).2.1) ([32] : List UInt8)).2.1) ([32] : List UInt8)).1)⟩ : ItemD), ap9, (splitF ((Lib.cut ((Lib.cut ((Lib.cut s ([32] : List UInt8)).2.1) ([32] : List UInt8)).2.1) ([32] : List UInt8)).1)).length, false, rfl, hII10, Sp9, ?_, ?_⟩
   ·intro hb_; first | (cases hb_; done) | exact ⟨itmF_zero.1 (by assumption), hII10.1, of_decide_eq_true hb_⟩
   ·intro hb_ y hy; obtain ⟨q1, q2, q3⟩ := item_back hy hpuu6 (by omega) hpuu7; unfold marksG at q3; first | rw [if_neg (by assumption)] at q3 | rw [if_pos (by assumption)] at q3
    first | exact absurd (show true = false from q1.symm.trans (by assumption)) (by decide) | exact absurd (show true = false from q2.symm.trans (by assumption)) (by decide) | exact absurd (show itmF 8 (⟨u6, u7, (Lib.cut ((Lib.cut ((Lib.cut s ([32] : List UInt8)).2.1) ([32] : List UInt8)).2.1) ([32] : List UInt8)).2.1, splitF ((Lib.cut ((Lib.cut ((Lib.cut s ([32] : List UInt8)).2.1) ([32] : List UInt8)).2.1) ([32] : List UInt8)).1)⟩ : ItemD) = 0 by rw [q3]; exact itmF_yes hy.1) (by assumption) | exact absurd (show lineF (⟨u6, u7, (Lib.cut ((Lib.cut ((Lib.cut s ([32] : List UInt8)).2.1) ([32] : List UInt8)).2.1) ([32] : List UInt8)).2.1, splitF ((Lib.cut ((Lib.cut ((Lib.cut s ([32] : List UInt8)).2.1) ([32] : List UInt8)).2.1) ([32] : List UInt8)).1)⟩ : ItemD) = s by rw [q3]; exact hy.2.2) (of_decide_eq_false hb_)
 ·intro hc
  have h18b := hc; clear hc
  have h18 : ((Lib.cut ((Lib.cut ((Lib.cut s ([32] : List UInt8)).2.1) ([32] : List UInt8)).2.1) ([32] : List UInt8)).1) = ([45] : List UInt8) := of_decide_eq_true (of_not_f h18b)
  have h18c : (decide (((Lib.cut ((Lib.cut ((Lib.cut s ([32] : List UInt8)).2.1) ([32] : List UInt8)).2.1) ([32] : List UInt8)).1) = ([45] : List UInt8))) = true := (of_not_f h18b)
  refine wp_skip <| q_tn <| wp_seq ?_
  have hII19 : ((⟨u6, u7, (Lib.cut ((Lib.cut ((Lib.cut s ([32] : List UInt8)).2.1) ([32] : List UInt8)).2.1) ([32] : List UInt8)).2.1, ([] : List (List UInt8))⟩ : ItemD).key < 18446744073709551616 ∧ (⟨u6, u7, (Lib.cut ((Lib.cut ((Lib.cut s ([32] : List UInt8)).2.1) ([32] : List UInt8)).2.1) ([32] : List UInt8)).2.1, ([] : List (List UInt8))⟩ : ItemD).typ < 256 ∧ (⟨u6, u7, (Lib.cut ((Lib.cut ((Lib.cut s ([32] : List UInt8)).2.1) ([32] : List UInt8)).2.1) ([32] : List UInt8)).2.1, ([] : List (List UInt8))⟩ : ItemD).text.length ≤ 9223372036854775807) := ⟨by show u6 < _; omega, by show u7 < _; omega, by show ((Lib.cut ((Lib.cut ((Lib.cut s ([32] : List UInt8)).2.1) ([32] : List UInt8)).2.1) ([32] : List UInt8)).2.1).length ≤ _; omega⟩
  refine w_plan2 [(.pure, 0), (.free, 1), (.free, 2), (.free, 3), (.free, 4), (.free, 5), (.free, 6), (.free, 7), (.pure, 8), (.keep, 9), (.free, 10), (.free, 11), (.free, 12), (.pure, 13), (.free, 15), (.keep, 14), (.free, 16), (.free, 17), (.chg, 18), (.free, 19)] [18] (Keep G [.blk b1 [.int .u64 (((u6 : Nat) : Int)), .int .u8 (((u7 : Nat) : Int)), .string (str ((Lib.cut ((Lib.cut ((Lib.cut s ([32] : List UInt8)).2.1) ([32] : List UInt8)).2.1) ([32] : List UInt8)).2.1)), .slice none (0) (0)] 30]) rfl (by kernel_rfl) (fun c a d v w h => by cases d <;> exact h) ((M.drew _).keep (Gle.refl _) (by simp)) ?_
  replace M := M.drew (w.drawn + 1)
  refine pk_pure F (fun w M => run_loadA tok30 rfl (F.ev rfl) (cs := [.int .u64 (((u6 : Nat) : Int)), .int .u8 (((u7 : Nat) : Int)), .string (str ((Lib.cut ((Lib.cut ((Lib.cut s ([32] : List UInt8)).2.1) ([32] : List UInt8)).2.1) ([32] : List UInt8)).2.1)), .slice none (0) (0)]) rfl (M.cellsL (k := 0) rfl rfl)) rfl ?_; clear F a; intro a F
  refine pk_free F (fun w _ => run_move (F.ev rfl)) rfl ?_; clear F a; intro a F
  refine pk_free F (fun w _ => run_eqNilI tok61.k hiu6 (F.ev rfl) rfl) rfl ?_; clear F a; intro a F
  refine pk_free F (fun w _ => run_move (F.ev rfl)) rfl ?_; clear F a; intro a F
  rcases Bool.eq_false_or_eq_true (isNilI eru6) with hc | hc
  ·skip
   have h20b := hc; clear hc
   have h20 : (isNilI eru6) = true := h20b
   refine pk_free_g F rfl rfl h20b (fun w _ => run_move (F.ev rfl)) rfl ?_; clear F a; intro a F
   refine pk_free_g F rfl rfl h20b (fun w _ => run_eqNilI tok61.k hiu7 (F.ev rfl) rfl) rfl ?_; clear F a; intro a F
   refine pk_free F (fun w _ => run_pick_t (F.ev rfl) h20b (F.ev rfl)) rfl ?_; clear F a; intro a F
   refine pk_free F (fun w _ => run_move (F.ev rfl)) rfl ?_; clear F a; intro a F
   rcases Bool.eq_false_or_eq_true (isNilI eru7) with hc | hc
   ·skip
    have h21b := hc; clear hc
    have h21 : (isNilI eru7) = true := h21b
    refine pk_pure_g F rfl rfl h21b (fun w M => run_loadA tok30 rfl (F.ev rfl) (cs := [.int .u64 (((u6 : Nat) : Int)), .int .u8 (((u7 : Nat) : Int)), .string (str ((Lib.cut ((Lib.cut ((Lib.cut s ([32] : List UInt8)).2.1) ([32] : List UInt8)).2.1) ([32] : List UInt8)).2.1)), .slice none (0) (0)]) rfl (M.cellsL (k := 0) rfl rfl)) rfl ?_; clear F a; intro a F
    refine pk_keep_g F rfl rfl h21b ?_
    refine rl_guard_t F rfl rfl rfl h21b ?_
    refine rl_callS F ent9 rfl rfl (check_spec (x := (⟨u6, u7, (Lib.cut ((Lib.cut ((Lib.cut s ([32] : List UInt8)).2.1) ([32] : List UInt8)).2.1) ([32] : List UInt8)).2.1, ([] : List (List UInt8))⟩ : ItemD)) (t := 8) M hII19 RdSl.nil) ?_; clear F M a; rintro _ w a M rfl F
    refine rl_nil <| ⟨Keep G [.blk b1 [.int .u64 (((u6 : Nat) : Int)), .int .u8 (((u7 : Nat) : Int)), .string (str ((Lib.cut ((Lib.cut ((Lib.cut s ([32] : List UInt8)).2.1) ([32] : List UInt8)).2.1) ([32] : List UInt8)).2.1)), .slice none (0) (0)] 30], M.keep (Gle.refl _) (by simp), fun w h => h.mono (Gle.refl _) (by simp), ?_⟩
    refine pk_free_g F rfl rfl h21b (fun w _ => run_eqi (F.ev rfl) (F.ev rfl)) rfl ?_; clear F a; intro a F
    refine pk_free F (fun w _ => run_pick_t (F.ev rfl) h21b (F.ev rfl)) rfl ?_; clear F a; intro a F
    refine pk_free F (fun w _ => run_move (F.ev rfl)) rfl ?_; clear F a; intro a F
    rcases Bool.eq_false_or_eq_true (decide (itmF 8 ((⟨u6, u7, (Lib.cut ((Lib.cut ((Lib.cut s ([32] : List UInt8)).2.1) ([32] : List UInt8)).2.1) ([32] : List UInt8)).2.1, ([] : List (List UInt8))⟩ : ItemD)) = 0)) with hc | hc
    ·skip
     have h22b := hc; clear hc
     have h22 : itmF 8 ((⟨u6, u7, (Lib.cut ((Lib.cut ((Lib.cut s ([32] : List UInt8)).2.1) ([32] : List UInt8)).2.1) ([32] : List UInt8)).2.1, ([] : List (List UInt8))⟩ : ItemD)) = 0 := of_decide_eq_true h22b
     refine pk_pure_g F rfl rfl h22b (fun w M => run_loadA tok30 rfl (F.ev rfl) (cs := [.int .u64 (((u6 : Nat) : Int)), .int .u8 (((u7 : Nat) : Int)), .string (str ((Lib.cut ((Lib.cut ((Lib.cut s ([32] : List UInt8)).2.1) ([32] : List UInt8)).2.1) ([32] : List UInt8)).2.1)), .slice none (0) (0)]) rfl (M.cellsL (k := 0) rfl rfl)) rfl ?_; clear F a; intro a F
     refine pk_free_g F rfl rfl h22b (fun w _ => run_move (F.ev rfl)) rfl ?_; clear F a; intro a F
     refine pk_keep_g F rfl rfl h22b ?_
     refine rl_guard_t F rfl rfl rfl h22b ?_
     refine rl_callS F ent33 rfl rfl (line_spec (x := (⟨u6, u7, (Lib.cut ((Lib.cut ((Lib.cut s ([32] : List UInt8)).2.1) ([32] : List UInt8)).2.1) ([32] : List UInt8)).2.1, ([] : List (List UInt8))⟩ : ItemD)) M HG hII19 RdSl.nil (itmF_zero.1 (by assumption))) ?_; clear F M a; rintro _ w a M rfl F
     have hlll23 := line_len (x := (⟨u6, u7, (Lib.cut ((Lib.cut ((Lib.cut s ([32] : List UInt8)).2.1) ([32] : List UInt8)).2.1) ([32] : List UInt8)).2.1, ([] : List (List UInt8))⟩ : ItemD)) (itmF_zero.1 (by assumption)) hII19.1 hII19.2.1
     refine rl_nil <| ⟨Keep G [.blk b1 [.int .u64 (((u6 : Nat) : Int)), .int .u8 (((u7 : Nat) : Int)), .string (str ((Lib.cut ((Lib.cut ((Lib.cut s ([32] : List UInt8)).2.1) ([32] : List UInt8)).2.1) ([32] : List UInt8)).2.1)), .slice none (0) (0)] 30], M.keep (Gle.refl _) (by simp), fun w h => h.mono (Gle.refl _) (by simp), ?_⟩
     refine pk_free_g F rfl rfl h22b (fun w _ => run_strEq (F.ev rfl) (F.ev rfl)) rfl ?_; clear F a; intro a F
     refine pk_free F (fun w _ => run_pick_t (F.ev rfl) h22b (F.ev rfl)) rfl ?_; clear F a; intro a F
     refine pk_chg ?_ rfl
     refine rl_storeA F M tok30 (k := 0) rfl rfl rfl (us := [.int .u64 (((u6 : Nat) : Int)), .int .u8 (((u7 : Nat) : Int)), .string (str ((Lib.cut ((Lib.cut ((Lib.cut s ([32] : List UInt8)).2.1) ([32] : List UInt8)).2.1) ([32] : List UInt8)).2.1)), .slice none (0) (0)]) rfl rfl (by simp [Value.oneCell']) (by simp) ?_; clear F M a; intro w a M F
     change Mem w0 G (.blk b1 [.int .u64 (((u6 : Nat) : Int)), .int .u8 (((u7 : Nat) : Int)), .string (str ((Lib.cut ((Lib.cut ((Lib.cut s ([32] : List UInt8)).2.1) ([32] : List UInt8)).2.1) ([32] : List UInt8)).2.1)), .slice none (0) (0)] 30 :: L) _ at M
     refine rl_nil <| ⟨Keep G [.blk b1 [.int .u64 (((u6 : Nat) : Int)), .int .u8 (((u7 : Nat) : Int)), .string (str ((Lib.cut ((Lib.cut ((Lib.cut s ([32] : List UInt8)).2.1) ([32] : List UInt8)).2.1) ([32] : List UInt8)).2.1)), .slice none (0) (0)] 30], M.keep (Gle.refl _) (by simp), ?_⟩
     refine pk_free F (fun w _ => run_assign (F.ev rfl)) rfl ?_; clear F a; intro a F
     refine pk_nil <| q_tn <| wp_ret <| fin_ct F M (k := 0) rfl rfl tok30 rfl rfl rfl rfl ?_
     refine ⟨_, (Gle.refl _), M.weaken (.cons _ (List.Sublist.refl _)), (⟨u6, u7, (Lib.cut ((Lib.cut ((Lib.cut s ([32] : List UInt8)).2.1) ([32] : List UInt8)).2.1) ([32] : List UInt8)).2.1, ([] : List (List UInt8))⟩ : ItemD), none, 0, (decide ((lineF ((⟨u6, u7, (Lib.cut ((Lib.cut ((Lib.cut s ([32] : List UInt8)).2.1) ([32] : List UInt8)).2.1) ([32] : List UInt8)).2.1, ([] : List (List UInt8))⟩ : ItemD))) = s)), rfl, hII19, RdSl.nil, ?_, ?_⟩
     ·intro hb_; first | (cases hb_; done) | exact ⟨itmF_zero.1 (by assumption), hII19.1, of_decide_eq_true hb_⟩
     ·intro hb_ y hy; obtain ⟨q1, q2, q3⟩ := item_back hy hpuu6 (by omega) hpuu7; unfold marksG at q3; first | rw [if_neg (by assumption)] at q3 | rw [if_pos (by assumption)] at q3
      first | exact absurd (show true = false from q1.symm.trans (by assumption)) (by decide) | exact absurd (show true = false from q2.symm.trans (by assumption)) (by decide) | exact absurd (show itmF 8 (⟨u6, u7, (Lib.cut ((Lib.cut ((Lib.cut s ([32] : List UInt8)).2.1) ([32] : List UInt8)).2.1) ([32] : List UInt8)).2.1, ([] : List (List UInt8))⟩ : ItemD) = 0 by rw [q3]; exact itmF_yes hy.1) (by assumption) | exact absurd (show lineF (⟨u6, u7, (Lib.cut ((Lib.cut ((Lib.cut s ([32] : List UInt8)).2.1) ([32] : List UInt8)).2.1) ([32] : List UInt8)).2.1, ([] : List (List UInt8))⟩ : ItemD) = s by rw [q3]; exact hy.2.2) (of_decide_eq_false hb_)
    ·skip
     have h24b := hc; clear hc
     have h24 : ¬ (itmF 8 ((⟨u6, u7, (Lib.cut ((Lib.cut ((Lib.cut s ([32] : List UInt8)).2.1) ([32] : List UInt8)).2.1) ([32] : List UInt8)).2.1, ([] : List (List UInt8))⟩ : ItemD)) = 0) := of_decide_eq_false h24b
     iterate 4 (refine pk_skip F rfl rfl h24b rfl ?_; clear F a; intro a F)
     refine pk_free F (fun w _ => run_pick_f (F.ev rfl) h24b (F.ev rfl)) rfl ?_; clear F a; intro a F
     refine pk_chg ?_ rfl
     refine rl_storeA F M tok30 (k := 0) rfl rfl rfl (us := [.int .u64 (((u6 : Nat) : Int)), .int .u8 (((u7 : Nat) : Int)), .string (str ((Lib.cut ((Lib.cut ((Lib.cut s ([32] : List UInt8)).2.1) ([32] : List UInt8)).2.1) ([32] : List UInt8)).2.1)), .slice none (0) (0)]) rfl rfl (by simp [Value.oneCell']) (by simp) ?_; clear F M a; intro w a M F
     change Mem w0 G (.blk b1 [.int .u64 (((u6 : Nat) : Int)), .int .u8 (((u7 : Nat) : Int)), .string (str ((Lib.cut ((Lib.cut ((Lib.cut s ([32] : List UInt8)).2.1) ([32] : List UInt8)).2.1) ([32] : List UInt8)).2.1)), .slice none (0) (0)] 30 :: L) _ at M
     refine rl_nil <| ⟨Keep G [.blk b1 [.int .u64 (((u6 : Nat) : Int)), .int .u8 (((u7 : Nat) : Int)), .string (str ((Lib.cut ((Lib.cut ((Lib.cut s ([32] : List UInt8)).2.1) ([32] : List UInt8)).2.1) ([32] : List UInt8)).2.1)), .slice none (0) (0)] 30], M.keep (Gle.refl _) (by simp), ?_⟩
     refine pk_free F (fun w _ => run_assign (F.ev rfl)) rfl ?_; clear F a; intro a F
     refine pk_nil <| q_tn <| wp_ret <| fin_ct F M (k := 0) rfl rfl tok30 rfl rfl rfl rfl ?_
     refine ⟨_, (Gle.refl _), M.weaken (.cons _ (List.Sublist.refl _)), (⟨u6, u7, (Lib.cut ((Lib.cut ((Lib.cut s ([32] : List UInt8)).2.1) ([32] : List UInt8)).2.1) ([32] : List UInt8)).2.1, ([] : List (List UInt8))⟩ : ItemD), none, 0, false, rfl, hII19, RdSl.nil, ?_, ?_⟩
     ·intro hb_; first | (cases hb_; done) | exact ⟨itmF_zero.1 (by assumption), hII19.1, of_decide_eq_true hb_⟩
     ·intro hb_ y hy; obtain ⟨q1, q2, q3⟩ := item_back hy hpuu6 (by omega) hpuu7; unfold marksG at q3; first | rw [if_neg (by assumption)] at q3 | rw [if_pos (by assumption)] at q3
      first | exact absurd (show true = false from q1.symm.trans (by assumption)) (by decide) | exact absurd (show true = false from q2.symm.trans (by assumption)) (by decide) | exact absurd (show itmF 8 (⟨u6, u7, (Lib.cut ((Lib.cut ((Lib.cut s ([32] : List UInt8)).2.1) ([32] : List UInt8)).2.1) ([32] : List UInt8)).2.1, ([] : List (List UInt8))⟩ : ItemD) = 0 by rw [q3]; exact itmF_yes hy.1) (by assumption) | exact absurd (show lineF (⟨u6, u7, (Lib.cut ((Lib.cut ((Lib.cut s ([32] : List UInt8)).2.1) ([32] : List UInt8)).2.1) ([32] : List UInt8)).2.1, ([] : List (List UInt8))⟩ : ItemD) = s by rw [q3]; exact hy.2.2) (of_decide_eq_false hb_)
   ·skip
    have h25b := hc; clear hc
    have h25 : (isNilI eru7) = false := h25b
    iterate 3 (refine pk_skip F rfl rfl h25b rfl ?_; clear F a; intro a F)
    refine pk_free F (fun w _ => run_pick_f (F.ev rfl) h25b (F.ev rfl)) rfl ?_; clear F a; intro a F
    refine pk_free F (fun w _ => run_move (F.ev rfl)) rfl ?_; clear F a; intro a F
    iterate 4 (refine pk_skip F rfl rfl rfl rfl ?_; clear F a; intro a F)
    refine pk_free F (fun w _ => run_pick_f (F.ev rfl) rfl (F.ev rfl)) rfl ?_; clear F a; intro a F
    refine pk_chg ?_ rfl
    refine rl_storeA F M tok30 (k := 0) rfl rfl rfl (us := [.int .u64 (((u6 : Nat) : Int)), .int .u8 (((u7 : Nat) : Int)), .string (str ((Lib.cut ((Lib.cut ((Lib.cut s ([32] : List UInt8)).2.1) ([32] : List UInt8)).2.1) ([32] : List UInt8)).2.1)), .slice none (0) (0)]) rfl rfl (by simp [Value.oneCell']) (by simp) ?_; clear F M a; intro w a M F
    change Mem w0 G (.blk b1 [.int .u64 (((u6 : Nat) : Int)), .int .u8 (((u7 : Nat) : Int)), .string (str ((Lib.cut ((Lib.cut ((Lib.cut s ([32] : List UInt8)).2.1) ([32] : List UInt8)).2.1) ([32] : List UInt8)).2.1)), .slice none (0) (0)] 30 :: L) _ at M
    refine rl_nil <| ⟨Keep G [.blk b1 [.int .u64 (((u6 : Nat) : Int)), .int .u8 (((u7 : Nat) : Int)), .string (str ((Lib.cut ((Lib.cut ((Lib.cut s ([32] : List UInt8)).2.1) ([32] : List UInt8)).2.1) ([32] : List UInt8)).2.1)), .slice none (0) (0)] 30], M.keep (Gle.refl _) (by simp), ?_⟩
    refine pk_free F (fun w _ => run_assign (F.ev rfl)) rfl ?_; clear F a; intro a F
    refine pk_nil <| q_tn <| wp_ret <| fin_ct F M (k := 0) rfl rfl tok30 rfl rfl rfl rfl ?_
    refine ⟨_, (Gle.refl _), M.weaken (.cons _ (List.Sublist.refl _)), (⟨u6, u7, (Lib.cut ((Lib.cut ((Lib.cut s ([32] : List UInt8)).2.1) ([32] : List UInt8)).2.1) ([32] : List UInt8)).2.1, ([] : List (List UInt8))⟩ : ItemD), none, 0, false, rfl, hII19, RdSl.nil, ?_, ?_⟩
    ·intro hb_; first | (cases hb_; done) | exact ⟨itmF_zero.1 (by assumption), hII19.1, of_decide_eq_true hb_⟩
    ·intro hb_ y hy; obtain ⟨q1, q2, q3⟩ := item_back hy hpuu6 (by omega) hpuu7; unfold marksG at q3; first | rw [if_neg (by assumption)] at q3 | rw [if_pos (by assumption)] at q3
     first | exact absurd (show true = false from q1.symm.trans (by assumption)) (by decide) | exact absurd (show true = false from q2.symm.trans (by assumption)) (by decide) | exact absurd (show itmF 8 (⟨u6, u7, (Lib.cut ((Lib.cut ((Lib.cut s ([32] : List UInt8)).2.1) ([32] : List UInt8)).2.1) ([32] : List UInt8)).2.1, ([] : List (List UInt8))⟩ : ItemD) = 0 by rw [q3]; exact itmF_yes hy.1) (by assumption) | exact absurd (show lineF (⟨u6, u7, (Lib.cut ((Lib.cut ((Lib.cut s ([32] : List UInt8)).2.1) ([32] : List UInt8)).2.1) ([32] : List UInt8)).2.1, ([] : List (List UInt8))⟩ : ItemD) = s by rw [q3]; exact hy.2.2) (of_decide_eq_false hb_)
  ·skip
   have h26b := hc; clear hc
   have h26 : (isNilI eru6) = false := h26b
   iterate 2 (refine pk_skip F rfl rfl h26b rfl ?_; clear F a; intro a F)
   refine pk_free F (fun w _ => run_pick_f (F.ev rfl) h26b (F.ev rfl)) rfl ?_; clear F a; intro a F
   refine pk_free F (fun w _ => run_move (F.ev rfl)) rfl ?_; clear F a; intro a F
   iterate 3 (refine pk_skip F rfl rfl rfl rfl ?_; clear F a; intro a F)
   refine pk_free F (fun w _ => run_pick_f (F.ev rfl) rfl (F.ev rfl)) rfl ?_; clear F a; intro a F
   refine pk_free F (fun w _ => run_move (F.ev rfl)) rfl ?_; clear F a; intro a F
   iterate 4 (refine pk_skip F rfl rfl rfl rfl ?_; clear F a; intro a F)
   refine pk_free F (fun w _ => run_pick_f (F.ev rfl) rfl (F.ev rfl)) rfl ?_; clear F a; intro a F
   refine pk_chg ?_ rfl
   refine rl_storeA F M tok30 (k := 0) rfl rfl rfl (us := [.int .u64 (((u6 : Nat) : Int)), .int .u8 (((u7 : Nat) : Int)), .string (str ((Lib.cut ((Lib.cut ((Lib.cut s ([32] : List UInt8)).2.1) ([32] : List UInt8)).2.1) ([32] : List UInt8)).2.1)), .slice none (0) (0)]) rfl rfl (by simp [Value.oneCell']) (by simp) ?_; clear F M a; intro w a M F
   change Mem w0 G (.blk b1 [.int .u64 (((u6 : Nat) : Int)), .int .u8 (((u7 : Nat) : Int)), .string (str ((Lib.cut ((Lib.cut ((Lib.cut s ([32] : List UInt8)).2.1) ([32] : List UInt8)).2.1) ([32] : List UInt8)).2.1)), .slice none (0) (0)] 30 :: L) _ at M
   refine rl_nil <| ⟨Keep G [.blk b1 [.int .u64 (((u6 : Nat) : Int)), .int .u8 (((u7 : Nat) : Int)), .string (str ((Lib.cut ((Lib.cut ((Lib.cut s ([32] : List UInt8)).2.1) ([32] : List UInt8)).2.1) ([32] : List UInt8)).2.1)), .slice none (0) (0)] 30], M.keep (Gle.refl _) (by simp), ?_⟩
   refine pk_free F (fun w _ => run_assign (F.ev rfl)) rfl ?_; clear F a; intro a F
   refine pk_nil <| q_tn <| wp_ret <| fin_ct F M (k := 0) rfl rfl tok30 rfl rfl rfl rfl ?_
   refine ⟨_, (Gle.refl _), M.weaken (.cons _ (List.Sublist.refl _)), (⟨u6, u7, (Lib.cut ((Lib.cut ((Lib.cut s ([32] : List UInt8)).2.1) ([32] : List UInt8)).2.1) ([32] : List UInt8)).2.1, ([] : List (List UInt8))⟩ : ItemD), none, 0, false, rfl, hII19, RdSl.nil, ?_, ?_⟩
   ·intro hb_; first | (cases hb_; done) | exact ⟨itmF_zero.1 (by assumption), hII19.1, of_decide_eq_true hb_⟩
   ·intro hb_ y hy; obtain ⟨q1, q2, q3⟩ := item_back hy hpuu6 (by omega) hpuu7; unfold marksG at q3; first | rw [if_neg (by assumption)] at q3 | rw [if_pos (by assumption)] at q3
    first | exact absurd (show true = false from q1.symm.trans (by assumption)) (by decide) | exact absurd (show true = false from q2.symm.trans (by assumption)) (by decide) | exact absurd (show itmF 8 (⟨u6, u7, (Lib.cut ((Lib.cut ((Lib.cut s ([32] : List UInt8)).2.1) ([32] : List UInt8)).2.1) ([32] : List UInt8)).2.1, ([] : List (List UInt8))⟩ : ItemD) = 0 by rw [q3]; exact itmF_yes hy.1) (by assumption) | exact absurd (show lineF (⟨u6, u7, (Lib.cut ((Lib.cut ((Lib.cut s ([32] : List UInt8)).2.1) ([32] : List UInt8)).2.1) ([32] : List UInt8)).2.1, ([] : List (List UInt8))⟩ : ItemD) = s by rw [q3]; exact hy.2.2) (of_decide_eq_false hb_)
end Go.Proofs.YtmmhmcplegpenaaDoor
