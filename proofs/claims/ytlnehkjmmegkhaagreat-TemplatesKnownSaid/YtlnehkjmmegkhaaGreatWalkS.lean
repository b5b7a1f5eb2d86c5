/- The walks, part S. -/
import Derived.Test.YtlnehkjmmegkhaaGreatWalkR
namespace Go.Proofs.YtlnehkjmmegkhaaGreat
open Go Go.Y Go.Proofs
set_option linter.unusedSimpArgs false
set_option linter.unusedVariables false
theorem exNodes1 : (nodesF exT 2).1 = 6 := by rw [exNodes]
theorem exNodes2 : (nodesF exT 2).2 = 0 := by rw [exNodes]
theorem exU1 : (usesF exT).1 = true := by rw [exUses]
theorem exU2 : (usesF exT).2.1 = true := by rw [exUses]
theorem exU3 : (usesF exT).2.2 = true := by rw [exUses]
theorem exR5N : rendN exT (exI [[117], [118]]) 5 = zeroN := rendN_no (by rw [exR5]; decide)
theorem exR0N : rendN exT (exI [[117], [118]]) 0 = zeroN := rendN_no (by rw [exR0]; decide)
theorem exRIN : rendN exT ⟨0, 0, [], []⟩ 64 = zeroN := rendN_no (by rw [exRI]; decide)
theorem exRUN : rendN exT (exI [[117], [117]]) 64 = zeroN := rendN_no (by rw [exRU]; decide)
set_option maxRecDepth 4000 in
theorem lives_ret {w0 w : World} {G : Ghost} {L : List Res} (M : Mem w0 G L w) : Calls Tryz.prog 28 #[] w (Ret w0 G L fun _ v => v = .bool true) := by
  refine calls_start (vs := []) Tryz.func28 rfl (n := 114) rfl rfl ?_
  intro a F
  refine wp_seq <| w_reg <| rl_run F (run_assign (F.ev rfl)) rfl ?_; clear F a; intro a F
  refine rl_nil <| q_tn <| wp_seq <| w_reg <| rl_call F ent70 rfl rfl (ex_spec M) ?_; clear F M a; rintro _ Gk1 w a hGk1 M ⟨tak1, kak1, tck1, kck1, rfl, SAk1, SKk1⟩ F
  refine rl_alloc F M tok46 rfl rfl ?_; clear F M a; intro b2 w a M F
  refine rl_storeA F M tok46 (k := 0) rfl rfl rfl (us := [.int .u8 (exT.kind), .string (str (exT.tag)), .string (str (exT.key)), .slice (tak1) (exT.as.length) (tck1), .string (str (exT.text)), .slice (kak1) (exT.kids.length) (kck1)]) rfl rfl (by simp [Value.oneCell']) (by simp) ?_; clear F M a; intro w a M F
  change Mem w0 Gk1 (.blk b2 [.int .u8 (exT.kind), .string (str (exT.tag)), .string (str (exT.key)), .slice (tak1) (exT.as.length) (tck1), .string (str (exT.text)), .slice (kak1) (exT.kids.length) (kck1)] 46 :: L) _ at M
  refine rl_nil <| q_tn <| wp_seq <| w_reg <| rl_buildSliceN F M tok49.k tok9 (ps := [(0, .string (str ([117] : List UInt8))), (1, .string (str ([118] : List UInt8)))]) (cs := [[.string (str ([117] : List UInt8))], [.string (str ([118] : List UInt8))]]) (fl := [.string (str ([117] : List UInt8)), .string (str ([118] : List UInt8))]) rfl rfl (by simp [Parts, Value.cells]) (by simp [ti9]) rfl (by simp [Value.oneCell']) (by decide) (by decide) rfl ?_; clear F M a; intro v4 w a M F
  obtain ⟨av4, cv4, rfl, hlev4, hcmv4, hlv4⟩ := M.row_shape (k := 0) rfl
  have E5 : Els rdStr 1 Gk1 [.string (str ([117] : List UInt8)), .string (str ([118] : List UInt8))] [[117], [118]] := Els.cons (c := [_]) ⟨rfl, by decide⟩ rfl (Els.one ⟨rfl, by decide⟩ rfl)
  obtain ⟨hnz6, Gz6, az6, cz6, hGz6, hez6, Sz6, M⟩ := M.freeze_row mono_rdStr (k := 0) rfl E5 (by decide)
  clear hez6 az6 cz6
  replace SAk1 := SAk1.mono mono_rdSlot hGz6
  replace SKk1 := SKk1.mono mono_rdP hGz6
  clear hnz6
  refine rl_run F (run_buildS (cs := [.int .u64 (12), .int .u8 (0), .string (str ([104, 105] : List UInt8)), .slice (av4) (2) (cv4)]) (ps := [(0, .int .u64 (12)), (2, .string (str ([104, 105] : List UInt8))), (3, .slice (av4) (2) (cv4))]) tok51.k rfl tok51 (F.evp rfl) rfl) rfl ?_; clear F a; intro a F
  refine rl_alloc F M tok51 rfl rfl ?_; clear F M a; intro b7 w a M F
  refine rl_storeA F M tok51 (k := 0) rfl rfl rfl (us := [.int .u64 (12), .int .u8 (0), .string (str ([104, 105] : List UInt8)), .slice (av4) (2) (cv4)]) rfl rfl (by simp [Value.oneCell']) (by simp) ?_; clear F M a; intro w a M F
  change Mem w0 Gz6 (.blk b7 [.int .u64 (12), .int .u8 (0), .string (str ([104, 105] : List UInt8)), .slice (av4) (2) (cv4)] 51 :: .blk b2 [.int .u8 (exT.kind), .string (str (exT.tag)), .string (str (exT.key)), .slice (tak1) (exT.as.length) (tck1), .string (str (exT.text)), .slice (kak1) (exT.kids.length) (kck1)] 46 :: L) _ at M
  refine rl_nil <| q_tn <| wp_seq <| w_reg <| rl_run F (run_loadA tok46 rfl (F.ev rfl) (cs := [.int .u8 (exT.kind), .string (str (exT.tag)), .string (str (exT.key)), .slice (tak1) (exT.as.length) (tck1), .string (str (exT.text)), .slice (kak1) (exT.kids.length) (kck1)]) rfl (M.cellsL (k := 1) rfl rfl)) rfl ?_; clear F a; intro a F
  refine rl_run F (run_loadA tok51 rfl (F.ev rfl) (cs := [.int .u64 (12), .int .u8 (0), .string (str ([104, 105] : List UInt8)), .slice (av4) (2) (cv4)]) rfl (M.cellsL (k := 0) rfl rfl)) rfl ?_; clear F a; intro a F
  refine rl_call F ent22 rfl rfl (trender_at (p := exT) (x := (exI [[117], [118]])) (most := 64) (e := 0) (nn := (exN [117] [118])) M exT_k exT_l SAk1 SKk1 (by decide) Sz6 ⟨by decide, by decide⟩ exR exRN) ?_; clear F M a; rintro _ Gk9 w a hGk9 M ⟨tak9, tck9, kak9, kck9, rfl, hkk9, hlk9, SAk9, SKk9⟩ F
  replace SAk1 := SAk1.mono mono_rdSlot hGk9
  replace SKk1 := SKk1.mono mono_rdP hGk9
  replace Sz6 := Sz6.mono mono_rdStr hGk9
  refine rl_run F (run_move (F.ev rfl)) rfl ?_; clear F a; intro a F
  refine rl_run F (run_extract (v := .agg #[.int .u8 ((exN [117] [118]).kind), .string (str ((exN [117] [118]).tag)), .string (str ((exN [117] [118]).key)), .slice (tak9) ((exN [117] [118]).as.length) (tck9), .string (str ((exN [117] [118]).text)), .slice (kak9) ((exN [117] [118]).kids.length) (kck9)]) (F.ev rfl) rfl) rfl ?_; clear F a; intro a F
  refine rl_run F (run_extract (v := .int .i64 (0)) (F.ev rfl) rfl) rfl ?_; clear F a; intro a F
  refine rl_alloc F M tok30 rfl rfl ?_; clear F M a; intro b10 w a M F
  refine rl_storeA F M tok30 (k := 0) rfl rfl rfl (us := [.int .u8 ((exN [117] [118]).kind), .string (str ((exN [117] [118]).tag)), .string (str ((exN [117] [118]).key)), .slice (tak9) ((exN [117] [118]).as.length) (tck9), .string (str ((exN [117] [118]).text)), .slice (kak9) ((exN [117] [118]).kids.length) (kck9)]) rfl rfl (by simp [Value.oneCell']) (by simp) ?_; clear F M a; intro w a M F
  change Mem w0 Gk9 (.blk b10 [.int .u8 ((exN [117] [118]).kind), .string (str ((exN [117] [118]).tag)), .string (str ((exN [117] [118]).key)), .slice (tak9) ((exN [117] [118]).as.length) (tck9), .string (str ((exN [117] [118]).text)), .slice (kak9) ((exN [117] [118]).kids.length) (kck9)] 30 :: .blk b7 [.int .u64 (12), .int .u8 (0), .string (str ([104, 105] : List UInt8)), .slice (av4) (2) (cv4)] 51 :: .blk b2 [.int .u8 (exT.kind), .string (str (exT.tag)), .string (str (exT.key)), .slice (tak1) (exT.as.length) (tck1), .string (str (exT.text)), .slice (kak1) (exT.kids.length) (kck1)] 46 :: L) _ at M
  refine rl_run F (run_assign (F.ev rfl)) rfl ?_; clear F a; intro a F
  refine rl_nil <| q_tn <| wp_seq <| w_reg <| rl_run F (run_loadA tok30 rfl (F.ev rfl) (cs := [.int .u8 ((exN [117] [118]).kind), .string (str ((exN [117] [118]).tag)), .string (str ((exN [117] [118]).key)), .slice (tak9) ((exN [117] [118]).as.length) (tck9), .string (str ((exN [117] [118]).text)), .slice (kak9) ((exN [117] [118]).kids.length) (kck9)]) rfl (M.cellsL (k := 0) rfl rfl)) rfl ?_; clear F a; intro a F
  refine rl_callS F ent38 rfl rfl (ntextf_spec (x := (exN [117] [118])) M hkk9 hlk9 SAk9 SKk9 exPlain (by rw [exText]; decide)) ?_; clear F M a; rintro _ w a M rfl F
  rw [chkF_yes exN_ok, if_pos rfl, exText] at F
  refine rl_run F (run_move (F.ev rfl)) rfl ?_; clear F a; intro a F
  refine rl_run F (run_extract (v := .string (str ([60, 108, 105, 32, 105, 100, 61, 34, 49, 50, 34, 62, 34, 104, 105, 34, 60, 98, 58, 117, 32, 110, 61, 34, 50, 34, 62, 34, 117, 34, 60, 47, 98, 62, 60, 98, 58, 118, 32, 110, 61, 34, 50, 34, 62, 34, 118, 34, 60, 47, 98, 62, 60, 47, 108, 105, 62] : List UInt8))) (F.ev rfl) rfl) rfl ?_; clear F a; intro a F
  refine rl_run F (run_extract (v := .int .i64 (0)) (F.ev rfl) rfl) rfl ?_; clear F a; intro a F
  iterate 2 (refine rl_run F (run_assign (F.ev rfl)) rfl ?_; clear F a; intro a F)
  refine rl_nil <| q_tn <| wp_seq <| w_reg <| rl_run F (run_loadA tok46 rfl (F.ev rfl) (cs := [.int .u8 (exT.kind), .string (str (exT.tag)), .string (str (exT.key)), .slice (tak1) (exT.as.length) (tck1), .string (str (exT.text)), .slice (kak1) (exT.kids.length) (kck1)]) rfl (M.cellsL (k := 2) rfl rfl)) rfl ?_; clear F a; intro a F
  refine rl_callS F ent24 rfl rfl (tnodes_spec (x := exT) (m := 2) M exT_k exT_l SAk1 SKk1) ?_; clear F M a; rintro _ w a M rfl F
  rw [exNodes1, exNodes2] at F
  refine rl_run F (run_move (F.ev rfl)) rfl ?_; clear F a; intro a F
  refine rl_run F (run_extract (v := .int .i64 (6)) (F.ev rfl) rfl) rfl ?_; clear F a; intro a F
  refine rl_run F (run_extract (v := .int .i64 (0)) (F.ev rfl) rfl) rfl ?_; clear F a; intro a F
  iterate 2 (refine rl_run F (run_assign (F.ev rfl)) rfl ?_; clear F a; intro a F)
  refine rl_nil <| q_tn <| wp_seq <| w_reg <| rl_run F (run_loadA tok46 rfl (F.ev rfl) (cs := [.int .u8 (exT.kind), .string (str (exT.tag)), .string (str (exT.key)), .slice (tak1) (exT.as.length) (tck1), .string (str (exT.text)), .slice (kak1) (exT.kids.length) (kck1)]) rfl (M.cellsL (k := 2) rfl rfl)) rfl ?_; clear F a; intro a F
  refine rl_callS F ent31 rfl rfl (tuses_spec (x := exT) M exT_k exT_l SAk1 SKk1) ?_; clear F M a; rintro _ w a M rfl F
  rw [exU1, exU2, exU3, chkP_yes exT_ok] at F
  refine rl_run F (run_move (F.ev rfl)) rfl ?_; clear F a; intro a F
  refine rl_run F (run_extract (v := .agg #[.bool true, .bool true, .bool true]) (F.ev rfl) rfl) rfl ?_; clear F a; intro a F
  refine rl_run F (run_extract (v := .int .i64 (0)) (F.ev rfl) rfl) rfl ?_; clear F a; intro a F
  refine rl_alloc F M tok64 rfl rfl ?_; clear F M a; intro b12 w a M F
  refine rl_storeA F M tok64 (k := 0) rfl rfl rfl (us := [.bool true, .bool true, .bool true]) rfl rfl (by simp [Value.oneCell']) (by simp) ?_; clear F M a; intro w a M F
  change Mem w0 Gk9 (.blk b12 [.bool true, .bool true, .bool true] 64 :: .blk b10 [.int .u8 ((exN [117] [118]).kind), .string (str ((exN [117] [118]).tag)), .string (str ((exN [117] [118]).key)), .slice (tak9) ((exN [117] [118]).as.length) (tck9), .string (str ((exN [117] [118]).text)), .slice (kak9) ((exN [117] [118]).kids.length) (kck9)] 30 :: .blk b7 [.int .u64 (12), .int .u8 (0), .string (str ([104, 105] : List UInt8)), .slice (av4) (2) (cv4)] 51 :: .blk b2 [.int .u8 (exT.kind), .string (str (exT.tag)), .string (str (exT.key)), .slice (tak1) (exT.as.length) (tck1), .string (str (exT.text)), .slice (kak1) (exT.kids.length) (kck1)] 46 :: L) _ at M
  refine rl_run F (run_assign (F.ev rfl)) rfl ?_; clear F a; intro a F
  refine rl_nil <| q_tn <| wp_seq <| w_reg <| rl_run F (run_loadA tok46 rfl (F.ev rfl) (cs := [.int .u8 (exT.kind), .string (str (exT.tag)), .string (str (exT.key)), .slice (tak1) (exT.as.length) (tck1), .string (str (exT.text)), .slice (kak1) (exT.kids.length) (kck1)]) rfl (M.cellsL (k := 3) rfl rfl)) rfl ?_; clear F a; intro a F
  refine rl_run F (run_loadA tok51 rfl (F.ev rfl) (cs := [.int .u64 (12), .int .u8 (0), .string (str ([104, 105] : List UInt8)), .slice (av4) (2) (cv4)]) rfl (M.cellsL (k := 2) rfl rfl)) rfl ?_; clear F a; intro a F
  refine rl_call F ent22 rfl rfl (trender_at (p := exT) (x := (exI [[117], [118]])) (most := 5) (e := 14) (nn := zeroN) M exT_k exT_l SAk1 SKk1 (by decide) Sz6 ⟨by decide, by decide⟩ exR5 exR5N) ?_; clear F M a; rintro _ Gk14 w a hGk14 M ⟨tak14, tck14, kak14, kck14, rfl, hkk14, hlk14, SAk14, SKk14⟩ F
  replace SAk1 := SAk1.mono mono_rdSlot hGk14
  replace SKk1 := SKk1.mono mono_rdP hGk14
  replace Sz6 := Sz6.mono mono_rdStr hGk14
  replace SAk9 := SAk9.mono mono_rdAttr hGk14
  replace SKk9 := SKk9.mono mono_rdN hGk14
  refine rl_run F (run_move (F.ev rfl)) rfl ?_; clear F a; intro a F
  refine rl_run F (run_extract (v := .agg #[.int .u8 (zeroN.kind), .string (str (zeroN.tag)), .string (str (zeroN.key)), .slice (tak14) (zeroN.as.length) (tck14), .string (str (zeroN.text)), .slice (kak14) (zeroN.kids.length) (kck14)]) (F.ev rfl) rfl) rfl ?_; clear F a; intro a F
  refine rl_run F (run_extract (v := .int .i64 (14)) (F.ev rfl) rfl) rfl ?_; clear F a; intro a F
  refine rl_alloc F M tok30 rfl rfl ?_; clear F M a; intro b15 w a M F
  refine rl_storeA F M tok30 (k := 0) rfl rfl rfl (us := [.int .u8 (zeroN.kind), .string (str (zeroN.tag)), .string (str (zeroN.key)), .slice (tak14) (zeroN.as.length) (tck14), .string (str (zeroN.text)), .slice (kak14) (zeroN.kids.length) (kck14)]) rfl rfl (by simp [Value.oneCell']) (by simp) ?_; clear F M a; intro w a M F
  change Mem w0 Gk14 (.blk b15 [.int .u8 (zeroN.kind), .string (str (zeroN.tag)), .string (str (zeroN.key)), .slice (tak14) (zeroN.as.length) (tck14), .string (str (zeroN.text)), .slice (kak14) (zeroN.kids.length) (kck14)] 30 :: .blk b12 [.bool true, .bool true, .bool true] 64 :: .blk b10 [.int .u8 ((exN [117] [118]).kind), .string (str ((exN [117] [118]).tag)), .string (str ((exN [117] [118]).key)), .slice (tak9) ((exN [117] [118]).as.length) (tck9), .string (str ((exN [117] [118]).text)), .slice (kak9) ((exN [117] [118]).kids.length) (kck9)] 30 :: .blk b7 [.int .u64 (12), .int .u8 (0), .string (str ([104, 105] : List UInt8)), .slice (av4) (2) (cv4)] 51 :: .blk b2 [.int .u8 (exT.kind), .string (str (exT.tag)), .string (str (exT.key)), .slice (tak1) (exT.as.length) (tck1), .string (str (exT.text)), .slice (kak1) (exT.kids.length) (kck1)] 46 :: L) _ at M
  refine rl_run F (run_assign (F.ev rfl)) rfl ?_; clear F a; intro a F
  refine rl_nil <| q_tn <| wp_seq <| w_reg <| rl_run F (run_loadA tok46 rfl (F.ev rfl) (cs := [.int .u8 (exT.kind), .string (str (exT.tag)), .string (str (exT.key)), .slice (tak1) (exT.as.length) (tck1), .string (str (exT.text)), .slice (kak1) (exT.kids.length) (kck1)]) rfl (M.cellsL (k := 4) rfl rfl)) rfl ?_; clear F a; intro a F
  refine rl_run F (run_loadA tok51 rfl (F.ev rfl) (cs := [.int .u64 (12), .int .u8 (0), .string (str ([104, 105] : List UInt8)), .slice (av4) (2) (cv4)]) rfl (M.cellsL (k := 3) rfl rfl)) rfl ?_; clear F a; intro a F
  refine rl_call F ent22 rfl rfl (trender_at (p := exT) (x := (exI [[117], [118]])) (most := 0) (e := 1) (nn := zeroN) M exT_k exT_l SAk1 SKk1 (by decide) Sz6 ⟨by decide, by decide⟩ exR0 exR0N) ?_; clear F M a; rintro _ Gk17 w a hGk17 M ⟨tak17, tck17, kak17, kck17, rfl, hkk17, hlk17, SAk17, SKk17⟩ F
  replace SAk1 := SAk1.mono mono_rdSlot hGk17
  replace SKk1 := SKk1.mono mono_rdP hGk17
  replace Sz6 := Sz6.mono mono_rdStr hGk17
  replace SAk9 := SAk9.mono mono_rdAttr hGk17
  replace SKk9 := SKk9.mono mono_rdN hGk17
  replace SAk14 := SAk14.mono mono_rdAttr hGk17
  replace SKk14 := SKk14.mono mono_rdN hGk17
  refine rl_run F (run_move (F.ev rfl)) rfl ?_; clear F a; intro a F
  refine rl_run F (run_extract (v := .agg #[.int .u8 (zeroN.kind), .string (str (zeroN.tag)), .string (str (zeroN.key)), .slice (tak17) (zeroN.as.length) (tck17), .string (str (zeroN.text)), .slice (kak17) (zeroN.kids.length) (kck17)]) (F.ev rfl) rfl) rfl ?_; clear F a; intro a F
  refine rl_run F (run_extract (v := .int .i64 (1)) (F.ev rfl) rfl) rfl ?_; clear F a; intro a F
  refine rl_alloc F M tok30 rfl rfl ?_; clear F M a; intro b18 w a M F
  refine rl_storeA F M tok30 (k := 0) rfl rfl rfl (us := [.int .u8 (zeroN.kind), .string (str (zeroN.tag)), .string (str (zeroN.key)), .slice (tak17) (zeroN.as.length) (tck17), .string (str (zeroN.text)), .slice (kak17) (zeroN.kids.length) (kck17)]) rfl rfl (by simp [Value.oneCell']) (by simp) ?_; clear F M a; intro w a M F
  change Mem w0 Gk17 (.blk b18 [.int .u8 (zeroN.kind), .string (str (zeroN.tag)), .string (str (zeroN.key)), .slice (tak17) (zeroN.as.length) (tck17), .string (str (zeroN.text)), .slice (kak17) (zeroN.kids.length) (kck17)] 30 :: .blk b15 [.int .u8 (zeroN.kind), .string (str (zeroN.tag)), .string (str (zeroN.key)), .slice (tak14) (zeroN.as.length) (tck14), .string (str (zeroN.text)), .slice (kak14) (zeroN.kids.length) (kck14)] 30 :: .blk b12 [.bool true, .bool true, .bool true] 64 :: .blk b10 [.int .u8 ((exN [117] [118]).kind), .string (str ((exN [117] [118]).tag)), .string (str ((exN [117] [118]).key)), .slice (tak9) ((exN [117] [118]).as.length) (tck9), .string (str ((exN [117] [118]).text)), .slice (kak9) ((exN [117] [118]).kids.length) (kck9)] 30 :: .blk b7 [.int .u64 (12), .int .u8 (0), .string (str ([104, 105] : List UInt8)), .slice (av4) (2) (cv4)] 51 :: .blk b2 [.int .u8 (exT.kind), .string (str (exT.tag)), .string (str (exT.key)), .slice (tak1) (exT.as.length) (tck1), .string (str (exT.text)), .slice (kak1) (exT.kids.length) (kck1)] 46 :: L) _ at M
  refine rl_run F (run_assign (F.ev rfl)) rfl ?_; clear F a; intro a F
  refine rl_nil <| q_tn <| wp_seq <| w_reg <| rl_run F (run_loadA tok46 rfl (F.ev rfl) (cs := [.int .u8 (exT.kind), .string (str (exT.tag)), .string (str (exT.key)), .slice (tak1) (exT.as.length) (tck1), .string (str (exT.text)), .slice (kak1) (exT.kids.length) (kck1)]) rfl (M.cellsL (k := 5) rfl rfl)) rfl ?_; clear F a; intro a F
  refine rl_run F (run_buildS (cs := [.int .u64 (0), .int .u8 (0), .string (str ([] : List UInt8)), .slice none (0) (0)]) (ps := []) tok51.k rfl tok51 (F.evp rfl) rfl) rfl ?_; clear F a; intro a F
  refine rl_call F ent22 rfl rfl (trender_at (p := exT) (x := (⟨0, 0, [], []⟩ : ItemD)) (most := 64) (e := 6) (nn := zeroN) M exT_k exT_l SAk1 SKk1 (by decide) RdSl.nil ⟨by decide, by decide⟩ exRI exRIN) ?_; clear F M a; rintro _ Gk20 w a hGk20 M ⟨tak20, tck20, kak20, kck20, rfl, hkk20, hlk20, SAk20, SKk20⟩ F
  replace SAk1 := SAk1.mono mono_rdSlot hGk20
  replace SKk1 := SKk1.mono mono_rdP hGk20
  replace Sz6 := Sz6.mono mono_rdStr hGk20
  replace SAk9 := SAk9.mono mono_rdAttr hGk20
  replace SKk9 := SKk9.mono mono_rdN hGk20
  replace SAk14 := SAk14.mono mono_rdAttr hGk20
  replace SKk14 := SKk14.mono mono_rdN hGk20
  replace SAk17 := SAk17.mono mono_rdAttr hGk20
  replace SKk17 := SKk17.mono mono_rdN hGk20
  refine rl_run F (run_move (F.ev rfl)) rfl ?_; clear F a; intro a F
  refine rl_run F (run_extract (v := .agg #[.int .u8 (zeroN.kind), .string (str (zeroN.tag)), .string (str (zeroN.key)), .slice (tak20) (zeroN.as.length) (tck20), .string (str (zeroN.text)), .slice (kak20) (zeroN.kids.length) (kck20)]) (F.ev rfl) rfl) rfl ?_; clear F a; intro a F
  refine rl_run F (run_extract (v := .int .i64 (6)) (F.ev rfl) rfl) rfl ?_; clear F a; intro a F
  refine rl_alloc F M tok30 rfl rfl ?_; clear F M a; intro b21 w a M F
  refine rl_storeA F M tok30 (k := 0) rfl rfl rfl (us := [.int .u8 (zeroN.kind), .string (str (zeroN.tag)), .string (str (zeroN.key)), .slice (tak20) (zeroN.as.length) (tck20), .string (str (zeroN.text)), .slice (kak20) (zeroN.kids.length) (kck20)]) rfl rfl (by simp [Value.oneCell']) (by simp) ?_; clear F M a; intro w a M F
  change Mem w0 Gk20 (.blk b21 [.int .u8 (zeroN.kind), .string (str (zeroN.tag)), .string (str (zeroN.key)), .slice (tak20) (zeroN.as.length) (tck20), .string (str (zeroN.text)), .slice (kak20) (zeroN.kids.length) (kck20)] 30 :: .blk b18 [.int .u8 (zeroN.kind), .string (str (zeroN.tag)), .string (str (zeroN.key)), .slice (tak17) (zeroN.as.length) (tck17), .string (str (zeroN.text)), .slice (kak17) (zeroN.kids.length) (kck17)] 30 :: .blk b15 [.int .u8 (zeroN.kind), .string (str (zeroN.tag)), .string (str (zeroN.key)), .slice (tak14) (zeroN.as.length) (tck14), .string (str (zeroN.text)), .slice (kak14) (zeroN.kids.length) (kck14)] 30 :: .blk b12 [.bool true, .bool true, .bool true] 64 :: .blk b10 [.int .u8 ((exN [117] [118]).kind), .string (str ((exN [117] [118]).tag)), .string (str ((exN [117] [118]).key)), .slice (tak9) ((exN [117] [118]).as.length) (tck9), .string (str ((exN [117] [118]).text)), .slice (kak9) ((exN [117] [118]).kids.length) (kck9)] 30 :: .blk b7 [.int .u64 (12), .int .u8 (0), .string (str ([104, 105] : List UInt8)), .slice (av4) (2) (cv4)] 51 :: .blk b2 [.int .u8 (exT.kind), .string (str (exT.tag)), .string (str (exT.key)), .slice (tak1) (exT.as.length) (tck1), .string (str (exT.text)), .slice (kak1) (exT.kids.length) (kck1)] 46 :: L) _ at M
  refine rl_run F (run_assign (F.ev rfl)) rfl ?_; clear F a; intro a F
  refine rl_nil <| q_tn <| wp_seq <| w_reg <| rl_buildSliceN F M tok49.k tok9 (ps := [(0, .string (str ([117] : List UInt8))), (1, .string (str ([117] : List UInt8)))]) (cs := [[.string (str ([117] : List UInt8))], [.string (str ([117] : List UInt8))]]) (fl := [.string (str ([117] : List UInt8)), .string (str ([117] : List UInt8))]) rfl rfl (by simp [Parts, Value.cells]) (by simp [ti9]) rfl (by simp [Value.oneCell']) (by decide) (by decide) rfl ?_; clear F M a; intro v23 w a M F
  obtain ⟨av23, cv23, rfl, hlev23, hcmv23, hlv23⟩ := M.row_shape (k := 0) rfl
  have E24 : Els rdStr 1 Gk20 [.string (str ([117] : List UInt8)), .string (str ([117] : List UInt8))] [[117], [117]] := Els.cons (c := [_]) ⟨rfl, by decide⟩ rfl (Els.one ⟨rfl, by decide⟩ rfl)
  obtain ⟨hnz25, Gz25, az25, cz25, hGz25, hez25, Sz25, M⟩ := M.freeze_row mono_rdStr (k := 0) rfl E24 (by decide)
  clear hez25 az25 cz25
  replace SAk1 := SAk1.mono mono_rdSlot hGz25
  replace SKk1 := SKk1.mono mono_rdP hGz25
  replace Sz6 := Sz6.mono mono_rdStr hGz25
  replace SAk9 := SAk9.mono mono_rdAttr hGz25
  replace SKk9 := SKk9.mono mono_rdN hGz25
  replace SAk14 := SAk14.mono mono_rdAttr hGz25
  replace SKk14 := SKk14.mono mono_rdN hGz25
  replace SAk17 := SAk17.mono mono_rdAttr hGz25
  replace SKk17 := SKk17.mono mono_rdN hGz25
  replace SAk20 := SAk20.mono mono_rdAttr hGz25
  replace SKk20 := SKk20.mono mono_rdN hGz25
  clear hnz25
  refine rl_run F (run_fieldAddr tok51.k rfl rfl (F.ev rfl)) rfl ?_; clear F a; intro a F
  refine rl_store1 F M tok49 rfl (k := 5) rfl rfl rfl rfl rfl ?_; clear F M a; intro w a M F
  refine rl_nil <| q_tn <| wp_seq <| w_reg <| rl_run F (run_loadA tok46 rfl (F.ev rfl) (cs := [.int .u8 (exT.kind), .string (str (exT.tag)), .string (str (exT.key)), .slice (tak1) (exT.as.length) (tck1), .string (str (exT.text)), .slice (kak1) (exT.kids.length) (kck1)]) rfl (M.cellsL (k := 6) rfl rfl)) rfl ?_; clear F a; intro a F
  refine rl_run F (run_loadA tok51 rfl (F.ev rfl) (cs := [.int .u64 (12), .int .u8 (0), .string (str ([104, 105] : List UInt8)), .slice (av23) (2) (cv23)]) rfl (M.cellsL (k := 5) rfl rfl)) rfl ?_; clear F a; intro a F
  refine rl_call F ent22 rfl rfl (trender_at (p := exT) (x := (exI [[117], [117]])) (most := 64) (e := 14) (nn := zeroN) M exT_k exT_l SAk1 SKk1 (by decide) Sz25 ⟨by decide, by decide⟩ exRU exRUN) ?_; clear F M a; rintro _ Gk26 w a hGk26 M ⟨tak26, tck26, kak26, kck26, rfl, hkk26, hlk26, SAk26, SKk26⟩ F
  replace SAk1 := SAk1.mono mono_rdSlot hGk26
  replace SKk1 := SKk1.mono mono_rdP hGk26
  replace Sz6 := Sz6.mono mono_rdStr hGk26
  replace SAk9 := SAk9.mono mono_rdAttr hGk26
  replace SKk9 := SKk9.mono mono_rdN hGk26
  replace SAk14 := SAk14.mono mono_rdAttr hGk26
  replace SKk14 := SKk14.mono mono_rdN hGk26
  replace SAk17 := SAk17.mono mono_rdAttr hGk26
  replace SKk17 := SKk17.mono mono_rdN hGk26
  replace SAk20 := SAk20.mono mono_rdAttr hGk26
  replace SKk20 := SKk20.mono mono_rdN hGk26
  replace Sz25 := Sz25.mono mono_rdStr hGk26
  refine rl_run F (run_move (F.ev rfl)) rfl ?_; clear F a; intro a F
  refine rl_run F (run_extract (v := .agg #[.int .u8 (zeroN.kind), .string (str (zeroN.tag)), .string (str (zeroN.key)), .slice (tak26) (zeroN.as.length) (tck26), .string (str (zeroN.text)), .slice (kak26) (zeroN.kids.length) (kck26)]) (F.ev rfl) rfl) rfl ?_; clear F a; intro a F
  refine rl_run F (run_extract (v := .int .i64 (14)) (F.ev rfl) rfl) rfl ?_; clear F a; intro a F
  refine rl_alloc F M tok30 rfl rfl ?_; clear F M a; intro b27 w a M F
  refine rl_storeA F M tok30 (k := 0) rfl rfl rfl (us := [.int .u8 (zeroN.kind), .string (str (zeroN.tag)), .string (str (zeroN.key)), .slice (tak26) (zeroN.as.length) (tck26), .string (str (zeroN.text)), .slice (kak26) (zeroN.kids.length) (kck26)]) rfl rfl (by simp [Value.oneCell']) (by simp) ?_; clear F M a; intro w a M F
  change Mem w0 Gk26 (.blk b27 [.int .u8 (zeroN.kind), .string (str (zeroN.tag)), .string (str (zeroN.key)), .slice (tak26) (zeroN.as.length) (tck26), .string (str (zeroN.text)), .slice (kak26) (zeroN.kids.length) (kck26)] 30 :: .blk b21 [.int .u8 (zeroN.kind), .string (str (zeroN.tag)), .string (str (zeroN.key)), .slice (tak20) (zeroN.as.length) (tck20), .string (str (zeroN.text)), .slice (kak20) (zeroN.kids.length) (kck20)] 30 :: .blk b18 [.int .u8 (zeroN.kind), .string (str (zeroN.tag)), .string (str (zeroN.key)), .slice (tak17) (zeroN.as.length) (tck17), .string (str (zeroN.text)), .slice (kak17) (zeroN.kids.length) (kck17)] 30 :: .blk b15 [.int .u8 (zeroN.kind), .string (str (zeroN.tag)), .string (str (zeroN.key)), .slice (tak14) (zeroN.as.length) (tck14), .string (str (zeroN.text)), .slice (kak14) (zeroN.kids.length) (kck14)] 30 :: .blk b12 [.bool true, .bool true, .bool true] 64 :: .blk b10 [.int .u8 ((exN [117] [118]).kind), .string (str ((exN [117] [118]).tag)), .string (str ((exN [117] [118]).key)), .slice (tak9) ((exN [117] [118]).as.length) (tck9), .string (str ((exN [117] [118]).text)), .slice (kak9) ((exN [117] [118]).kids.length) (kck9)] 30 :: .blk b7 [.int .u64 (12), .int .u8 (0), .string (str ([104, 105] : List UInt8)), .slice (av23) (2) (cv23)] 51 :: .blk b2 [.int .u8 (exT.kind), .string (str (exT.tag)), .string (str (exT.key)), .slice (tak1) (exT.as.length) (tck1), .string (str (exT.text)), .slice (kak1) (exT.kids.length) (kck1)] 46 :: L) _ at M
  refine rl_run F (run_assign (F.ev rfl)) rfl ?_; clear F a; intro a F
  refine rl_nil <| q_tn ?_
  iterate 2 (refine wp_seq ?_)
  refine w_reg ?_
  iterate 2 (refine rl_run F (run_move (F.ev rfl)) rfl ?_; clear F a; intro a F)
  refine rl_run F (run_addi (F.ev rfl) (F.ev rfl) (in_i64 (by omega) (by omega))) rfl ?_; clear F a; intro a F
  refine rl_run F (run_move (F.ev rfl)) rfl ?_; clear F a; intro a F
  refine rl_run F (run_addi (F.ev rfl) (F.ev rfl) (in_i64 (by omega) (by omega))) rfl ?_; clear F a; intro a F
  refine rl_run F (run_move (F.ev rfl)) rfl ?_; clear F a; intro a F
  refine rl_run F (run_addi (F.ev rfl) (F.ev rfl) (in_i64 (by omega) (by omega))) rfl ?_; clear F a; intro a F
  refine rl_run F (run_nei (F.ev rfl) (F.ev rfl)) rfl ?_; clear F a; intro a F
  refine rl_run F (run_move (F.ev rfl)) rfl ?_; clear F a; intro a F
  refine rl_guard_t F rfl rfl rfl (not_f (decide_eq_true (by decide))) ?_
  refine rl_run F (run_move (F.ev rfl)) rfl ?_; clear F a; intro a F
  refine rl_guard_t F rfl rfl rfl (not_f (decide_eq_true (by decide))) ?_
  refine rl_run F (run_strNe (F.ev rfl) (F.ev rfl)) rfl ?_; clear F a; intro a F
  refine rl_run F (run_pick_f (F.ev rfl) (not_f (decide_eq_true (by decide))) (F.ev rfl)) rfl ?_; clear F a; intro a F
  refine rl_run F (run_move (F.ev rfl)) rfl ?_; clear F a; intro a F
  refine rl_guard_t F rfl rfl rfl (by decide) ?_
  refine rl_run F (run_move (F.ev rfl)) rfl ?_; clear F a; intro a F
  refine rl_guard_t F rfl rfl rfl (by decide) ?_
  refine rl_run F (run_nei (F.ev rfl) (F.ev rfl)) rfl ?_; clear F a; intro a F
  refine rl_run F (run_pick_f (F.ev rfl) (by decide) (F.ev rfl)) rfl ?_; clear F a; intro a F
  refine rl_run F (run_move (F.ev rfl)) rfl ?_; clear F a; intro a F
  refine rl_guard_t F rfl rfl rfl (not_f (decide_eq_true (by decide))) ?_
  refine rl_run F (run_loadA tok46 rfl (F.ev rfl) (cs := [.int .u8 (exT.kind), .string (str (exT.tag)), .string (str (exT.key)), .slice (tak1) (exT.as.length) (tck1), .string (str (exT.text)), .slice (kak1) (exT.kids.length) (kck1)]) rfl (M.cellsL (k := 7) rfl rfl)) rfl ?_; clear F a; intro a F
  refine rl_guard_t F rfl rfl rfl (not_f (decide_eq_true (by decide))) ?_
  refine rl_callS F ent35 rfl rfl (tcount_spec (x := exT) M exT_k exT_l SAk1 SKk1) ?_; clear F M a; rintro _ w a M rfl F
  rw [exCnt] at F
  refine rl_guard_t F rfl rfl rfl (not_f (decide_eq_true (by decide))) ?_
  refine rl_run F (run_nei (F.ev rfl) (F.ev rfl)) rfl ?_; clear F a; intro a F
  refine rl_run F (run_pick_f (F.ev rfl) (not_f (decide_eq_true (by decide))) (F.ev rfl)) rfl ?_; clear F a; intro a F
  refine rl_run F (run_move (F.ev rfl)) rfl ?_; clear F a; intro a F
  refine rl_guard_t F rfl rfl rfl (not_f (decide_eq_true (by decide))) ?_
  refine rl_run F (run_loadA tok64 rfl (F.ev rfl) (cs := [.bool true, .bool true, .bool true]) rfl (M.cellsL (k := 4) rfl rfl)) rfl ?_; clear F a; intro a F
  refine rl_guard_t F rfl rfl rfl (not_f (decide_eq_true (by decide))) ?_
  refine rl_run F (run_buildS (cs := [.bool true, .bool true, .bool true]) (ps := [(0, .bool true), (1, .bool true), (2, .bool true)]) tok64.k rfl tok64 (F.evp rfl) rfl) rfl ?_; clear F a; intro a F
  refine rl_guard_t F rfl rfl rfl (not_f (decide_eq_true (by decide))) ?_
  refine rl_run F (run_ne3b (tb := 4) (by kernel_rfl) (by kernel_rfl) (by kernel_rfl) (by kernel_rfl) tok4.k (F.ev rfl) (F.ev rfl)) rfl ?_; clear F a; intro a F
  refine rl_run F (run_pick_f (F.ev rfl) (not_f (decide_eq_true (by decide))) (F.ev rfl)) rfl ?_; clear F a; intro a F
  refine rl_nil <| q_tn <| w_cond_f F rfl rfl ?_
  refine wp_skip <| q_tn <| wp_seq <| w_reg <| rl_run F (run_move (F.ev rfl)) rfl ?_; clear F a; intro a F
  refine rl_run F (run_eqi (F.ev rfl) (F.ev rfl)) rfl ?_; clear F a; intro a F
  refine rl_run F (run_move (F.ev rfl)) rfl ?_; clear F a; intro a F
  refine rl_guard_t F rfl rfl rfl (decide_eq_true (by decide)) ?_
  refine rl_run F (run_move (F.ev rfl)) rfl ?_; clear F a; intro a F
  refine rl_guard_t F rfl rfl rfl (decide_eq_true (by decide)) ?_
  refine rl_run F (run_eqi (F.ev rfl) (F.ev rfl)) rfl ?_; clear F a; intro a F
  refine rl_run F (run_pick_t (F.ev rfl) (decide_eq_true (by decide)) (F.ev rfl)) rfl ?_; clear F a; intro a F
  refine rl_run F (run_move (F.ev rfl)) rfl ?_; clear F a; intro a F
  refine rl_guard_t F rfl rfl rfl (decide_eq_true (by decide)) ?_
  refine rl_run F (run_move (F.ev rfl)) rfl ?_; clear F a; intro a F
  refine rl_guard_t F rfl rfl rfl (decide_eq_true (by decide)) ?_
  refine rl_run F (run_eqi (F.ev rfl) (F.ev rfl)) rfl ?_; clear F a; intro a F
  refine rl_run F (run_pick_t (F.ev rfl) (decide_eq_true (by decide)) (F.ev rfl)) rfl ?_; clear F a; intro a F
  refine rl_run F (run_move (F.ev rfl)) rfl ?_; clear F a; intro a F
  refine rl_guard_t F rfl rfl rfl (decide_eq_true (by decide)) ?_
  refine rl_run F (run_move (F.ev rfl)) rfl ?_; clear F a; intro a F
  refine rl_guard_t F rfl rfl rfl (decide_eq_true (by decide)) ?_
  refine rl_run F (run_eqi (F.ev rfl) (F.ev rfl)) rfl ?_; clear F a; intro a F
  refine rl_run F (run_pick_t (F.ev rfl) (decide_eq_true (by decide)) (F.ev rfl)) rfl ?_; clear F a; intro a F
  refine rl_run F (run_move (F.ev rfl)) rfl ?_; clear F a; intro a F
  refine rl_guard_t F rfl rfl rfl (decide_eq_true (by decide)) ?_
  refine rl_run F (run_buildS (cs := [.int .u8 (0), .string (str ([] : List UInt8)), .string (str ([] : List UInt8)), .slice none (0) (0), .string (str ([] : List UInt8)), .slice none (0) (0)]) (ps := []) tok46.k rfl tok46 (F.evp rfl) rfl) rfl ?_; clear F a; intro a F
  refine rl_guard_t F rfl rfl rfl (decide_eq_true (by decide)) ?_
  refine rl_callS F ent26 rfl rfl (tcheck_spec (x := (.mk 0 [] [] [] [] [] : PT)) M ⟨by decide, by decide⟩ ⟨by decide, by decide, by decide⟩ RdSl.nil RdSl.nil) ?_; clear F M a; rintro _ w a M rfl F
  rw [chkP_no zeroP_no] at F
  refine rl_guard_t F rfl rfl rfl (decide_eq_true (by decide)) ?_
  refine rl_run F (run_eqi (F.ev rfl) (F.ev rfl)) rfl ?_; clear F a; intro a F
  refine rl_run F (run_pick_t (F.ev rfl) (decide_eq_true (by decide)) (F.ev rfl)) rfl ?_; clear F a; intro a F
  refine rl_run F (run_assign (F.ev rfl)) rfl ?_; clear F a; intro a F
  refine rl_nil <| q_tn <| wp_ret <| fin1 F rfl rfl ?_
  exact ⟨_, (((((((hGk1.trans hGz6).trans hGk9).trans hGk14).trans hGk17).trans hGk20).trans hGz25).trans hGk26), M.weaken (.cons _ (.cons _ (.cons _ (.cons _ (.cons _ (.cons _ (.cons _ (.cons _ (List.Sublist.refl _))))))))), by rfl⟩
theorem lives_spec {w0 w : World} {G : Ghost} {L : List Res} (M : Mem w0 G L w) : Calls Tryz.prog 28 #[] w (RetS w0 G L fun v => v = .bool true) := Ret.plain M (lives_ret M)
end Go.Proofs.YtlnehkjmmegkhaaGreat
