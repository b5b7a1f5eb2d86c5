/- The walks, part L. -/
import Derived.Test.YtokeofoemjeleaaDoorWalkZ
import Derived.Test.YtokeofoemjeleaaDoorSrt
namespace Go.Proofs.YtokeofoemjeleaaDoor
open Go Go.Y Go.Proofs
set_option linter.unusedSimpArgs false
set_option linter.unusedVariables false
theorem txt_eq : (if (checkF (ofI ([5, 10, 7, 20] : List Int)) 1).2 = 0 then textF (ofI ([5, 10, 7, 20] : List Int)) else []) = ([53, 32, 49, 48, 10, 55, 32, 50, 48, 10] : List UInt8) := by
  rw [if_pos (by kernel_rfl)]
  have d5 : Lib.decDigits 5 = [53] := by rw [Lib.decDigits, dif_pos (by decide)]; rfl
  have d7 : Lib.decDigits 7 = [55] := by rw [Lib.decDigits, dif_pos (by decide)]; rfl
  have d1 : Lib.decDigits 1 = [49] := by rw [Lib.decDigits, dif_pos (by decide)]; rfl
  have d2 : Lib.decDigits 2 = [50] := by rw [Lib.decDigits, dif_pos (by decide)]; rfl
  have d10 : Lib.decDigits 10 = [49, 48] := by rw [dec_split]; show (if (1 : Nat) = 0 then [] else Lib.decDigits 1) ++ _ = _; rw [d1]; rfl
  have d20 : Lib.decDigits 20 = [50, 48] := by rw [dec_split]; show (if (2 : Nat) = 0 then [] else Lib.decDigits 2) ++ _ = _; rw [d2]; rfl
  show lineF ⟨5, 10⟩ ++ (lineF ⟨7, 20⟩ ++ []) = _
  unfold lineF
  rw [itoa_nn (by decide), itoa_nn (by decide)]
  show Lib.decDigits 5 ++ [32] ++ Lib.decDigits 10 ++ [10] ++ (Lib.decDigits 7 ++ [32] ++ Lib.decDigits 20 ++ [10] ++ []) = _
  rw [d5, d7, d10, d20]
  rfl

theorem lives_ret {w0 w : World} {G : Ghost} {L : List Res} (M : Mem w0 G L w) (HG : Globs 0 1 4 5 G) : Calls Tryd.prog 10 #[] w (Ret w0 G L fun _ v => v = .bool true) := by
  refine calls_start (vs := []) Tryd.func10 rfl (n := 117) rfl rfl ?_
  intro a F
  refine wp_seq ?_
  refine w_reg ?_
  refine rl_run F (run_assign (F.ev rfl)) rfl ?_; clear F a; intro a F
  refine rl_nil ?_
  refine q_tn ?_
  refine wp_seq ?_
  refine wp_seq ?_
  refine w_reg ?_
  refine rl_buildSliceN F M tok90.k tok2 (ps := [(0, .int .i64 (5)), (1, .int .i64 (10)), (2, .int .i64 (7)), (3, .int .i64 (20))]) (cs := [[.int .i64 (5)], [.int .i64 (10)], [.int .i64 (7)], [.int .i64 (20)]]) (fl := [.int .i64 (5), .int .i64 (10), .int .i64 (7), .int .i64 (20)]) rfl rfl (by simp [Parts, Value.cells]) (by simp [ti2]) rfl (by simp [Value.oneCell']) (by decide) (by decide) rfl ?_; clear F M a; intro v1 w a M F
  obtain ⟨av1, cv1, rfl, hlev1, hcmv1, hlv1⟩ := M.row_shape (k := 0) rfl
  have Ef2 : Els rdI 1 G [.int .i64 (5), .int .i64 (10), .int .i64 (7), .int .i64 (20)] ([5, 10, 7, 20] : List Int) := ⟨[.int .i64 5], _, rfl, rfl, ⟨rfl, by decide, by decide⟩, ⟨[.int .i64 10], _, rfl, rfl, ⟨rfl, by decide, by decide⟩, ⟨[.int .i64 7], _, rfl, rfl, ⟨rfl, by decide, by decide⟩, ⟨[.int .i64 20], _, rfl, rfl, ⟨rfl, by decide, by decide⟩, rfl⟩⟩⟩⟩
  obtain ⟨hnz3, Gz3, az3, cz3, hGz3, hez3, Sz3, M⟩ := M.freeze_row mono_rdI (k := 0) rfl Ef2 (by decide)
  clear hez3 az3 cz3
  replace HG := HG.mono hGz3
  clear hnz3
  refine rl_call F ent24 rfl rfl (of_spec (xs := ([5, 10, 7, 20] : List Int)) M Sz3 (by decide) (by decide)) ?_; clear F M a; rintro _ Gf2 w a hGf2 M ⟨af2, cf2, rfl, Sf2⟩ F
  replace HG := HG.mono hGf2
  replace Sz3 := Sz3.mono mono_rdI hGf2
  clear Sz3
  refine rl_callS F ent12 rfl rfl (checked_spec (xs := ofI ([5, 10, 7, 20] : List Int)) (least := 10) (at' := 0) (e' := 0) M Sf2 (by first | (rw [hys]; decide) | decide | kernel_rfl) (by kernel_rfl)) ?_; clear F M a; rintro _ w a M rfl F
  refine rl_run F (run_not (F.ev rfl)) rfl ?_; clear F a; intro a F
  refine rl_run F (run_move (F.ev rfl)) rfl ?_; clear F a; intro a F
  refine rl_guard_t F rfl rfl rfl rfl ?_
  refine rl_buildSliceN F M tok90.k tok2 (ps := [(0, .int .i64 (5)), (1, .int .i64 (10)), (2, .int .i64 (5)), (3, .int .i64 (9))]) (cs := [[.int .i64 (5)], [.int .i64 (10)], [.int .i64 (5)], [.int .i64 (9)]]) (fl := [.int .i64 (5), .int .i64 (10), .int .i64 (5), .int .i64 (9)]) rfl rfl (by simp [Parts, Value.cells]) (by simp [ti2]) rfl (by simp [Value.oneCell']) (by decide) (by decide) rfl ?_; clear F M a; intro v4 w a M F
  obtain ⟨av4, cv4, rfl, hlev4, hcmv4, hlv4⟩ := M.row_shape (k := 0) rfl
  refine rl_guard_t F rfl rfl rfl rfl ?_
  have Ef5 : Els rdI 1 Gf2 [.int .i64 (5), .int .i64 (10), .int .i64 (5), .int .i64 (9)] ([5, 10, 5, 9] : List Int) := ⟨[.int .i64 5], _, rfl, rfl, ⟨rfl, by decide, by decide⟩, ⟨[.int .i64 10], _, rfl, rfl, ⟨rfl, by decide, by decide⟩, ⟨[.int .i64 5], _, rfl, rfl, ⟨rfl, by decide, by decide⟩, ⟨[.int .i64 9], _, rfl, rfl, ⟨rfl, by decide, by decide⟩, rfl⟩⟩⟩⟩
  obtain ⟨hnz6, Gz6, az6, cz6, hGz6, hez6, Sz6, M⟩ := M.freeze_row mono_rdI (k := 0) rfl Ef5 (by decide)
  clear hez6 az6 cz6
  replace HG := HG.mono hGz6
  replace Sf2 := Sf2.mono mono_rdPair hGz6
  clear hnz6
  refine rl_call F ent24 rfl rfl (of_spec (xs := ([5, 10, 5, 9] : List Int)) M Sz6 (by decide) (by decide)) ?_; clear F M a; rintro _ Gf5 w a hGf5 M ⟨af5, cf5, rfl, Sf5⟩ F
  replace HG := HG.mono hGf5
  replace Sf2 := Sf2.mono mono_rdPair hGf5
  replace Sz6 := Sz6.mono mono_rdI hGf5
  clear Sz6
  refine rl_guard_t F rfl rfl rfl rfl ?_
  refine rl_callS F ent12 rfl rfl (checked_spec (xs := ofI ([5, 10, 5, 9] : List Int)) (least := 10) (at' := 1) (e' := 12) M Sf5 (by first | (rw [hys]; decide) | decide | kernel_rfl) (by kernel_rfl)) ?_; clear F M a; rintro _ w a M rfl F
  refine rl_guard_t F rfl rfl rfl rfl ?_
  refine rl_run F (run_not (F.ev rfl)) rfl ?_; clear F a; intro a F
  refine rl_run F (run_pick_f (F.ev rfl) rfl (F.ev rfl)) rfl ?_; clear F a; intro a F
  refine rl_run F (run_move (F.ev rfl)) rfl ?_; clear F a; intro a F
  refine rl_guard_t F rfl rfl rfl rfl ?_
  refine rl_buildSliceN F M tok90.k tok2 (ps := [(0, .int .i64 (5)), (1, .int .i64 (10)), (2, .int .i64 (0)), (3, .int .i64 (1))]) (cs := [[.int .i64 (5)], [.int .i64 (10)], [.int .i64 (0)], [.int .i64 (1)]]) (fl := [.int .i64 (5), .int .i64 (10), .int .i64 (0), .int .i64 (1)]) rfl rfl (by simp [Parts, Value.cells]) (by simp [ti2]) rfl (by simp [Value.oneCell']) (by decide) (by decide) rfl ?_; clear F M a; intro v7 w a M F
  obtain ⟨av7, cv7, rfl, hlev7, hcmv7, hlv7⟩ := M.row_shape (k := 0) rfl
  refine rl_guard_t F rfl rfl rfl rfl ?_
  have Ef8 : Els rdI 1 Gf5 [.int .i64 (5), .int .i64 (10), .int .i64 (0), .int .i64 (1)] ([5, 10, 0, 1] : List Int) := ⟨[.int .i64 5], _, rfl, rfl, ⟨rfl, by decide, by decide⟩, ⟨[.int .i64 10], _, rfl, rfl, ⟨rfl, by decide, by decide⟩, ⟨[.int .i64 0], _, rfl, rfl, ⟨rfl, by decide, by decide⟩, ⟨[.int .i64 1], _, rfl, rfl, ⟨rfl, by decide, by decide⟩, rfl⟩⟩⟩⟩
  obtain ⟨hnz9, Gz9, az9, cz9, hGz9, hez9, Sz9, M⟩ := M.freeze_row mono_rdI (k := 0) rfl Ef8 (by decide)
  clear hez9 az9 cz9
  replace HG := HG.mono hGz9
  replace Sf2 := Sf2.mono mono_rdPair hGz9
  replace Sf5 := Sf5.mono mono_rdPair hGz9
  clear hnz9
  refine rl_call F ent24 rfl rfl (of_spec (xs := ([5, 10, 0, 1] : List Int)) M Sz9 (by decide) (by decide)) ?_; clear F M a; rintro _ Gf8 w a hGf8 M ⟨af8, cf8, rfl, Sf8⟩ F
  replace HG := HG.mono hGf8
  replace Sf2 := Sf2.mono mono_rdPair hGf8
  replace Sf5 := Sf5.mono mono_rdPair hGf8
  replace Sz9 := Sz9.mono mono_rdI hGf8
  clear Sz9
  refine rl_guard_t F rfl rfl rfl rfl ?_
  refine rl_callS F ent12 rfl rfl (checked_spec (xs := ofI ([5, 10, 0, 1] : List Int)) (least := 10) (at' := 1) (e' := 9) M Sf8 (by first | (rw [hys]; decide) | decide | kernel_rfl) (by kernel_rfl)) ?_; clear F M a; rintro _ w a M rfl F
  refine rl_guard_t F rfl rfl rfl rfl ?_
  refine rl_run F (run_not (F.ev rfl)) rfl ?_; clear F a; intro a F
  refine rl_run F (run_pick_f (F.ev rfl) rfl (F.ev rfl)) rfl ?_; clear F a; intro a F
  refine rl_run F (run_move (F.ev rfl)) rfl ?_; clear F a; intro a F
  refine rl_guard_t F rfl rfl rfl rfl ?_
  refine rl_buildSliceN F M tok90.k tok2 (ps := [(0, .int .i64 (5)), (1, .int .i64 (10)), (2, .int .i64 (5)), (3, .int .i64 (12))]) (cs := [[.int .i64 (5)], [.int .i64 (10)], [.int .i64 (5)], [.int .i64 (12)]]) (fl := [.int .i64 (5), .int .i64 (10), .int .i64 (5), .int .i64 (12)]) rfl rfl (by simp [Parts, Value.cells]) (by simp [ti2]) rfl (by simp [Value.oneCell']) (by decide) (by decide) rfl ?_; clear F M a; intro v10 w a M F
  obtain ⟨av10, cv10, rfl, hlev10, hcmv10, hlv10⟩ := M.row_shape (k := 0) rfl
  refine rl_guard_t F rfl rfl rfl rfl ?_
  have Ef11 : Els rdI 1 Gf8 [.int .i64 (5), .int .i64 (10), .int .i64 (5), .int .i64 (12)] ([5, 10, 5, 12] : List Int) := ⟨[.int .i64 5], _, rfl, rfl, ⟨rfl, by decide, by decide⟩, ⟨[.int .i64 10], _, rfl, rfl, ⟨rfl, by decide, by decide⟩, ⟨[.int .i64 5], _, rfl, rfl, ⟨rfl, by decide, by decide⟩, ⟨[.int .i64 12], _, rfl, rfl, ⟨rfl, by decide, by decide⟩, rfl⟩⟩⟩⟩
  obtain ⟨hnz12, Gz12, az12, cz12, hGz12, hez12, Sz12, M⟩ := M.freeze_row mono_rdI (k := 0) rfl Ef11 (by decide)
  clear hez12 az12 cz12
  replace HG := HG.mono hGz12
  replace Sf2 := Sf2.mono mono_rdPair hGz12
  replace Sf5 := Sf5.mono mono_rdPair hGz12
  replace Sf8 := Sf8.mono mono_rdPair hGz12
  clear hnz12
  refine rl_call F ent24 rfl rfl (of_spec (xs := ([5, 10, 5, 12] : List Int)) M Sz12 (by decide) (by decide)) ?_; clear F M a; rintro _ Gf11 w a hGf11 M ⟨af11, cf11, rfl, Sf11⟩ F
  replace HG := HG.mono hGf11
  replace Sf2 := Sf2.mono mono_rdPair hGf11
  replace Sf5 := Sf5.mono mono_rdPair hGf11
  replace Sf8 := Sf8.mono mono_rdPair hGf11
  replace Sz12 := Sz12.mono mono_rdI hGf11
  clear Sz12
  refine rl_guard_t F rfl rfl rfl rfl ?_
  refine rl_callS F ent12 rfl rfl (checked_spec (xs := ofI ([5, 10, 5, 12] : List Int)) (least := 10) (at' := 1) (e' := 8) M Sf11 (by first | (rw [hys]; decide) | decide | kernel_rfl) (by kernel_rfl)) ?_; clear F M a; rintro _ w a M rfl F
  refine rl_guard_t F rfl rfl rfl rfl ?_
  refine rl_run F (run_not (F.ev rfl)) rfl ?_; clear F a; intro a F
  refine rl_run F (run_pick_f (F.ev rfl) rfl (F.ev rfl)) rfl ?_; clear F a; intro a F
  refine rl_run F (run_move (F.ev rfl)) rfl ?_; clear F a; intro a F
  refine rl_guard_t F rfl rfl rfl rfl ?_
  refine rl_callS F ent12 rfl rfl (checked_spec (xs := ([] : List PairD)) (least := 0) (at' := 0) (e' := 1) M RdSl.nil (by first | (rw [hys]; decide) | decide | kernel_rfl) (by kernel_rfl)) ?_; clear F M a; rintro _ w a M rfl F
  refine rl_guard_t F rfl rfl rfl rfl ?_
  refine rl_run F (run_not (F.ev rfl)) rfl ?_; clear F a; intro a F
  refine rl_run F (run_pick_f (F.ev rfl) rfl (F.ev rfl)) rfl ?_; clear F a; intro a F
  refine rl_nil ?_
  refine q_tn ?_
  refine w_cond_f F rfl rfl ?_
  refine wp_skip ?_
  refine q_tn ?_
  refine wp_seq ?_
  refine w_reg ?_
  refine rl_buildSliceN F M tok90.k tok2 (ps := [(0, .int .i64 (5)), (1, .int .i64 (10)), (2, .int .i64 (7)), (3, .int .i64 (20))]) (cs := [[.int .i64 (5)], [.int .i64 (10)], [.int .i64 (7)], [.int .i64 (20)]]) (fl := [.int .i64 (5), .int .i64 (10), .int .i64 (7), .int .i64 (20)]) rfl rfl (by simp [Parts, Value.cells]) (by simp [ti2]) rfl (by simp [Value.oneCell']) (by decide) (by decide) rfl ?_; clear F M a; intro v13 w a M F
  obtain ⟨av13, cv13, rfl, hlev13, hcmv13, hlv13⟩ := M.row_shape (k := 0) rfl
  have Ef14 : Els rdI 1 Gf11 [.int .i64 (5), .int .i64 (10), .int .i64 (7), .int .i64 (20)] ([5, 10, 7, 20] : List Int) := ⟨[.int .i64 5], _, rfl, rfl, ⟨rfl, by decide, by decide⟩, ⟨[.int .i64 10], _, rfl, rfl, ⟨rfl, by decide, by decide⟩, ⟨[.int .i64 7], _, rfl, rfl, ⟨rfl, by decide, by decide⟩, ⟨[.int .i64 20], _, rfl, rfl, ⟨rfl, by decide, by decide⟩, rfl⟩⟩⟩⟩
  obtain ⟨hnz15, Gz15, az15, cz15, hGz15, hez15, Sz15, M⟩ := M.freeze_row mono_rdI (k := 0) rfl Ef14 (by decide)
  clear hez15 az15 cz15
  replace HG := HG.mono hGz15
  replace Sf2 := Sf2.mono mono_rdPair hGz15
  replace Sf5 := Sf5.mono mono_rdPair hGz15
  replace Sf8 := Sf8.mono mono_rdPair hGz15
  replace Sf11 := Sf11.mono mono_rdPair hGz15
  clear hnz15
  refine rl_call F ent24 rfl rfl (of_spec (xs := ([5, 10, 7, 20] : List Int)) M Sz15 (by decide) (by decide)) ?_; clear F M a; rintro _ Gf14 w a hGf14 M ⟨af14, cf14, rfl, Sf14⟩ F
  replace HG := HG.mono hGf14
  replace Sf2 := Sf2.mono mono_rdPair hGf14
  replace Sf5 := Sf5.mono mono_rdPair hGf14
  replace Sf8 := Sf8.mono mono_rdPair hGf14
  replace Sf11 := Sf11.mono mono_rdPair hGf14
  replace Sz15 := Sz15.mono mono_rdI hGf14
  clear Sz15
  refine rl_buildSliceN F M tok90.k tok2 (ps := [(0, .int .i64 (9)), (1, .int .i64 (1)), (2, .int .i64 (5)), (3, .int .i64 (30))]) (cs := [[.int .i64 (9)], [.int .i64 (1)], [.int .i64 (5)], [.int .i64 (30)]]) (fl := [.int .i64 (9), .int .i64 (1), .int .i64 (5), .int .i64 (30)]) rfl rfl (by simp [Parts, Value.cells]) (by simp [ti2]) rfl (by simp [Value.oneCell']) (by decide) (by decide) rfl ?_; clear F M a; intro v16 w a M F
  obtain ⟨av16, cv16, rfl, hlev16, hcmv16, hlv16⟩ := M.row_shape (k := 0) rfl
  have Ef17 : Els rdI 1 Gf14 [.int .i64 (9), .int .i64 (1), .int .i64 (5), .int .i64 (30)] ([9, 1, 5, 30] : List Int) := ⟨[.int .i64 9], _, rfl, rfl, ⟨rfl, by decide, by decide⟩, ⟨[.int .i64 1], _, rfl, rfl, ⟨rfl, by decide, by decide⟩, ⟨[.int .i64 5], _, rfl, rfl, ⟨rfl, by decide, by decide⟩, ⟨[.int .i64 30], _, rfl, rfl, ⟨rfl, by decide, by decide⟩, rfl⟩⟩⟩⟩
  obtain ⟨hnz18, Gz18, az18, cz18, hGz18, hez18, Sz18, M⟩ := M.freeze_row mono_rdI (k := 0) rfl Ef17 (by decide)
  clear hez18 az18 cz18
  replace HG := HG.mono hGz18
  replace Sf2 := Sf2.mono mono_rdPair hGz18
  replace Sf5 := Sf5.mono mono_rdPair hGz18
  replace Sf8 := Sf8.mono mono_rdPair hGz18
  replace Sf11 := Sf11.mono mono_rdPair hGz18
  replace Sf14 := Sf14.mono mono_rdPair hGz18
  clear hnz18
  refine rl_call F ent24 rfl rfl (of_spec (xs := ([9, 1, 5, 30] : List Int)) M Sz18 (by decide) (by decide)) ?_; clear F M a; rintro _ Gf17 w a hGf17 M ⟨af17, cf17, rfl, Sf17⟩ F
  replace HG := HG.mono hGf17
  replace Sf2 := Sf2.mono mono_rdPair hGf17
  replace Sf5 := Sf5.mono mono_rdPair hGf17
  replace Sf8 := Sf8.mono mono_rdPair hGf17
  replace Sf11 := Sf11.mono mono_rdPair hGf17
  replace Sf14 := Sf14.mono mono_rdPair hGf17
  replace Sz18 := Sz18.mono mono_rdI hGf17
  clear Sz18
  refine rl_call F ent13 rfl rfl (merge_spec (xs := ofI ([5, 10, 7, 20] : List Int)) (ys := ofI ([9, 1, 5, 30] : List Int)) (least := 1) M Sf14 (by first | (rw [hys]; decide) | decide | kernel_rfl) Sf17 (by first | (rw [hys]; decide) | decide | kernel_rfl)) ?_; clear F M a; rintro _ Gm19 w a hGm19 M ⟨am19, rfl, Sm19⟩ F
  replace HG := HG.mono hGm19
  replace Sf2 := Sf2.mono mono_rdPair hGm19
  replace Sf5 := Sf5.mono mono_rdPair hGm19
  replace Sf8 := Sf8.mono mono_rdPair hGm19
  replace Sf11 := Sf11.mono mono_rdPair hGm19
  replace Sf14 := Sf14.mono mono_rdPair hGm19
  replace Sf17 := Sf17.mono mono_rdPair hGm19
  have hqm19 := (⟨by kernel_rfl, by kernel_rfl⟩ : mergeR (ofI ([5, 10, 7, 20] : List Int)) (ofI ([9, 1, 5, 30] : List Int)) 1 = ofI [5, 30, 7, 20, 9, 1] ∧ mergeE (ofI ([5, 10, 7, 20] : List Int)) (ofI ([9, 1, 5, 30] : List Int)) 1 = 0)
  rw [hqm19.1] at F Sm19
  rw [hqm19.2] at F
  refine rl_run F (run_move (F.ev rfl)) rfl ?_; clear F a; intro a F
  refine rl_run F (run_extract (v := .slice (am19) ((ofI [5, 30, 7, 20, 9, 1]).length) ((ofI [5, 30, 7, 20, 9, 1]).length)) (F.ev rfl) rfl) rfl ?_; clear F a; intro a F
  refine rl_run F (run_extract (v := .int .i64 (0)) (F.ev rfl) rfl) rfl ?_; clear F a; intro a F
  refine rl_run F (run_assign (F.ev rfl)) rfl ?_; clear F a; intro a F
  refine rl_run F (run_assign (F.ev rfl)) rfl ?_; clear F a; intro a F
  refine rl_nil ?_
  refine q_tn ?_
  refine wp_seq ?_
  refine w_reg ?_
  refine rl_buildSliceN F M tok90.k tok2 (ps := [(0, .int .i64 (5)), (1, .int .i64 (10)), (2, .int .i64 (7)), (3, .int .i64 (20))]) (cs := [[.int .i64 (5)], [.int .i64 (10)], [.int .i64 (7)], [.int .i64 (20)]]) (fl := [.int .i64 (5), .int .i64 (10), .int .i64 (7), .int .i64 (20)]) rfl rfl (by simp [Parts, Value.cells]) (by simp [ti2]) rfl (by simp [Value.oneCell']) (by decide) (by decide) rfl ?_; clear F M a; intro v20 w a M F
  obtain ⟨av20, cv20, rfl, hlev20, hcmv20, hlv20⟩ := M.row_shape (k := 0) rfl
  have Ef21 : Els rdI 1 Gm19 [.int .i64 (5), .int .i64 (10), .int .i64 (7), .int .i64 (20)] ([5, 10, 7, 20] : List Int) := ⟨[.int .i64 5], _, rfl, rfl, ⟨rfl, by decide, by decide⟩, ⟨[.int .i64 10], _, rfl, rfl, ⟨rfl, by decide, by decide⟩, ⟨[.int .i64 7], _, rfl, rfl, ⟨rfl, by decide, by decide⟩, ⟨[.int .i64 20], _, rfl, rfl, ⟨rfl, by decide, by decide⟩, rfl⟩⟩⟩⟩
  obtain ⟨hnz22, Gz22, az22, cz22, hGz22, hez22, Sz22, M⟩ := M.freeze_row mono_rdI (k := 0) rfl Ef21 (by decide)
  clear hez22 az22 cz22
  replace HG := HG.mono hGz22
  replace Sf2 := Sf2.mono mono_rdPair hGz22
  replace Sf5 := Sf5.mono mono_rdPair hGz22
  replace Sf8 := Sf8.mono mono_rdPair hGz22
  replace Sf11 := Sf11.mono mono_rdPair hGz22
  replace Sf14 := Sf14.mono mono_rdPair hGz22
  replace Sf17 := Sf17.mono mono_rdPair hGz22
  replace Sm19 := Sm19.mono mono_rdPair hGz22
  clear hnz22
  refine rl_call F ent24 rfl rfl (of_spec (xs := ([5, 10, 7, 20] : List Int)) M Sz22 (by decide) (by decide)) ?_; clear F M a; rintro _ Gf21 w a hGf21 M ⟨af21, cf21, rfl, Sf21⟩ F
  replace HG := HG.mono hGf21
  replace Sf2 := Sf2.mono mono_rdPair hGf21
  replace Sf5 := Sf5.mono mono_rdPair hGf21
  replace Sf8 := Sf8.mono mono_rdPair hGf21
  replace Sf11 := Sf11.mono mono_rdPair hGf21
  replace Sf14 := Sf14.mono mono_rdPair hGf21
  replace Sf17 := Sf17.mono mono_rdPair hGf21
  replace Sm19 := Sm19.mono mono_rdPair hGf21
  replace Sz22 := Sz22.mono mono_rdI hGf21
  clear Sz22
  refine rl_callS F ent14 rfl rfl (text_spec (xs := ofI ([5, 10, 7, 20] : List Int)) M HG Sf21 (by first | (rw [hys]; decide) | decide | kernel_rfl) (by first | (rw [hys]; decide) | decide | kernel_rfl)) ?_; clear F M a; rintro _ w a M rfl F
  have hq23 : (if (checkF (ofI ([5, 10, 7, 20] : List Int)) 1).2 = 0 then textF (ofI ([5, 10, 7, 20] : List Int)) else []) = ([53, 32, 49, 48, 10, 55, 32, 50, 48, 10] : List UInt8) ∧ (checkF (ofI ([5, 10, 7, 20] : List Int)) 1).2 = 0 := ⟨txt_eq, by kernel_rfl⟩
  rw [hq23.1, hq23.2] at F
  refine rl_run F (run_move (F.ev rfl)) rfl ?_; clear F a; intro a F
  refine rl_run F (run_extract (v := .string (str (([53, 32, 49, 48, 10, 55, 32, 50, 48, 10] : List UInt8)))) (F.ev rfl) rfl) rfl ?_; clear F a; intro a F
  refine rl_run F (run_extract (v := .int .i64 (0)) (F.ev rfl) rfl) rfl ?_; clear F a; intro a F
  refine rl_run F (run_assign (F.ev rfl)) rfl ?_; clear F a; intro a F
  refine rl_run F (run_assign (F.ev rfl)) rfl ?_; clear F a; intro a F
  refine rl_nil ?_
  refine q_tn ?_
  refine wp_seq ?_
  refine w_reg ?_
  refine rl_call F ent18 rfl rfl (parse_spec (s := ([53, 32, 49, 48, 10, 53, 32, 49, 49, 10] : List UInt8)) M HG (by decide)) ?_; clear F M a; rintro _ Gp24 w a hGp24 M ⟨ap24, rfl, Sp24⟩ F
  replace HG := HG.mono hGp24
  replace Sf2 := Sf2.mono mono_rdPair hGp24
  replace Sf5 := Sf5.mono mono_rdPair hGp24
  replace Sf8 := Sf8.mono mono_rdPair hGp24
  replace Sf11 := Sf11.mono mono_rdPair hGp24
  replace Sf14 := Sf14.mono mono_rdPair hGp24
  replace Sf17 := Sf17.mono mono_rdPair hGp24
  replace Sm19 := Sm19.mono mono_rdPair hGp24
  replace Sf21 := Sf21.mono mono_rdPair hGp24
  have hq25 : parseF ([53, 32, 49, 48, 10, 53, 32, 49, 49, 10] : List UInt8) = (([] : List PairD), 2, 8) := by kernel_rfl
  rw [hq25] at F Sp24
  refine rl_run F (run_move (F.ev rfl)) rfl ?_; clear F a; intro a F
  refine rl_run F (run_extract (v := .slice (ap24) ((([] : List PairD)).length) ((([] : List PairD)).length)) (F.ev rfl) rfl) rfl ?_; clear F a; intro a F
  refine rl_run F (run_extract (v := .int .i64 (2)) (F.ev rfl) rfl) rfl ?_; clear F a; intro a F
  refine rl_run F (run_extract (v := .int .i64 (8)) (F.ev rfl) rfl) rfl ?_; clear F a; intro a F
  refine rl_run F (run_assign (F.ev rfl)) rfl ?_; clear F a; intro a F
  refine rl_run F (run_assign (F.ev rfl)) rfl ?_; clear F a; intro a F
  refine rl_run F (run_assign (F.ev rfl)) rfl ?_; clear F a; intro a F
  refine rl_nil ?_
  refine q_tn ?_
  refine wp_seq ?_
  refine w_reg ?_
  refine rl_call F ent18 rfl rfl (parse_spec (s := ([53, 32, 49, 48] : List UInt8)) M HG (by decide)) ?_; clear F M a; rintro _ Gp26 w a hGp26 M ⟨ap26, rfl, Sp26⟩ F
  replace HG := HG.mono hGp26
  replace Sf2 := Sf2.mono mono_rdPair hGp26
  replace Sf5 := Sf5.mono mono_rdPair hGp26
  replace Sf8 := Sf8.mono mono_rdPair hGp26
  replace Sf11 := Sf11.mono mono_rdPair hGp26
  replace Sf14 := Sf14.mono mono_rdPair hGp26
  replace Sf17 := Sf17.mono mono_rdPair hGp26
  replace Sm19 := Sm19.mono mono_rdPair hGp26
  replace Sf21 := Sf21.mono mono_rdPair hGp26
  replace Sp24 := Sp24.mono mono_rdPair hGp26
  have hq27 : parseF ([53, 32, 49, 48] : List UInt8) = (([] : List PairD), 1, 5) := by kernel_rfl
  rw [hq27] at F Sp26
  refine rl_run F (run_move (F.ev rfl)) rfl ?_; clear F a; intro a F
  refine rl_run F (run_extract (v := .slice (ap26) ((([] : List PairD)).length) ((([] : List PairD)).length)) (F.ev rfl) rfl) rfl ?_; clear F a; intro a F
  refine rl_run F (run_extract (v := .int .i64 (1)) (F.ev rfl) rfl) rfl ?_; clear F a; intro a F
  refine rl_run F (run_extract (v := .int .i64 (5)) (F.ev rfl) rfl) rfl ?_; clear F a; intro a F
  refine rl_run F (run_assign (F.ev rfl)) rfl ?_; clear F a; intro a F
  refine rl_run F (run_assign (F.ev rfl)) rfl ?_; clear F a; intro a F
  refine rl_run F (run_assign (F.ev rfl)) rfl ?_; clear F a; intro a F
  refine rl_nil ?_
  refine q_tn ?_
  refine wp_seq ?_
  refine w_reg ?_
  refine rl_call F ent18 rfl rfl (parse_spec (s := ([48, 53, 32, 49, 10] : List UInt8)) M HG (by decide)) ?_; clear F M a; rintro _ Gp28 w a hGp28 M ⟨ap28, rfl, Sp28⟩ F
  replace HG := HG.mono hGp28
  replace Sf2 := Sf2.mono mono_rdPair hGp28
  replace Sf5 := Sf5.mono mono_rdPair hGp28
  replace Sf8 := Sf8.mono mono_rdPair hGp28
  replace Sf11 := Sf11.mono mono_rdPair hGp28
  replace Sf14 := Sf14.mono mono_rdPair hGp28
  replace Sf17 := Sf17.mono mono_rdPair hGp28
  replace Sm19 := Sm19.mono mono_rdPair hGp28
  replace Sf21 := Sf21.mono mono_rdPair hGp28
  replace Sp24 := Sp24.mono mono_rdPair hGp28
  replace Sp26 := Sp26.mono mono_rdPair hGp28
  have hq29 : parseF ([48, 53, 32, 49, 10] : List UInt8) = (([] : List PairD), 1, 5) := by kernel_rfl
  rw [hq29] at F Sp28
  refine rl_run F (run_move (F.ev rfl)) rfl ?_; clear F a; intro a F
  refine rl_run F (run_extract (v := .slice (ap28) ((([] : List PairD)).length) ((([] : List PairD)).length)) (F.ev rfl) rfl) rfl ?_; clear F a; intro a F
  refine rl_run F (run_extract (v := .int .i64 (1)) (F.ev rfl) rfl) rfl ?_; clear F a; intro a F
  refine rl_run F (run_extract (v := .int .i64 (5)) (F.ev rfl) rfl) rfl ?_; clear F a; intro a F
  refine rl_run F (run_assign (F.ev rfl)) rfl ?_; clear F a; intro a F
  refine rl_run F (run_assign (F.ev rfl)) rfl ?_; clear F a; intro a F
  refine rl_run F (run_assign (F.ev rfl)) rfl ?_; clear F a; intro a F
  refine rl_nil ?_
  refine q_tn ?_
  refine wp_seq ?_
  refine w_reg ?_
  refine rl_run F (run_move (F.ev rfl)) rfl ?_; clear F a; intro a F
  refine rl_run F (run_eqi (F.ev rfl) (F.ev rfl)) rfl ?_; clear F a; intro a F
  refine rl_run F (run_move (F.ev rfl)) rfl ?_; clear F a; intro a F
  refine rl_guard_t F rfl rfl rfl (decide_eq_true (by decide)) ?_
  refine rl_run F (run_move (F.ev rfl)) rfl ?_; clear F a; intro a F
  refine rl_guard_t F rfl rfl rfl (decide_eq_true (by decide)) ?_
  refine rl_buildSliceN F M tok90.k tok2 (ps := [(0, .int .i64 (5)), (1, .int .i64 (30)), (2, .int .i64 (7)), (3, .int .i64 (20)), (4, .int .i64 (9)), (5, .int .i64 (1))]) (cs := [[.int .i64 (5)], [.int .i64 (30)], [.int .i64 (7)], [.int .i64 (20)], [.int .i64 (9)], [.int .i64 (1)]]) (fl := [.int .i64 (5), .int .i64 (30), .int .i64 (7), .int .i64 (20), .int .i64 (9), .int .i64 (1)]) rfl rfl (by simp [Parts, Value.cells]) (by simp [ti2]) rfl (by simp [Value.oneCell']) (by decide) (by decide) rfl ?_; clear F M a; intro v30 w a M F
  obtain ⟨av30, cv30, rfl, hlev30, hcmv30, hlv30⟩ := M.row_shape (k := 0) rfl
  refine rl_guard_t F rfl rfl rfl (decide_eq_true (by decide)) ?_
  have Ef31 : Els rdI 1 Gp28 [.int .i64 (5), .int .i64 (30), .int .i64 (7), .int .i64 (20), .int .i64 (9), .int .i64 (1)] ([5, 30, 7, 20, 9, 1] : List Int) := ⟨[.int .i64 5], _, rfl, rfl, ⟨rfl, by decide, by decide⟩, ⟨[.int .i64 30], _, rfl, rfl, ⟨rfl, by decide, by decide⟩, ⟨[.int .i64 7], _, rfl, rfl, ⟨rfl, by decide, by decide⟩, ⟨[.int .i64 20], _, rfl, rfl, ⟨rfl, by decide, by decide⟩, ⟨[.int .i64 9], _, rfl, rfl, ⟨rfl, by decide, by decide⟩, ⟨[.int .i64 1], _, rfl, rfl, ⟨rfl, by decide, by decide⟩, rfl⟩⟩⟩⟩⟩⟩
  obtain ⟨hnz32, Gz32, az32, cz32, hGz32, hez32, Sz32, M⟩ := M.freeze_row mono_rdI (k := 0) rfl Ef31 (by decide)
  clear hez32 az32 cz32
  replace HG := HG.mono hGz32
  replace Sf2 := Sf2.mono mono_rdPair hGz32
  replace Sf5 := Sf5.mono mono_rdPair hGz32
  replace Sf8 := Sf8.mono mono_rdPair hGz32
  replace Sf11 := Sf11.mono mono_rdPair hGz32
  replace Sf14 := Sf14.mono mono_rdPair hGz32
  replace Sf17 := Sf17.mono mono_rdPair hGz32
  replace Sm19 := Sm19.mono mono_rdPair hGz32
  replace Sf21 := Sf21.mono mono_rdPair hGz32
  replace Sp24 := Sp24.mono mono_rdPair hGz32
  replace Sp26 := Sp26.mono mono_rdPair hGz32
  replace Sp28 := Sp28.mono mono_rdPair hGz32
  clear hnz32
  refine rl_call F ent24 rfl rfl (of_spec (xs := ([5, 30, 7, 20, 9, 1] : List Int)) M Sz32 (by decide) (by decide)) ?_; clear F M a; rintro _ Gf31 w a hGf31 M ⟨af31, cf31, rfl, Sf31⟩ F
  replace HG := HG.mono hGf31
  replace Sf2 := Sf2.mono mono_rdPair hGf31
  replace Sf5 := Sf5.mono mono_rdPair hGf31
  replace Sf8 := Sf8.mono mono_rdPair hGf31
  replace Sf11 := Sf11.mono mono_rdPair hGf31
  replace Sf14 := Sf14.mono mono_rdPair hGf31
  replace Sf17 := Sf17.mono mono_rdPair hGf31
  replace Sm19 := Sm19.mono mono_rdPair hGf31
  replace Sf21 := Sf21.mono mono_rdPair hGf31
  replace Sp24 := Sp24.mono mono_rdPair hGf31
  replace Sp26 := Sp26.mono mono_rdPair hGf31
  replace Sp28 := Sp28.mono mono_rdPair hGf31
  replace Sz32 := Sz32.mono mono_rdI hGf31
  clear Sz32
  refine rl_guard_t F rfl rfl rfl (decide_eq_true (by decide)) ?_
  have hs33 : ofI ([5, 30, 7, 20, 9, 1] : List Int) = ofI [5, 30, 7, 20, 9, 1] := rfl
  (try rw [hs33] at F)
  refine rl_callS F ent15 rfl rfl (same_spec (xs := ofI [5, 30, 7, 20, 9, 1]) M Sm19 (by have h := Sf31; rw [hs33] at h; exact h) (by first | (rw [hys]; decide) | decide | kernel_rfl)) ?_; clear F M a; rintro _ w a M rfl F
  refine rl_run F (run_pick_t (F.ev rfl) (decide_eq_true (by decide)) (F.ev rfl)) rfl ?_; clear F a; intro a F
  refine rl_run F (run_move (F.ev rfl)) rfl ?_; clear F a; intro a F
  refine rl_guard_t F rfl rfl rfl rfl ?_
  refine rl_buildSliceN F M tok90.k tok2 (ps := [(0, .int .i64 (7)), (1, .int .i64 (1)), (2, .int .i64 (2)), (3, .int .i64 (1))]) (cs := [[.int .i64 (7)], [.int .i64 (1)], [.int .i64 (2)], [.int .i64 (1)]]) (fl := [.int .i64 (7), .int .i64 (1), .int .i64 (2), .int .i64 (1)]) rfl rfl (by simp [Parts, Value.cells]) (by simp [ti2]) rfl (by simp [Value.oneCell']) (by decide) (by decide) rfl ?_; clear F M a; intro v34 w a M F
  obtain ⟨av34, cv34, rfl, hlev34, hcmv34, hlv34⟩ := M.row_shape (k := 0) rfl
  refine rl_guard_t F rfl rfl rfl rfl ?_
  have Ef35 : Els rdI 1 Gf31 [.int .i64 (7), .int .i64 (1), .int .i64 (2), .int .i64 (1)] ([7, 1, 2, 1] : List Int) := ⟨[.int .i64 7], _, rfl, rfl, ⟨rfl, by decide, by decide⟩, ⟨[.int .i64 1], _, rfl, rfl, ⟨rfl, by decide, by decide⟩, ⟨[.int .i64 2], _, rfl, rfl, ⟨rfl, by decide, by decide⟩, ⟨[.int .i64 1], _, rfl, rfl, ⟨rfl, by decide, by decide⟩, rfl⟩⟩⟩⟩
  obtain ⟨hnz36, Gz36, az36, cz36, hGz36, hez36, Sz36, M⟩ := M.freeze_row mono_rdI (k := 0) rfl Ef35 (by decide)
  clear hez36 az36 cz36
  replace HG := HG.mono hGz36
  replace Sf2 := Sf2.mono mono_rdPair hGz36
  replace Sf5 := Sf5.mono mono_rdPair hGz36
  replace Sf8 := Sf8.mono mono_rdPair hGz36
  replace Sf11 := Sf11.mono mono_rdPair hGz36
  replace Sf14 := Sf14.mono mono_rdPair hGz36
  replace Sf17 := Sf17.mono mono_rdPair hGz36
  replace Sm19 := Sm19.mono mono_rdPair hGz36
  replace Sf21 := Sf21.mono mono_rdPair hGz36
  replace Sp24 := Sp24.mono mono_rdPair hGz36
  replace Sp26 := Sp26.mono mono_rdPair hGz36
  replace Sp28 := Sp28.mono mono_rdPair hGz36
  replace Sf31 := Sf31.mono mono_rdPair hGz36
  clear hnz36
  refine rl_call F ent24 rfl rfl (of_spec (xs := ([7, 1, 2, 1] : List Int)) M Sz36 (by decide) (by decide)) ?_; clear F M a; rintro _ Gf35 w a hGf35 M ⟨af35, cf35, rfl, Sf35⟩ F
  replace HG := HG.mono hGf35
  replace Sf2 := Sf2.mono mono_rdPair hGf35
  replace Sf5 := Sf5.mono mono_rdPair hGf35
  replace Sf8 := Sf8.mono mono_rdPair hGf35
  replace Sf11 := Sf11.mono mono_rdPair hGf35
  replace Sf14 := Sf14.mono mono_rdPair hGf35
  replace Sf17 := Sf17.mono mono_rdPair hGf35
  replace Sm19 := Sm19.mono mono_rdPair hGf35
  replace Sf21 := Sf21.mono mono_rdPair hGf35
  replace Sp24 := Sp24.mono mono_rdPair hGf35
  replace Sp26 := Sp26.mono mono_rdPair hGf35
  replace Sp28 := Sp28.mono mono_rdPair hGf35
  replace Sf31 := Sf31.mono mono_rdPair hGf35
  replace Sz36 := Sz36.mono mono_rdI hGf35
  clear Sz36
  refine rl_guard_t F rfl rfl rfl rfl ?_
  refine rl_call F ent22 rfl rfl (sorted_small (xs := ofI ([7, 1, 2, 1] : List Int)) M Sf35 (by first | (rw [hys]; decide) | decide | kernel_rfl) (by first | (rw [hys]; decide) | decide | kernel_rfl)) ?_; clear F M a; rintro _ Gy37 w a hGy37 M ⟨ay37, y37, rfl, Sy37, hsmy37, hlny37, hsry37⟩ F
  replace HG := HG.mono hGy37
  replace Sf2 := Sf2.mono mono_rdPair hGy37
  replace Sf5 := Sf5.mono mono_rdPair hGy37
  replace Sf8 := Sf8.mono mono_rdPair hGy37
  replace Sf11 := Sf11.mono mono_rdPair hGy37
  replace Sf14 := Sf14.mono mono_rdPair hGy37
  replace Sf17 := Sf17.mono mono_rdPair hGy37
  replace Sm19 := Sm19.mono mono_rdPair hGy37
  replace Sf21 := Sf21.mono mono_rdPair hGy37
  replace Sp24 := Sp24.mono mono_rdPair hGy37
  replace Sp26 := Sp26.mono mono_rdPair hGy37
  replace Sp28 := Sp28.mono mono_rdPair hGy37
  replace Sf31 := Sf31.mono mono_rdPair hGy37
  replace Sf35 := Sf35.mono mono_rdPair hGy37
  have hys := two_sorted (x := ⟨7, 1⟩) (y := ⟨2, 1⟩) hsmy37 (by rw [hlny37]; rfl) hsry37 (by decide)
  refine rl_guard_t F rfl rfl rfl rfl ?_
  refine rl_buildSliceN F M tok90.k tok2 (ps := [(0, .int .i64 (2)), (1, .int .i64 (1)), (2, .int .i64 (7)), (3, .int .i64 (1))]) (cs := [[.int .i64 (2)], [.int .i64 (1)], [.int .i64 (7)], [.int .i64 (1)]]) (fl := [.int .i64 (2), .int .i64 (1), .int .i64 (7), .int .i64 (1)]) rfl rfl (by simp [Parts, Value.cells]) (by simp [ti2]) rfl (by simp [Value.oneCell']) (by decide) (by decide) rfl ?_; clear F M a; intro v38 w a M F
  obtain ⟨av38, cv38, rfl, hlev38, hcmv38, hlv38⟩ := M.row_shape (k := 0) rfl
  refine rl_guard_t F rfl rfl rfl rfl ?_
  have Ef39 : Els rdI 1 Gy37 [.int .i64 (2), .int .i64 (1), .int .i64 (7), .int .i64 (1)] ([2, 1, 7, 1] : List Int) := ⟨[.int .i64 2], _, rfl, rfl, ⟨rfl, by decide, by decide⟩, ⟨[.int .i64 1], _, rfl, rfl, ⟨rfl, by decide, by decide⟩, ⟨[.int .i64 7], _, rfl, rfl, ⟨rfl, by decide, by decide⟩, ⟨[.int .i64 1], _, rfl, rfl, ⟨rfl, by decide, by decide⟩, rfl⟩⟩⟩⟩
  obtain ⟨hnz40, Gz40, az40, cz40, hGz40, hez40, Sz40, M⟩ := M.freeze_row mono_rdI (k := 0) rfl Ef39 (by decide)
  clear hez40 az40 cz40
  replace HG := HG.mono hGz40
  replace Sf2 := Sf2.mono mono_rdPair hGz40
  replace Sf5 := Sf5.mono mono_rdPair hGz40
  replace Sf8 := Sf8.mono mono_rdPair hGz40
  replace Sf11 := Sf11.mono mono_rdPair hGz40
  replace Sf14 := Sf14.mono mono_rdPair hGz40
  replace Sf17 := Sf17.mono mono_rdPair hGz40
  replace Sm19 := Sm19.mono mono_rdPair hGz40
  replace Sf21 := Sf21.mono mono_rdPair hGz40
  replace Sp24 := Sp24.mono mono_rdPair hGz40
  replace Sp26 := Sp26.mono mono_rdPair hGz40
  replace Sp28 := Sp28.mono mono_rdPair hGz40
  replace Sf31 := Sf31.mono mono_rdPair hGz40
  replace Sf35 := Sf35.mono mono_rdPair hGz40
  replace Sy37 := Sy37.mono mono_rdPair hGz40
  clear hnz40
  refine rl_call F ent24 rfl rfl (of_spec (xs := ([2, 1, 7, 1] : List Int)) M Sz40 (by decide) (by decide)) ?_; clear F M a; rintro _ Gf39 w a hGf39 M ⟨af39, cf39, rfl, Sf39⟩ F
  replace HG := HG.mono hGf39
  replace Sf2 := Sf2.mono mono_rdPair hGf39
  replace Sf5 := Sf5.mono mono_rdPair hGf39
  replace Sf8 := Sf8.mono mono_rdPair hGf39
  replace Sf11 := Sf11.mono mono_rdPair hGf39
  replace Sf14 := Sf14.mono mono_rdPair hGf39
  replace Sf17 := Sf17.mono mono_rdPair hGf39
  replace Sm19 := Sm19.mono mono_rdPair hGf39
  replace Sf21 := Sf21.mono mono_rdPair hGf39
  replace Sp24 := Sp24.mono mono_rdPair hGf39
  replace Sp26 := Sp26.mono mono_rdPair hGf39
  replace Sp28 := Sp28.mono mono_rdPair hGf39
  replace Sf31 := Sf31.mono mono_rdPair hGf39
  replace Sf35 := Sf35.mono mono_rdPair hGf39
  replace Sy37 := Sy37.mono mono_rdPair hGf39
  replace Sz40 := Sz40.mono mono_rdI hGf39
  clear Sz40
  refine rl_guard_t F rfl rfl rfl rfl ?_
  have hs41 : ofI ([2, 1, 7, 1] : List Int) = y37 := hys.symm
  (try rw [hs41] at F)
  refine rl_callS F ent15 rfl rfl (same_spec (xs := y37) M Sy37 (by have h := Sf39; rw [hs41] at h; exact h) (by first | (rw [hys]; decide) | decide | kernel_rfl)) ?_; clear F M a; rintro _ w a M rfl F
  refine rl_run F (run_pick_t (F.ev rfl) rfl (F.ev rfl)) rfl ?_; clear F a; intro a F
  refine rl_run F (run_move (F.ev rfl)) rfl ?_; clear F a; intro a F
  refine rl_guard_t F rfl rfl rfl rfl ?_
  refine rl_run F (run_move (F.ev rfl)) rfl ?_; clear F a; intro a F
  refine rl_guard_t F rfl rfl rfl rfl ?_
  refine rl_run F (run_strEq (F.ev rfl) (F.ev rfl)) rfl ?_; clear F a; intro a F
  refine rl_run F (run_pick_t (F.ev rfl) rfl (F.ev rfl)) rfl ?_; clear F a; intro a F
  refine rl_run F (run_move (F.ev rfl)) rfl ?_; clear F a; intro a F
  have hg42 : (decide (([53, 32, 49, 48, 10, 55, 32, 50, 48, 10] : List UInt8) = ([53, 32, 49, 48, 10, 55, 32, 50, 48, 10] : List UInt8))) = true := (decide_eq_true (by rfl))
  refine rl_guard_t F rfl rfl rfl hg42 ?_
  refine rl_run F (run_move (F.ev rfl)) rfl ?_; clear F a; intro a F
  refine rl_guard_t F rfl rfl rfl hg42 ?_
  refine rl_run F (run_eqi (F.ev rfl) (F.ev rfl)) rfl ?_; clear F a; intro a F
  refine rl_run F (run_pick_t (F.ev rfl) hg42 (F.ev rfl)) rfl ?_; clear F a; intro a F
  refine rl_run F (run_move (F.ev rfl)) rfl ?_; clear F a; intro a F
  refine rl_guard_t F rfl rfl rfl (decide_eq_true (by decide)) ?_
  refine rl_run F (run_move (F.ev rfl)) rfl ?_; clear F a; intro a F
  refine rl_guard_t F rfl rfl rfl (decide_eq_true (by decide)) ?_
  refine rl_run F (run_eqi (F.ev rfl) (F.ev rfl)) rfl ?_; clear F a; intro a F
  refine rl_run F (run_pick_t (F.ev rfl) (decide_eq_true (by decide)) (F.ev rfl)) rfl ?_; clear F a; intro a F
  refine rl_run F (run_move (F.ev rfl)) rfl ?_; clear F a; intro a F
  refine rl_guard_t F rfl rfl rfl (decide_eq_true (by decide)) ?_
  refine rl_run F (run_move (F.ev rfl)) rfl ?_; clear F a; intro a F
  refine rl_guard_t F rfl rfl rfl (decide_eq_true (by decide)) ?_
  refine rl_run F (run_eqi (F.ev rfl) (F.ev rfl)) rfl ?_; clear F a; intro a F
  refine rl_run F (run_pick_t (F.ev rfl) (decide_eq_true (by decide)) (F.ev rfl)) rfl ?_; clear F a; intro a F
  refine rl_run F (run_move (F.ev rfl)) rfl ?_; clear F a; intro a F
  refine rl_guard_t F rfl rfl rfl (decide_eq_true (by decide)) ?_
  refine rl_run F (run_move (F.ev rfl)) rfl ?_; clear F a; intro a F
  refine rl_guard_t F rfl rfl rfl (decide_eq_true (by decide)) ?_
  refine rl_run F (run_eqi (F.ev rfl) (F.ev rfl)) rfl ?_; clear F a; intro a F
  refine rl_run F (run_pick_t (F.ev rfl) (decide_eq_true (by decide)) (F.ev rfl)) rfl ?_; clear F a; intro a F
  refine rl_run F (run_move (F.ev rfl)) rfl ?_; clear F a; intro a F
  refine rl_guard_t F rfl rfl rfl (decide_eq_true (by decide)) ?_
  refine rl_run F (run_move (F.ev rfl)) rfl ?_; clear F a; intro a F
  refine rl_guard_t F rfl rfl rfl (decide_eq_true (by decide)) ?_
  refine rl_run F (run_eqi (F.ev rfl) (F.ev rfl)) rfl ?_; clear F a; intro a F
  refine rl_run F (run_pick_t (F.ev rfl) (decide_eq_true (by decide)) (F.ev rfl)) rfl ?_; clear F a; intro a F
  refine rl_run F (run_move (F.ev rfl)) rfl ?_; clear F a; intro a F
  refine rl_guard_t F rfl rfl rfl (decide_eq_true (by decide)) ?_
  refine rl_run F (run_move (F.ev rfl)) rfl ?_; clear F a; intro a F
  refine rl_guard_t F rfl rfl rfl (decide_eq_true (by decide)) ?_
  refine rl_run F (run_eqi (F.ev rfl) (F.ev rfl)) rfl ?_; clear F a; intro a F
  refine rl_run F (run_pick_t (F.ev rfl) (decide_eq_true (by decide)) (F.ev rfl)) rfl ?_; clear F a; intro a F
  refine rl_run F (run_move (F.ev rfl)) rfl ?_; clear F a; intro a F
  refine rl_guard_t F rfl rfl rfl (decide_eq_true (by decide)) ?_
  refine rl_run F (run_move (F.ev rfl)) rfl ?_; clear F a; intro a F
  refine rl_guard_t F rfl rfl rfl (decide_eq_true (by decide)) ?_
  refine rl_run F (run_eqi (F.ev rfl) (F.ev rfl)) rfl ?_; clear F a; intro a F
  refine rl_run F (run_pick_t (F.ev rfl) (decide_eq_true (by decide)) (F.ev rfl)) rfl ?_; clear F a; intro a F
  refine rl_run F (run_assign (F.ev rfl)) rfl ?_; clear F a; intro a F
  refine rl_nil ?_
  refine q_tn ?_
  refine wp_ret ?_
  refine fin1 F rfl rfl ?_
  exact ⟨Gf39, ((((((((((((((((((((((((hGz3.trans hGf2).trans hGz6).trans hGf5).trans hGz9).trans hGf8).trans hGz12).trans hGf11).trans hGz15).trans hGf14).trans hGz18).trans hGf17).trans hGm19).trans hGz22).trans hGf21).trans hGp24).trans hGp26).trans hGp28).trans hGz32).trans hGf31).trans hGz36).trans hGf35).trans hGy37).trans hGz40).trans hGf39), M.weaken (List.Sublist.refl _), rfl⟩

theorem lives_spec {w0 w : World} {G : Ghost} {L : List Res} (M : Mem w0 G L w) (HG : Globs 0 1 4 5 G) : Calls Tryd.prog 10 #[] w (RetS w0 G L fun v => v = .bool true) := Ret.plain M (lives_ret M HG)

end Go.Proofs.YtokeofoemjeleaaDoor
