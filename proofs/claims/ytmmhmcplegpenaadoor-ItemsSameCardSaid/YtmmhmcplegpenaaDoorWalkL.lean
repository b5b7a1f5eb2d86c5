/- The walks, part L. -/
import Derived.Test.YtmmhmcplegpenaaDoorWalkV
namespace Go.Proofs.YtmmhmcplegpenaaDoor
open Go Go.Y Go.Proofs
set_option linter.unusedSimpArgs false
set_option linter.unusedVariables false
def x0F : ItemD := ⟨7, 2, [104, 105, 32, 116, 104, 101, 114, 101], [[97], [98]]⟩
theorem pair0 : pairF[0]? = some x0F := rfl
theorem pairOk : AllOk pairF := by decide
theorem tE : textE pairF = 0 := (text_ok (by decide) pairOk).1
theorem d7 : Lib.decDigits 7 = [55] := by rw [Lib.decDigits, dif_pos (by decide)]; rfl
theorem d2 : Lib.decDigits 2 = [50] := by rw [Lib.decDigits, dif_pos (by decide)]; rfl
theorem d8 : Lib.decDigits 8 = [56] := by rw [Lib.decDigits, dif_pos (by decide)]; rfl
theorem d0 : Lib.decDigits 0 = [48] := by rw [Lib.decDigits, dif_pos (by decide)]; rfl
theorem tF : textF pairF = ([55, 32, 50, 32, 97, 44, 98, 32, 104, 105, 32, 116, 104, 101, 114, 101, 10, 56, 32, 48, 32, 45, 32, 10] : List UInt8) := by
 unfold textF pairF
 simp only [List.map_cons, List.map_nil, lineF, d7, d2, d8, d0]
 rfl
theorem tR : textR pairF = ([55, 32, 50, 32, 97, 44, 98, 32, 104, 105, 32, 116, 104, 101, 114, 101, 10, 56, 32, 48, 32, 45, 32, 10] : List UInt8) := by rw [(text_ok (by decide) pairOk).2, tF]
theorem pL : parseF ([55, 32, 50, 32, 97, 44, 98, 32, 104, 105, 32, 116, 104, 101, 114, 101, 10, 56, 32, 48, 32, 45, 32, 10] : List UInt8) = (pairF, 0, 0) := by
 rw [← tF]; exact parse_textF pairOk (by decide) (by decide) (by rw [tF]; decide)
def badL : List (List UInt8) := [[56, 32, 48, 32, 45, 10], [48, 56, 32, 48, 32, 45, 32, 120, 10], [56, 32, 48, 32, 97, 44, 32, 120, 10], [56, 32, 48, 32, 45, 32, 120]]
theorem bad1 : parseF [56, 32, 48, 32, 45, 10] = ([], 1, 5) := (PInv.start (by decide)).bad (by decide) (Or.inr fun y hy => absurd (rd_flag hy) (by decide))
theorem bad2 : parseF [48, 56, 32, 48, 32, 45, 32, 120, 10] = ([], 1, 5) := (PInv.start (by decide)).bad (by decide) (Or.inr fun y hy => by
 obtain ⟨h1, h2⟩ := rd_head hy
 refine absurd ?_ (dec_head y.key (by omega))
 rw [← h1]; decide)
theorem bad3 : parseF [56, 32, 48, 32, 97, 44, 32, 120, 10] = ([], 1, 5) := (PInv.start (by decide)).bad (by decide) (Or.inr fun y hy => absurd (rd_marks hy) (by decide))
theorem bad4 : parseF [56, 32, 48, 32, 45, 32, 120] = ([], 1, 5) := (PInv.start (by decide)).bad (by decide) (Or.inl (by decide))
theorem bad_all : ∀ x ∈ badL, parseF x = ([], 1, 5) := by
 intro x hx
 simp only [badL, List.mem_cons, List.not_mem_nil, or_false] at hx
 rcases hx with rfl | rfl | rfl | rfl
 ·exact bad1
 ·exact bad2
 ·exact bad3
 ·exact bad4
def k4F : List ItemD := [⟨3, 0, [], []⟩, ⟨4, 0, [], []⟩, ⟨3, 0, [], []⟩, ⟨4, 0, [], []⟩]
theorem k4_tw : TwR k4F 2 true := by
 refine Or.inr ⟨rfl, ⟨⟨3, 0, [], []⟩, rfl, 0, ⟨3, 0, [], []⟩, by decide, rfl, rfl⟩, ?_⟩
 intro m y hm hy k z hk hz
 have hk0 : k = 0 := by omega
 have hm1 : m = 1 := by omega
 subst hk0 hm1
 simp only [k4F, List.getElem?_cons_zero, List.getElem?_cons_succ, Option.some.injEq] at hy hz
 subst hy hz
 decide
theorem k4_fd : FindR k4F 4 1 := by
 refine FindR.some (i := 1) (x := ⟨4, 0, [], []⟩) ?_ rfl rfl
 intro m y hm hy
 have hm0 : m = 0 := by omega
 subst hm0
 simp only [k4F, List.getElem?_cons_zero, Option.some.injEq] at hy
 subst hy
 decide
theorem lives_ret {w0 w : World} {G : Ghost} {L : List Res} (M : Mem w0 G L w) (HG : Globs 0 1 2 3 G) : Calls Tryd.prog 8 #[] w (Ret w0 G L fun _ v => v = .bool true) := by
 refine calls_start (vs := []) Tryd.func8 rfl (n := 111) rfl rfl ?_
 intro a F
 refine wp_seq <| w_reg <| rl_run F (run_assign (F.ev rfl)) rfl ?_; clear F a; intro a F
 refine rl_nil <| q_tn <| wp_seq <| w_reg <| rl_call F ent22 rfl rfl (pair_spec M) ?_; clear F M a; rintro _ Gq1 w a hGq1 M ⟨aq1, cq1, rfl, Sq1⟩ F
 replace HG := HG.mono hGq1
 obtain ⟨be2, oe2, _, Ie2, _, Ae2, hTe2⟩ := Sq1.at pair0
 obtain ⟨mae2, mce2, rfl, hke2, hte2, hxe2, hne2, SMe2⟩ := hTe2
 have hIe2 : (x0F.key < 18446744073709551616 ∧ x0F.typ < 256 ∧ x0F.text.length ≤ 9223372036854775807) := ⟨hke2, hte2, hxe2⟩
 refine rl_run F (run_indexI tok22.k tok30 (F.ev rfl) (F.ev rfl) (by omega) Ie2) rfl ?_; clear F a; intro a F
 refine rl_run F (run_loadA tok30 rfl (F.ev rfl) (cs := [.int .u64 (((x0F.key : Nat) : Int)), .int .u8 (((x0F.typ : Nat) : Int)), .string (str (x0F.text)), .slice (mae2) (x0F.marks.length) (mce2)]) rfl (M.cellsA Ae2 0 (by omega) rfl)) rfl ?_; clear F a; intro a F
 refine rl_alloc F M tok30 rfl rfl ?_; clear F M a; intro b3 w a M F
 refine rl_storeA F M tok30 (k := 0) rfl rfl rfl (us := [.int .u64 (((x0F.key : Nat) : Int)), .int .u8 (((x0F.typ : Nat) : Int)), .string (str (x0F.text)), .slice (mae2) (x0F.marks.length) (mce2)]) rfl rfl (by simp [Value.oneCell']) (by simp) ?_; clear F M a; intro w a M F
 change Mem w0 Gq1 (.blk b3 [.int .u64 (((x0F.key : Nat) : Int)), .int .u8 (((x0F.typ : Nat) : Int)), .string (str (x0F.text)), .slice (mae2) (x0F.marks.length) (mce2)] 30 :: L) _ at M
 refine rl_nil <| q_tn <| wp_seq <| w_reg <| rl_call F ent22 rfl rfl (pair_spec M) ?_; clear F M a; rintro _ Gq5 w a hGq5 M ⟨aq5, cq5, rfl, Sq5⟩ F
 replace HG := HG.mono hGq5
 replace Sq1 := Sq1.mono mono_rdItem hGq5
 replace Ae2 := Ae2.mono hGq5
 replace SMe2 := SMe2.mono mono_rdStr hGq5
 refine rl_callS F ent11 rfl rfl (text_spec (xs := pairF) M HG Sq5) ?_; clear F M a; rintro _ w a M rfl F
 refine rl_run F (run_move (F.ev rfl)) rfl ?_; clear F a; intro a F
 refine rl_run F (run_extract (v := .string (str (textR pairF))) (F.ev rfl) rfl) rfl ?_; clear F a; intro a F
 refine rl_run F (run_extract (v := .int .i64 (textE pairF)) (F.ev rfl) rfl) rfl ?_; clear F a; intro a F
 iterate 2 (refine rl_run F (run_assign (F.ev rfl)) rfl ?_; clear F a; intro a F)
 refine rl_nil <| q_tn <| wp_seq <| w_reg <| rl_call F ent13 rfl rfl (parse_spec (s := ([55, 32, 50, 32, 97, 44, 98, 32, 104, 105, 32, 116, 104, 101, 114, 101, 10, 56, 32, 48, 32, 45, 32, 10] : List UInt8)) M HG (by (first | decide | omega))) ?_; clear F M a; rintro _ Gq6 w a hGq6 M ⟨aq6, rfl, Sq6⟩ F
 replace HG := HG.mono hGq6
 replace Sq1 := Sq1.mono mono_rdItem hGq6
 replace Ae2 := Ae2.mono hGq6
 replace SMe2 := SMe2.mono mono_rdStr hGq6
 replace Sq5 := Sq5.mono mono_rdItem hGq6
 refine rl_run F (run_move (F.ev rfl)) rfl ?_; clear F a; intro a F
 refine rl_run F (run_extract (v := .slice (aq6) ((parseF ([55, 32, 50, 32, 97, 44, 98, 32, 104, 105, 32, 116, 104, 101, 114, 101, 10, 56, 32, 48, 32, 45, 32, 10] : List UInt8)).1.length) ((parseF ([55, 32, 50, 32, 97, 44, 98, 32, 104, 105, 32, 116, 104, 101, 114, 101, 10, 56, 32, 48, 32, 45, 32, 10] : List UInt8)).1.length)) (F.ev rfl) rfl) rfl ?_; clear F a; intro a F
 refine rl_run F (run_extract (v := .int .i64 ((((parseF ([55, 32, 50, 32, 97, 44, 98, 32, 104, 105, 32, 116, 104, 101, 114, 101, 10, 56, 32, 48, 32, 45, 32, 10] : List UInt8)).2.1 : Nat) : Int))) (F.ev rfl) rfl) rfl ?_; clear F a; intro a F
 refine rl_run F (run_extract (v := .int .i64 ((parseF ([55, 32, 50, 32, 97, 44, 98, 32, 104, 105, 32, 116, 104, 101, 114, 101, 10, 56, 32, 48, 32, 45, 32, 10] : List UInt8)).2.2)) (F.ev rfl) rfl) rfl ?_; clear F a; intro a F
 iterate 3 (refine rl_run F (run_assign (F.ev rfl)) rfl ?_; clear F a; intro a F)
 refine rl_nil <| q_tn ?_
 iterate 2 (refine wp_seq ?_)
 refine w_reg <| rl_run F (run_loadA tok30 rfl (F.ev rfl) (cs := [.int .u64 (((x0F.key : Nat) : Int)), .int .u8 (((x0F.typ : Nat) : Int)), .string (str (x0F.text)), .slice (mae2) (x0F.marks.length) (mce2)]) rfl (M.cellsL (k := 0) rfl rfl)) rfl ?_; clear F a; intro a F
 refine rl_callS F ent9 rfl rfl (check_spec (x := x0F) (t := 3) M hIe2 SMe2) ?_; clear F M a; rintro _ w a M rfl F
 refine rl_run F (run_nei (F.ev rfl) (F.ev rfl)) rfl ?_; clear F a; intro a F
 refine rl_run F (run_move (F.ev rfl)) rfl ?_; clear F a; intro a F
 have hg7 : (!(decide (itmF 3 x0F = 0))) = false := (not_f (decide_eq_true (by exact itmF_yes (by decide))))
 refine rl_guard_t F rfl rfl rfl hg7 ?_
 refine rl_run F (run_loadA tok30 rfl (F.ev rfl) (cs := [.int .u64 (((x0F.key : Nat) : Int)), .int .u8 (((x0F.typ : Nat) : Int)), .string (str (x0F.text)), .slice (mae2) (x0F.marks.length) (mce2)]) rfl (M.cellsL (k := 0) rfl rfl)) rfl ?_; clear F a; intro a F
 refine rl_guard_t F rfl rfl rfl hg7 ?_
 refine rl_callS F ent9 rfl rfl (check_spec (x := x0F) (t := 2) M hIe2 SMe2) ?_; clear F M a; rintro _ w a M rfl F
 refine rl_guard_t F rfl rfl rfl hg7 ?_
 refine rl_run F (run_nei (F.ev rfl) (F.ev rfl)) rfl ?_; clear F a; intro a F
 refine rl_run F (run_pick_f (F.ev rfl) hg7 (F.ev rfl)) rfl ?_; clear F a; intro a F
 refine rl_run F (run_move (F.ev rfl)) rfl ?_; clear F a; intro a F
 have hg8 : (!(decide (itmF 2 x0F = 6))) = false := (not_f (decide_eq_true (by exact itmF_no (by decide))))
 refine rl_guard_t F rfl rfl rfl hg8 ?_
 refine rl_run F (run_buildS (cs := [.int .u64 (0), .int .u8 (0), .string (str ([] : List UInt8)), .slice none (0) (0)]) (ps := []) tok30.k rfl tok30 (F.evp rfl) rfl) rfl ?_; clear F a; intro a F
 refine rl_guard_t F rfl rfl rfl hg8 ?_
 refine rl_callS F ent9 rfl rfl (check_spec (x := (⟨0, 0, [], []⟩ : ItemD)) (t := 8) M ⟨by decide, by decide, by decide⟩ RdSl.nil) ?_; clear F M a; rintro _ w a M rfl F
 refine rl_guard_t F rfl rfl rfl hg8 ?_
 refine rl_run F (run_nei (F.ev rfl) (F.ev rfl)) rfl ?_; clear F a; intro a F
 refine rl_run F (run_pick_f (F.ev rfl) hg8 (F.ev rfl)) rfl ?_; clear F a; intro a F
 refine rl_run F (run_move (F.ev rfl)) rfl ?_; clear F a; intro a F
 have hg9 : (!(decide (itmF 8 (⟨0, 0, [], []⟩ : ItemD) = 6))) = false := (not_f (decide_eq_true (by exact itmF_no (by decide))))
 refine rl_guard_t F rfl rfl rfl hg9 ?_
 refine rl_run F (run_move (F.ev rfl)) rfl ?_; clear F a; intro a F
 refine rl_guard_t F rfl rfl rfl hg9 ?_
 refine rl_run F (run_nei (F.ev rfl) (F.ev rfl)) rfl ?_; clear F a; intro a F
 refine rl_run F (run_pick_f (F.ev rfl) hg9 (F.ev rfl)) rfl ?_; clear F a; intro a F
 refine rl_run F (run_move (F.ev rfl)) rfl ?_; clear F a; intro a F
 have hg10 : (!(decide (textE pairF = 0))) = false := (not_f (decide_eq_true (by exact tE)))
 refine rl_guard_t F rfl rfl rfl hg10 ?_
 refine rl_run F (run_move (F.ev rfl)) rfl ?_; clear F a; intro a F
 refine rl_guard_t F rfl rfl rfl hg10 ?_
 refine rl_run F (run_strNe (F.ev rfl) (F.ev rfl)) rfl ?_; clear F a; intro a F
 refine rl_run F (run_pick_f (F.ev rfl) hg10 (F.ev rfl)) rfl ?_; clear F a; intro a F
 refine rl_run F (run_move (F.ev rfl)) rfl ?_; clear F a; intro a F
 have hg11 : (!(decide ((textR pairF) = ([55, 32, 50, 32, 97, 44, 98, 32, 104, 105, 32, 116, 104, 101, 114, 101, 10, 56, 32, 48, 32, 45, 32, 10] : List UInt8)))) = false := (not_f (decide_eq_true (by exact tR)))
 refine rl_guard_t F rfl rfl rfl hg11 ?_
 refine rl_run F (run_move (F.ev rfl)) rfl ?_; clear F a; intro a F
 refine rl_guard_t F rfl rfl rfl hg11 ?_
 refine rl_run F (run_nei (F.ev rfl) (F.ev rfl)) rfl ?_; clear F a; intro a F
 refine rl_run F (run_pick_f (F.ev rfl) hg11 (F.ev rfl)) rfl ?_; clear F a; intro a F
 refine rl_run F (run_move (F.ev rfl)) rfl ?_; clear F a; intro a F
 have hg12 : (!(decide ((parseF ([55, 32, 50, 32, 97, 44, 98, 32, 104, 105, 32, 116, 104, 101, 114, 101, 10, 56, 32, 48, 32, 45, 32, 10] : List UInt8)).2.2 = 0))) = false := (not_f (decide_eq_true (by rw [pL])))
 refine rl_guard_t F rfl rfl rfl hg12 ?_
 refine rl_run F (run_move (F.ev rfl)) rfl ?_; clear F a; intro a F
 refine rl_guard_t F rfl rfl rfl hg12 ?_
 refine rl_run F (run_nei (F.ev rfl) (F.ev rfl)) rfl ?_; clear F a; intro a F
 refine rl_run F (run_pick_f (F.ev rfl) hg12 (F.ev rfl)) rfl ?_; clear F a; intro a F
 refine rl_run F (run_move (F.ev rfl)) rfl ?_; clear F a; intro a F
 have hg13 : (!(decide ((((parseF ([55, 32, 50, 32, 97, 44, 98, 32, 104, 105, 32, 116, 104, 101, 114, 101, 10, 56, 32, 48, 32, 45, 32, 10] : List UInt8)).2.1 : Nat) : Int) = 0))) = false := (not_f (decide_eq_true (by (rw [pL]; rfl))))
 refine rl_guard_t F rfl rfl rfl hg13 ?_
 refine rl_run F (run_move (F.ev rfl)) rfl ?_; clear F a; intro a F
 refine rl_guard_t F rfl rfl rfl hg13 ?_
 refine rl_call F ent22 rfl rfl (pair_spec M) ?_; clear F M a; rintro _ Gq14 w a hGq14 M ⟨aq14, cq14, rfl, Sq14⟩ F
 replace HG := HG.mono hGq14
 replace Sq1 := Sq1.mono mono_rdItem hGq14
 replace Ae2 := Ae2.mono hGq14
 replace SMe2 := SMe2.mono mono_rdStr hGq14
 replace Sq5 := Sq5.mono mono_rdItem hGq14
 replace Sq6 := Sq6.mono mono_rdItem hGq14
 refine rl_guard_t F rfl rfl rfl hg13 ?_
 refine rl_callS F ent14 rfl rfl (rsameall_spec (xs := (parseF ([55, 32, 50, 32, 97, 44, 98, 32, 104, 105, 32, 116, 104, 101, 114, 101, 10, 56, 32, 48, 32, 45, 32, 10] : List UInt8)).1) (ys := pairF) M Sq6 Sq14) ?_; clear F M a; rintro _ w a M rfl F
 refine rl_guard_t F rfl rfl rfl hg13 ?_
 refine rl_run F (run_eqi (F.ev rfl) (F.ev rfl)) rfl ?_; clear F a; intro a F
 refine rl_run F (run_pick_f (F.ev rfl) hg13 (F.ev rfl)) rfl ?_; clear F a; intro a F
 refine rl_nil <| q_tn <| w_cond_f F rfl (decide_eq_false (by (rw [pL, if_pos rfl]; decide))) ?_
 refine wp_skip <| q_tn ?_
 iterate 2 (refine wp_seq ?_)
 refine w_reg <| rl_buildSliceN F M tok28.k tok9 (ps := [(0, .string (str ([56, 32, 48, 32, 45, 10] : List UInt8))), (1, .string (str ([48, 56, 32, 48, 32, 45, 32, 120, 10] : List UInt8))), (2, .string (str ([56, 32, 48, 32, 97, 44, 32, 120, 10] : List UInt8))), (3, .string (str ([56, 32, 48, 32, 45, 32, 120] : List UInt8)))]) (cs := [[.string (str ([56, 32, 48, 32, 45, 10] : List UInt8))], [.string (str ([48, 56, 32, 48, 32, 45, 32, 120, 10] : List UInt8))], [.string (str ([56, 32, 48, 32, 97, 44, 32, 120, 10] : List UInt8))], [.string (str ([56, 32, 48, 32, 45, 32, 120] : List UInt8))]]) (fl := [.string (str ([56, 32, 48, 32, 45, 10] : List UInt8)), .string (str ([48, 56, 32, 48, 32, 45, 32, 120, 10] : List UInt8)), .string (str ([56, 32, 48, 32, 97, 44, 32, 120, 10] : List UInt8)), .string (str ([56, 32, 48, 32, 45, 32, 120] : List UInt8))]) rfl rfl (by simp [Parts, Value.cells]) (by simp [ti9]) rfl (by simp [Value.oneCell']) (by decide) (by decide) rfl ?_; clear F M a; intro v15 w a M F
 obtain ⟨av15, cv15, rfl, hlev15, hcmv15, hlv15⟩ := M.row_shape (k := 0) rfl
 have Ef : Els rdStr 1 Gq14 [.string (str ([56, 32, 48, 32, 45, 10] : List UInt8)), .string (str ([48, 56, 32, 48, 32, 45, 32, 120, 10] : List UInt8)), .string (str ([56, 32, 48, 32, 97, 44, 32, 120, 10] : List UInt8)), .string (str ([56, 32, 48, 32, 45, 32, 120] : List UInt8))] badL := ⟨[.string (str [56, 32, 48, 32, 45, 10])], _, rfl, rfl, ⟨rfl, by decide⟩, ⟨[.string (str [48, 56, 32, 48, 32, 45, 32, 120, 10])], _, rfl, rfl, ⟨rfl, by decide⟩, ⟨[.string (str [56, 32, 48, 32, 97, 44, 32, 120, 10])], _, rfl, rfl, ⟨rfl, by decide⟩, ⟨[.string (str [56, 32, 48, 32, 45, 32, 120])], _, rfl, rfl, ⟨rfl, by decide⟩, rfl⟩⟩⟩⟩
 obtain ⟨hnz16, Gz16, az16, cz16, hGz16, hez16, Sz16, M⟩ := M.freeze_row mono_rdStr (k := 0) rfl Ef (by decide)
 clear hez16 az16 cz16
 replace HG := HG.mono hGz16
 replace Sq1 := Sq1.mono mono_rdItem hGz16
 replace Ae2 := Ae2.mono hGz16
 replace SMe2 := SMe2.mono mono_rdStr hGz16
 replace Sq5 := Sq5.mono mono_rdItem hGz16
 replace Sq6 := Sq6.mono mono_rdItem hGz16
 replace Sq14 := Sq14.mono mono_rdItem hGz16
 clear Ef
 refine rl_run F (run_lenSl tok28.k (F.ev rfl)) rfl ?_; clear F a; intro a F
 refine rl_run F (run_move (F.ev rfl)) rfl ?_; clear F a; intro a F
 refine rl_nil <| q_tn <| wp_block <| w_loopN (fun m a' w' => ∃ (i : Nat), m = 4 - i ∧ ∃ G17, Gle Gz16 G17 ∧ Fits 111 a' [(0, .bool false), (65, .slice (av15) (4) (cv15)), (66, .int .i64 (((4 : Nat) : Int))), (67, .int .i64 (((i : Nat) : Int)))] ∧ Mem w0 G17 (.blk b3 [.int .u64 (((x0F.key : Nat) : Int)), .int .u8 (((x0F.typ : Nat) : Int)), .string (str (x0F.text)), .slice (mae2) (x0F.marks.length) (mce2)] 30 :: L) w' ∧ (i ≤ 4)) _ ⟨0, rfl, Gz16, Gle.refl _, F.to ⟨rfl, rfl, rfl, rfl, trivial⟩, M, by omega⟩ ?_
 clear F M
 rintro m a w ⟨i, rfl, G17, hG17, F, M, hi⟩
 replace HG := HG.mono hG17
 replace Sq1 := Sq1.mono mono_rdItem hG17
 replace Ae2 := Ae2.mono hG17
 replace SMe2 := SMe2.mono mono_rdStr hG17
 replace Sq5 := Sq5.mono mono_rdItem hG17
 replace Sq6 := Sq6.mono mono_rdItem hG17
 replace Sq14 := Sq14.mono mono_rdItem hG17
 replace Sz16 := Sz16.mono mono_rdStr hG17
 refine wp_seq <| w_reg <| rl_run F (run_lss (F.ev rfl) (F.ev rfl)) rfl ?_; clear F a; intro a F
 refine rl_nil <| q_tn <| wp_seq <| w_cond F rfl ?_ ?_
 ·intro hc
  have h18b := hc; clear hc
  have h18 : ((i : Nat) : Int) < ((4 : Nat) : Int) := of_decide_eq_true h18b
  refine wp_skip <| q_tn <| wp_seq <| wp_block <| wp_seq <| w_reg ?_
  obtain ⟨Xe19, hXe19⟩ := get_of_lt (xs := badL) (i := i) (by (show i < 4; omega))
  obtain ⟨be19, oe19, _, Ie19, _, Ae19, ⟨rfl, hsle19⟩⟩ := Sz16.at hXe19
  refine rl_run F (run_indexI tok28.k tok9 (F.ev rfl) (F.ev rfl) (by omega) Ie19) rfl ?_; clear F a; intro a F
  refine rl_run F (run_load1 (agf tok9 rfl) (F.ev rfl) (M.cellA Ae19 0 (by omega) rfl)) rfl ?_; clear F a; intro a F
  refine rl_run F (run_assign (F.ev rfl)) rfl ?_; clear F a; intro a F
  refine rl_nil <| q_tn <| wp_seq <| w_reg <| rl_run F (run_move (F.ev rfl)) rfl ?_; clear F a; intro a F
  refine rl_call F ent13 rfl rfl (parse_spec (s := (Xe19)) M HG (by (first | decide | omega))) ?_; clear F M a; rintro _ Gq20 w a hGq20 M ⟨aq20, rfl, Sq20⟩ F
  replace HG := HG.mono hGq20
  replace Sq1 := Sq1.mono mono_rdItem hGq20
  replace Ae2 := Ae2.mono hGq20
  replace SMe2 := SMe2.mono mono_rdStr hGq20
  replace Sq5 := Sq5.mono mono_rdItem hGq20
  replace Sq6 := Sq6.mono mono_rdItem hGq20
  replace Sq14 := Sq14.mono mono_rdItem hGq20
  replace Sz16 := Sz16.mono mono_rdStr hGq20
  replace Ae19 := Ae19.mono hGq20
  refine rl_run F (run_move (F.ev rfl)) rfl ?_; clear F a; intro a F
  refine rl_run F (run_extract (v := .slice (aq20) ((parseF Xe19).1.length) ((parseF Xe19).1.length)) (F.ev rfl) rfl) rfl ?_; clear F a; intro a F
  refine rl_run F (run_extract (v := .int .i64 ((((parseF Xe19).2.1 : Nat) : Int))) (F.ev rfl) rfl) rfl ?_; clear F a; intro a F
  refine rl_run F (run_extract (v := .int .i64 ((parseF Xe19).2.2)) (F.ev rfl) rfl) rfl ?_; clear F a; intro a F
  iterate 3 (refine rl_run F (run_assign (F.ev rfl)) rfl ?_; clear F a; intro a F)
  refine rl_nil <| q_tn <| wp_seq <| w_reg <| rl_run F (run_move (F.ev rfl)) rfl ?_; clear F a; intro a F
  refine rl_run F (run_nei (F.ev rfl) (F.ev rfl)) rfl ?_; clear F a; intro a F
  refine rl_run F (run_move (F.ev rfl)) rfl ?_; clear F a; intro a F
  have hg21 : (!(decide ((((parseF Xe19).2.1 : Nat) : Int) = 1))) = false := (not_f (decide_eq_true (by exact (congrArg (fun q : List ItemD × Nat × Int => ((q.2.1 : Nat) : Int)) (bad_all _ (List.mem_of_getElem? hXe19))))))
  refine rl_guard_t F rfl rfl rfl hg21 ?_
  refine rl_run F (run_move (F.ev rfl)) rfl ?_; clear F a; intro a F
  refine rl_guard_t F rfl rfl rfl hg21 ?_
  refine rl_run F (run_nei (F.ev rfl) (F.ev rfl)) rfl ?_; clear F a; intro a F
  refine rl_run F (run_pick_f (F.ev rfl) hg21 (F.ev rfl)) rfl ?_; clear F a; intro a F
  refine rl_nil <| q_tn <| w_cond_f F rfl (not_f (decide_eq_true (by exact (congrArg (fun q : List ItemD × Nat × Int => q.2.2) (bad_all _ (List.mem_of_getElem? hXe19)))))) ?_
  refine wp_skip <| q_bn <| q_tn <| w_reg <| rl_run F (run_addi (F.ev rfl) (F.ev rfl) (in_i64 (by omega) (by omega))) rfl ?_; clear F a; intro a F
  refine rl_run F (run_move (F.ev rfl)) rfl ?_; clear F a; intro a F
  refine rl_nil <| q_tn ?_
  exact ⟨_, by omega, i + 1, rfl, Gq20, (hG17.trans hGq20), F.to ⟨rfl, rfl, rfl, rfl, trivial⟩, M, by omega⟩
 ·intro hc
  have h22b := hc; clear hc
  have h22 : ¬ (((i : Nat) : Int) < ((4 : Nat) : Int)) := of_decide_eq_false h22b
  refine wp_exit ?_
  iterate 2 (refine q_te ?_)
  refine q_bh <| q_tn <| wp_seq <| w_reg <| rl_run F (run_buildS (cs := [.int .u64 (3), .int .u8 (0), .string (str ([] : List UInt8)), .slice none (0) (0)]) (ps := [(0, .int .u64 (3))]) tok30.k rfl tok30 (F.evp rfl) rfl) rfl ?_; clear F a; intro a F
  refine rl_run F (run_buildS (cs := [.int .u64 (4), .int .u8 (0), .string (str ([] : List UInt8)), .slice none (0) (0)]) (ps := [(0, .int .u64 (4))]) tok30.k rfl tok30 (F.evp rfl) rfl) rfl ?_; clear F a; intro a F
  refine rl_run F (run_buildS (cs := [.int .u64 (3), .int .u8 (0), .string (str ([] : List UInt8)), .slice none (0) (0)]) (ps := [(0, .int .u64 (3))]) tok30.k rfl tok30 (F.evp rfl) rfl) rfl ?_; clear F a; intro a F
  refine rl_run F (run_buildS (cs := [.int .u64 (4), .int .u8 (0), .string (str ([] : List UInt8)), .slice none (0) (0)]) (ps := [(0, .int .u64 (4))]) tok30.k rfl tok30 (F.evp rfl) rfl) rfl ?_; clear F a; intro a F
  refine rl_buildSliceN F M tok22.k tok30 (ps := [(0, .agg #[.int .u64 (3), .int .u8 (0), .string (str ([] : List UInt8)), .slice none (0) (0)]), (1, .agg #[.int .u64 (4), .int .u8 (0), .string (str ([] : List UInt8)), .slice none (0) (0)]), (2, .agg #[.int .u64 (3), .int .u8 (0), .string (str ([] : List UInt8)), .slice none (0) (0)]), (3, .agg #[.int .u64 (4), .int .u8 (0), .string (str ([] : List UInt8)), .slice none (0) (0)])]) (cs := [[.int .u64 (3), .int .u8 (0), .string (str ([] : List UInt8)), .slice none (0) (0)], [.int .u64 (4), .int .u8 (0), .string (str ([] : List UInt8)), .slice none (0) (0)], [.int .u64 (3), .int .u8 (0), .string (str ([] : List UInt8)), .slice none (0) (0)], [.int .u64 (4), .int .u8 (0), .string (str ([] : List UInt8)), .slice none (0) (0)]]) (fl := [.int .u64 (3), .int .u8 (0), .string (str ([] : List UInt8)), .slice none (0) (0), .int .u64 (4), .int .u8 (0), .string (str ([] : List UInt8)), .slice none (0) (0), .int .u64 (3), .int .u8 (0), .string (str ([] : List UInt8)), .slice none (0) (0), .int .u64 (4), .int .u8 (0), .string (str ([] : List UInt8)), .slice none (0) (0)]) rfl rfl (by simp [Parts, Value.cells]) (by simp [ti30]) rfl (by simp [Value.oneCell']) (by decide) (by decide) rfl ?_; clear F M a; intro v23 w a M F
  obtain ⟨av23, cv23, rfl, hlev23, hcmv23, hlv23⟩ := M.row_shape (k := 0) rfl
  have Ef : Els rdItem 4 G17 [.int .u64 (3), .int .u8 (0), .string (str ([] : List UInt8)), .slice none (0) (0), .int .u64 (4), .int .u8 (0), .string (str ([] : List UInt8)), .slice none (0) (0), .int .u64 (3), .int .u8 (0), .string (str ([] : List UInt8)), .slice none (0) (0), .int .u64 (4), .int .u8 (0), .string (str ([] : List UInt8)), .slice none (0) (0)] k4F := ⟨[.int .u64 3, .int .u8 0, .string (str []), .slice none 0 0], _, rfl, rfl, ⟨none, 0, rfl, by decide, by decide, by decide, by decide, RdSl.nil⟩, ⟨[.int .u64 4, .int .u8 0, .string (str []), .slice none 0 0], _, rfl, rfl, ⟨none, 0, rfl, by decide, by decide, by decide, by decide, RdSl.nil⟩, ⟨[.int .u64 3, .int .u8 0, .string (str []), .slice none 0 0], _, rfl, rfl, ⟨none, 0, rfl, by decide, by decide, by decide, by decide, RdSl.nil⟩, ⟨[.int .u64 4, .int .u8 0, .string (str []), .slice none 0 0], _, rfl, rfl, ⟨none, 0, rfl, by decide, by decide, by decide, by decide, RdSl.nil⟩, rfl⟩⟩⟩⟩
  obtain ⟨hnz24, Gz24, az24, cz24, hGz24, hez24, Sz24, M⟩ := M.freeze_row mono_rdItem (k := 0) rfl Ef (by decide)
  clear hez24 az24 cz24
  replace HG := HG.mono hGz24
  replace Sq1 := Sq1.mono mono_rdItem hGz24
  replace Ae2 := Ae2.mono hGz24
  replace SMe2 := SMe2.mono mono_rdStr hGz24
  replace Sq5 := Sq5.mono mono_rdItem hGz24
  replace Sq6 := Sq6.mono mono_rdItem hGz24
  replace Sq14 := Sq14.mono mono_rdItem hGz24
  replace Sz16 := Sz16.mono mono_rdStr hGz24
  clear Ef
  refine rl_run F (run_assign (F.ev rfl)) rfl ?_; clear F a; intro a F
  refine rl_nil <| q_tn <| wp_seq <| w_reg <| rl_run F (run_move (F.ev rfl)) rfl ?_; clear F a; intro a F
  refine rl_callS F ent20 rfl rfl (twice_spec (xs := k4F) M Sz24) ?_; clear F M a; rintro _ w a M ⟨t25, bt25, rfl, ht25⟩ F
  refine rl_run F (run_move (F.ev rfl)) rfl ?_; clear F a; intro a F
  refine rl_run F (run_extract (v := .int .i64 (((t25 : Nat) : Int))) (F.ev rfl) rfl) rfl ?_; clear F a; intro a F
  refine rl_run F (run_extract (v := .bool (bt25)) (F.ev rfl) rfl) rfl ?_; clear F a; intro a F
  iterate 2 (refine rl_run F (run_assign (F.ev rfl)) rfl ?_; clear F a; intro a F)
  refine rl_nil <| q_tn <| wp_seq <| w_reg <| rl_run F (run_move (F.ev rfl)) rfl ?_; clear F a; intro a F
  refine rl_callS F ent18 rfl rfl (find_spec (xs := k4F) (k := 4) M Sz24) ?_; clear F M a; rintro _ w a M ⟨z26, rfl, hz26⟩ F
  refine rl_run F (run_move (F.ev rfl)) rfl ?_; clear F a; intro a F
  refine rl_run F (run_extract (v := .int .i64 (max z26 0)) (F.ev rfl) rfl) rfl ?_; clear F a; intro a F
  refine rl_run F (run_extract (v := .bool (decide (0 ≤ z26))) (F.ev rfl) rfl) rfl ?_; clear F a; intro a F
  iterate 2 (refine rl_run F (run_assign (F.ev rfl)) rfl ?_; clear F a; intro a F)
  refine rl_nil <| q_tn <| wp_seq ?_
  obtain ⟨q1, q2⟩ := ht25.uniq k4_tw
  have q3 := hz26.uniq k4_fd
  refine w_reg <| rl_run F (run_move (F.ev rfl)) rfl ?_; clear F a; intro a F
  refine rl_run F (run_eqi (F.ev rfl) (F.ev rfl)) rfl ?_; clear F a; intro a F
  refine rl_run F (run_move (F.ev rfl)) rfl ?_; clear F a; intro a F
  have hg27 : (decide (((t25 : Nat) : Int) = 2)) = true := (decide_eq_true (by omega))
  refine rl_guard_t F rfl rfl rfl hg27 ?_
  refine rl_run F (run_move (F.ev rfl)) rfl ?_; clear F a; intro a F
  refine rl_run F (run_pick_t (F.ev rfl) hg27 (F.ev rfl)) rfl ?_; clear F a; intro a F
  refine rl_run F (run_move (F.ev rfl)) rfl ?_; clear F a; intro a F
  have hg28 : (bt25) = true := (by exact q2)
  refine rl_guard_t F rfl rfl rfl hg28 ?_
  refine rl_run F (run_move (F.ev rfl)) rfl ?_; clear F a; intro a F
  refine rl_guard_t F rfl rfl rfl hg28 ?_
  refine rl_run F (run_eqi (F.ev rfl) (F.ev rfl)) rfl ?_; clear F a; intro a F
  refine rl_run F (run_pick_t (F.ev rfl) hg28 (F.ev rfl)) rfl ?_; clear F a; intro a F
  refine rl_run F (run_move (F.ev rfl)) rfl ?_; clear F a; intro a F
  have hg29 : (decide (max z26 0 = 1)) = true := (decide_eq_true (by omega))
  refine rl_guard_t F rfl rfl rfl hg29 ?_
  refine rl_run F (run_move (F.ev rfl)) rfl ?_; clear F a; intro a F
  refine rl_run F (run_pick_t (F.ev rfl) hg29 (F.ev rfl)) rfl ?_; clear F a; intro a F
  refine rl_run F (run_assign (F.ev rfl)) rfl ?_; clear F a; intro a F
  refine rl_nil <| q_tn <| wp_ret <| fin1 F rfl rfl ?_
  exact ⟨_, ((((((hGq1.trans hGq5).trans hGq6).trans hGq14).trans hGz16).trans hG17).trans hGz24), M.weaken (.cons _ (List.Sublist.refl _)), by rw [decide_eq_true (by omega)]⟩
theorem lives_spec {w0 w : World} {G : Ghost} {L : List Res} (M : Mem w0 G L w) (HG : Globs 0 1 2 3 G) : Calls Tryd.prog 8 #[] w (RetS w0 G L fun v => v = .bool true) := Ret.plain M (lives_ret M HG)
end Go.Proofs.YtmmhmcplegpenaaDoor
