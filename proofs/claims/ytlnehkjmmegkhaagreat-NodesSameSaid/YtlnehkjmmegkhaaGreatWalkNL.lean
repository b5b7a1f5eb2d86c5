/- The walks, part NL. -/
import Derived.Test.YtlnehkjmmegkhaaGreatWalkNX
import Derived.Test.YtlnehkjmmegkhaaGreatDcd
namespace Go.Proofs.YtlnehkjmmegkhaaGreat
open Go Go.Y Go.Proofs
set_option linter.unusedSimpArgs false
set_option linter.unusedVariables false
instance instLimA : DecidablePred LimA := fun x => by unfold LimA; infer_instance
def exD : NT := .mk 1 [100, 105, 118] [107] [⟨[105, 100], [97, 34, 98]⟩] [] [.mk 2 [] [] [] [120] [], .mk 1 [98, 114] [] [] [] []]
def exS : NT := .mk 1 [100, 105, 118] [] [⟨[105, 100], [97, 34, 98]⟩] [] [.mk 2 [] [] [] [120] [], .mk 1 [98, 114] [] [] [] []]
theorem exD_ok : Valid exD := by decide
theorem exS_ok : Valid exS := by decide
theorem exD_k : inKind .u8 exD.kind := ⟨by decide, by decide⟩
theorem exD_l : (exD.tag.length ≤ 9223372036854775807 ∧ exD.key.length ≤ 9223372036854775807 ∧ exD.text.length ≤ 9223372036854775807) := ⟨by decide, by decide, by decide⟩
theorem exD_text : chkF exD = 0 ∧ (if chkF exD = 0 then textN exD else []) = [60, 100, 105, 118, 58, 107, 32, 105, 100, 61, 34, 97, 92, 34, 98, 34, 62, 34, 120, 34, 60, 98, 114, 47, 62, 60, 47, 100, 105, 118, 62] := ⟨chkF_yes exD_ok, by rw [chkF_yes exD_ok, if_pos rfl]; rfl⟩
theorem exS_text : chkF exS = 0 ∧ (if chkF exS = 0 then textN exS else []) = [60, 100, 105, 118, 32, 105, 100, 61, 34, 97, 92, 34, 98, 34, 62, 34, 120, 34, 60, 98, 114, 47, 62, 60, 47, 100, 105, 118, 62] := ⟨chkF_yes exS_ok, by rw [chkF_yes exS_ok, if_pos rfl]; rfl⟩
theorem exD_strip : strF exD = exS := by rw [strF_yes exD_ok]; rfl
theorem exD_at : atN exD [0] = .mk 2 [] [] [] [120] [] ∧ atE exD [0] = 0 := ⟨(at_some exD_ok (y := .mk 2 [] [] [] [120] []) rfl).2, (at_some exD_ok (y := .mk 2 [] [] [] [120] []) rfl).1⟩
theorem exD_at2 : atN exD [1, 0] = zeroN ∧ atE exD [1, 0] = 11 := ⟨(at_none exD_ok rfl).2, (at_none exD_ok rfl).1⟩
theorem exD_cnt : cntF exD = 3 := by rw [cntF, if_pos exD_ok]; rfl
theorem exD_dep : depF exD = 2 := by rw [depF, if_pos exD_ok]; rfl
theorem zeroN_no : ¬ Valid zeroN := by decide
theorem ex_dup : ¬ Valid (.mk 1 [97] [] [⟨[98], []⟩, ⟨[98], []⟩] [] []) := by decide
theorem pars0 : parR [60, 97, 62, 60, 47, 97, 62] = (zeroN, 4, 5) := parR_err (e := (4, 5)) (by decide) (by rfl)
theorem pars1 : parR [60, 97, 47] = (zeroN, 3, 5) := parR_err (e := (3, 5)) (by decide) (by rfl)
theorem pars2 : parR [60, 97, 47, 62, 120] = (zeroN, 4, 5) := parR_rest (x := .mk 1 [97] [] [] [] []) (i := 4) (nd := 1) (by decide) (by rfl) (by decide)
theorem pars3 : parR [60, 97, 62, 34, 34, 60, 47, 98, 62] = (zeroN, 7, 5) := parR_err (e := (7, 5)) (by decide) (by rfl)
theorem pars4 : parR [60, 97, 32, 98, 61, 34, 34, 32, 98, 61, 34, 34, 47, 62] = (zeroN, 0, 14) := by
 rw [parR_bad (x := .mk 1 [97] [] [⟨[98], []⟩, ⟨[98], []⟩] [] []) (i := 14) (nd := 1) (by decide) (by rfl) (by decide) (by rw [chkF_no ex_dup]; decide), chkF_no ex_dup]
theorem pars5 : parR [] = (zeroN, 0, 5) := parR_err (e := (0, 5)) (by decide) (by rfl)
theorem parse_at {w0 w : World} {G : Ghost} {L : List Res} (M : Mem w0 G L w) {s : List UInt8} {y : NT} {i : Nat} {e : Int} (h : parR s = (y, i, e)) : Calls Tryz.prog 40 #[.string (str s)] w (Ret w0 G L fun G' v => ∃ a1 a2, v = .tuple #[.agg #[.int .u8 y.kind, .string (str y.tag), .string (str y.key), .slice a1 y.as.length y.as.length, .string (str y.text), .slice a2 y.kids.length y.kids.length], .int .i64 ((i : Nat) : Int), .int .i64 e] ∧ inKind .u8 y.kind ∧ (y.tag.length ≤ 9223372036854775807 ∧ y.key.length ≤ 9223372036854775807 ∧ y.text.length ≤ 9223372036854775807) ∧ RdSl rdAttr 2 G' (.slice a1 y.as.length y.as.length) y.as ∧ RdSl rdNE 6 G' (.slice a2 y.kids.length y.kids.length) y.kids) := by
 have := parse_spec (s := s) M
 rw [h] at this; exact this
theorem at_at {w0 w : World} {G : Ghost} {L : List Res} (M : Mem w0 G L w) {x : NT} {ta : Option Addr} {tc : Nat} {ka : Option Addr} {kc : Nat} (hk : inKind .u8 x.kind) (hl : (x.tag.length ≤ 9223372036854775807 ∧ x.key.length ≤ 9223372036854775807 ∧ x.text.length ≤ 9223372036854775807)) (SA : RdSl rdAttr 2 G (.slice ta x.as.length tc) x.as) (SK : RdSl rdN 6 G (.slice ka x.kids.length kc) x.kids) {pa : Option Addr} {pc : Nat} {ps : List Int} (SP : RdSl rdI 1 G (.slice pa ps.length pc) ps) {y : NT} {e : Int} (h : atN x ps = y ∧ atE x ps = e) : Calls Tryz.prog 15 #[.agg #[.int .u8 (x.kind), .string (str (x.tag)), .string (str (x.key)), .slice (ta) (x.as.length) (tc), .string (str (x.text)), .slice (ka) (x.kids.length) (kc)], .slice pa ps.length pc] w (Ret w0 G L fun G' v => ∃ a1 a2, v = .tuple #[.agg #[.int .u8 y.kind, .string (str y.tag), .string (str y.key), .slice a1 y.as.length y.as.length, .string (str y.text), .slice a2 y.kids.length y.kids.length], .int .i64 e] ∧ inKind .u8 y.kind ∧ (y.tag.length ≤ 9223372036854775807 ∧ y.key.length ≤ 9223372036854775807 ∧ y.text.length ≤ 9223372036854775807) ∧ RdSl rdAttr 2 G' (.slice a1 y.as.length y.as.length) y.as ∧ RdSl rdNE 6 G' (.slice a2 y.kids.length y.kids.length) y.kids) := by
 obtain ⟨rfl, rfl⟩ := h; exact at_spec M hk hl SA SK SP
theorem exD_spec {w0 w : World} {G : Ghost} {L : List Res} (M : Mem w0 G L w) : Calls Tryz.prog 52 #[] w (Ret w0 G L fun G' v => ∃ (ta ka : Option Addr) (tc kc : Nat), v = .agg #[.int .u8 (exD.kind), .string (str (exD.tag)), .string (str (exD.key)), .slice (ta) (exD.as.length) (tc), .string (str (exD.text)), .slice (ka) (exD.kids.length) (kc)] ∧ RdSl rdAttr 2 G' (.slice ta exD.as.length tc) exD.as ∧ RdSl rdN 6 G' (.slice ka exD.kids.length kc) exD.kids) := by
 refine calls_start (vs := []) Tryz.func52 rfl (n := 7) rfl rfl ?_
 intro a F
 refine wp_seq <| w_reg <| rl_alloc F M tok30 rfl rfl ?_; clear F M a; intro b1 w a M F
 refine rl_nil <| q_tn <| wp_seq <| w_reg <| rl_run F (run_buildS (cs := [.string (str ([105, 100] : List UInt8)), .string (str ([97, 34, 98] : List UInt8))]) (ps := [(0, .string (str ([105, 100] : List UInt8))), (1, .string (str ([97, 34, 98] : List UInt8)))]) tok87.k rfl tok87 (F.evp rfl) rfl) rfl ?_; clear F a; intro a F
 refine rl_buildSlice1 F M tok27.k tok87 rfl rfl (cs := [.string (str ([105, 100] : List UInt8)), .string (str ([97, 34, 98] : List UInt8))]) rfl rfl (by simp [Value.oneCell']) (by decide) rfl ?_; clear F M a; intro v3 w a M F
 obtain ⟨av3, cv3, rfl, hlev3, hcmv3, hlv3⟩ := M.row_shape (k := 0) rfl
 refine rl_run F (run_buildS (cs := [.int .u8 (2), .string (str ([] : List UInt8)), .string (str ([] : List UInt8)), .slice none (0) (0), .string (str ([120] : List UInt8)), .slice none (0) (0)]) (ps := [(0, .int .u8 (2)), (4, .string (str ([120] : List UInt8)))]) tok30.k rfl tok30 (F.evp rfl) rfl) rfl ?_; clear F a; intro a F
 have E4 : Els rdAttr 2 G [.string (str ([105, 100] : List UInt8)), .string (str ([97, 34, 98] : List UInt8))] [(⟨[105, 100], [97, 34, 98]⟩ : AttrD)] := Els.one ⟨rfl, by decide, by decide⟩ rfl
 obtain ⟨hnz5, Gz5, az5, cz5, hGz5, hez5, Sz5, M⟩ := M.freeze_row mono_rdAttr (k := 0) rfl E4 (by decide)
 clear hez5 az5 cz5
 clear hnz5
 refine rl_run F (run_buildS (cs := [.int .u8 (1), .string (str ([98, 114] : List UInt8)), .string (str ([] : List UInt8)), .slice none (0) (0), .string (str ([] : List UInt8)), .slice none (0) (0)]) (ps := [(0, .int .u8 (1)), (1, .string (str ([98, 114] : List UInt8)))]) tok30.k rfl tok30 (F.evp rfl) rfl) rfl ?_; clear F a; intro a F
 refine rl_buildSliceN F M tok28.k tok30 (ps := [(0, .agg #[.int .u8 (2), .string (str ([] : List UInt8)), .string (str ([] : List UInt8)), .slice none (0) (0), .string (str ([120] : List UInt8)), .slice none (0) (0)]), (1, .agg #[.int .u8 (1), .string (str ([98, 114] : List UInt8)), .string (str ([] : List UInt8)), .slice none (0) (0), .string (str ([] : List UInt8)), .slice none (0) (0)])]) (cs := [[.int .u8 (2), .string (str ([] : List UInt8)), .string (str ([] : List UInt8)), .slice none (0) (0), .string (str ([120] : List UInt8)), .slice none (0) (0)], [.int .u8 (1), .string (str ([98, 114] : List UInt8)), .string (str ([] : List UInt8)), .slice none (0) (0), .string (str ([] : List UInt8)), .slice none (0) (0)]]) (fl := [.int .u8 (2), .string (str ([] : List UInt8)), .string (str ([] : List UInt8)), .slice none (0) (0), .string (str ([120] : List UInt8)), .slice none (0) (0), .int .u8 (1), .string (str ([98, 114] : List UInt8)), .string (str ([] : List UInt8)), .slice none (0) (0), .string (str ([] : List UInt8)), .slice none (0) (0)]) rfl rfl (by simp [Parts, Value.cells]) (by simp [ti30]) rfl (by simp [Value.oneCell']) (by decide) (by decide) rfl ?_; clear F M a; intro v6 w a M F
 obtain ⟨av6, cv6, rfl, hlev6, hcmv6, hlv6⟩ := M.row_shape (k := 0) rfl
 have EX : Els rdN 6 Gz5 [.int .u8 (2), .string (str ([] : List UInt8)), .string (str ([] : List UInt8)), .slice none (0) (0), .string (str ([120] : List UInt8)), .slice none (0) (0), .int .u8 (1), .string (str ([98, 114] : List UInt8)), .string (str ([] : List UInt8)), .slice none (0) (0), .string (str ([] : List UInt8)), .slice none (0) (0)] exD.kids := Els.cons (c := [_, _, _, _, _, _]) (rdT_close (x := (.mk 2 [] [] [] [120] [] : NT)) ⟨by decide, by decide⟩ ⟨by decide, by decide, by decide⟩ RdSl.nil RdSl.nil) rfl (Els.one (rdT_close (x := (.mk 1 [98, 114] [] [] [] [] : NT)) ⟨by decide, by decide⟩ ⟨by decide, by decide, by decide⟩ RdSl.nil RdSl.nil) rfl)
 obtain ⟨hnz7, Gz7, az7, cz7, hGz7, hez7, Sz7, M⟩ := M.freeze_row mono_rdN (k := 0) rfl EX (by decide)
 clear hez7 az7 cz7
 replace Sz5 := Sz5.mono mono_rdAttr hGz7
 clear hnz7
 refine rl_run F (run_buildS (cs := [.int .u8 (1), .string (str ([100, 105, 118] : List UInt8)), .string (str ([107] : List UInt8)), .slice (av3) (1) (cv3), .string (str ([] : List UInt8)), .slice (av6) (2) (cv6)]) (ps := [(0, .int .u8 (1)), (1, .string (str ([100, 105, 118] : List UInt8))), (2, .string (str ([107] : List UInt8))), (3, .slice (av3) (1) (cv3)), (5, .slice (av6) (2) (cv6))]) tok30.k rfl tok30 (F.evp rfl) rfl) rfl ?_; clear F a; intro a F
 refine rl_storeA F M tok30 (k := 0) rfl rfl rfl (us := [.int .u8 (1), .string (str ([100, 105, 118] : List UInt8)), .string (str ([107] : List UInt8)), .slice (av3) (1) (cv3), .string (str ([] : List UInt8)), .slice (av6) (2) (cv6)]) rfl rfl (by simp [Value.oneCell']) (by simp) ?_; clear F M a; intro w a M F
 change Mem w0 Gz7 (.blk b1 [.int .u8 (1), .string (str ([100, 105, 118] : List UInt8)), .string (str ([107] : List UInt8)), .slice (av3) (1) (cv3), .string (str ([] : List UInt8)), .slice (av6) (2) (cv6)] 30 :: L) _ at M
 refine rl_nil <| q_tn <| wp_ret <| fin_c F M (k := 0) rfl rfl tok30 rfl rfl rfl ?_
 exact ⟨_, (hGz5.trans hGz7), M.weaken (.cons _ (List.Sublist.refl _)), _, _, _, _, rfl, Sz5, Sz7⟩
set_option maxRecDepth 4000 in
set_option maxHeartbeats 2000000 in
theorem nlives_ret {w0 w : World} {G : Ghost} {L : List Res} (M : Mem w0 G L w) : Calls Tryz.prog 13 #[] w (Ret w0 G L fun _ v => v = .bool true) := by
 refine calls_start (vs := []) Tryz.func13 rfl (n := 109) rfl rfl ?_
 intro a F
 refine wp_seq <| w_reg <| rl_run F (run_assign (F.ev rfl)) rfl ?_; clear F a; intro a F
 refine rl_nil <| q_tn <| wp_seq <| w_reg <| rl_call F ent52 rfl rfl (exD_spec M) ?_; clear F M a; rintro _ Gk1 w a hGk1 M ⟨tak1, kak1, tck1, kck1, rfl, SAk1, SKk1⟩ F
 refine rl_alloc F M tok30 rfl rfl ?_; clear F M a; intro b2 w a M F
 refine rl_storeA F M tok30 (k := 0) rfl rfl rfl (us := [.int .u8 (exD.kind), .string (str (exD.tag)), .string (str (exD.key)), .slice (tak1) (exD.as.length) (tck1), .string (str (exD.text)), .slice (kak1) (exD.kids.length) (kck1)]) rfl rfl (by simp [Value.oneCell']) (by simp) ?_; clear F M a; intro w a M F
 change Mem w0 Gk1 (.blk b2 [.int .u8 (exD.kind), .string (str (exD.tag)), .string (str (exD.key)), .slice (tak1) (exD.as.length) (tck1), .string (str (exD.text)), .slice (kak1) (exD.kids.length) (kck1)] 30 :: L) _ at M
 refine rl_nil <| q_tn <| wp_seq <| w_reg <| rl_run F (run_loadA tok30 rfl (F.ev rfl) (cs := [.int .u8 (exD.kind), .string (str (exD.tag)), .string (str (exD.key)), .slice (tak1) (exD.as.length) (tck1), .string (str (exD.text)), .slice (kak1) (exD.kids.length) (kck1)]) rfl (M.cellsL (k := 0) rfl rfl)) rfl ?_; clear F a; intro a F
 refine rl_callS F ent38 rfl rfl (ntextF_at (x := exD) (y := [60, 100, 105, 118, 58, 107, 32, 105, 100, 61, 34, 97, 92, 34, 98, 34, 62, 34, 120, 34, 60, 98, 114, 47, 62, 60, 47, 100, 105, 118, 62]) (e := 0) M exD_k exD_l SAk1 SKk1 exD_text) ?_; clear F M a; rintro _ w a M rfl F
 refine rl_run F (run_move (F.ev rfl)) rfl ?_; clear F a; intro a F
 refine rl_run F (run_extract (v := .string (str ([60, 100, 105, 118, 58, 107, 32, 105, 100, 61, 34, 97, 92, 34, 98, 34, 62, 34, 120, 34, 60, 98, 114, 47, 62, 60, 47, 100, 105, 118, 62] : List UInt8))) (F.ev rfl) rfl) rfl ?_; clear F a; intro a F
 refine rl_run F (run_extract (v := .int .i64 (0)) (F.ev rfl) rfl) rfl ?_; clear F a; intro a F
 iterate 2 (refine rl_run F (run_assign (F.ev rfl)) rfl ?_; clear F a; intro a F)
 refine rl_nil <| q_tn <| wp_seq <| w_reg <| rl_run F (run_loadA tok30 rfl (F.ev rfl) (cs := [.int .u8 (exD.kind), .string (str (exD.tag)), .string (str (exD.key)), .slice (tak1) (exD.as.length) (tck1), .string (str (exD.text)), .slice (kak1) (exD.kids.length) (kck1)]) rfl (M.cellsL (k := 0) rfl rfl)) rfl ?_; clear F a; intro a F
 refine rl_call F ent42 rfl rfl (strip_at (x := exD) (y := exS) M exD_k exD_l SAk1 SKk1 exD_strip) ?_; clear F M a; rintro _ Gk4 w a hGk4 M ⟨tak4, kak4, rfl, hkk4, hlk4, SAk4, SKk4⟩ F
 replace SAk1 := SAk1.mono mono_rdAttr hGk4
 replace SKk1 := SKk1.mono mono_rdN hGk4
 refine rl_callS F ent38 rfl rfl (ntextF_at (x := exS) (y := [60, 100, 105, 118, 32, 105, 100, 61, 34, 97, 92, 34, 98, 34, 62, 34, 120, 34, 60, 98, 114, 47, 62, 60, 47, 100, 105, 118, 62]) (e := 0) M hkk4 hlk4 SAk4 (weakN SKk4) exS_text) ?_; clear F M a; rintro _ w a M rfl F
 refine rl_run F (run_move (F.ev rfl)) rfl ?_; clear F a; intro a F
 refine rl_run F (run_extract (v := .string (str ([60, 100, 105, 118, 32, 105, 100, 61, 34, 97, 92, 34, 98, 34, 62, 34, 120, 34, 60, 98, 114, 47, 62, 60, 47, 100, 105, 118, 62] : List UInt8))) (F.ev rfl) rfl) rfl ?_; clear F a; intro a F
 refine rl_run F (run_extract (v := .int .i64 (0)) (F.ev rfl) rfl) rfl ?_; clear F a; intro a F
 iterate 2 (refine rl_run F (run_assign (F.ev rfl)) rfl ?_; clear F a; intro a F)
 refine rl_nil <| q_tn <| wp_seq <| w_reg <| rl_run F (run_loadA tok30 rfl (F.ev rfl) (cs := [.int .u8 (exD.kind), .string (str (exD.tag)), .string (str (exD.key)), .slice (tak1) (exD.as.length) (tck1), .string (str (exD.text)), .slice (kak1) (exD.kids.length) (kck1)]) rfl (M.cellsL (k := 0) rfl rfl)) rfl ?_; clear F a; intro a F
 refine rl_buildSlice1 F M tok25.k tok3 rfl rfl (cs := [.int .i64 (0)]) rfl rfl (by simp [Value.oneCell']) (by decide) rfl ?_; clear F M a; intro v5 w a M F
 obtain ⟨av5, cv5, rfl, hlev5, hcmv5, hlv5⟩ := M.row_shape (k := 0) rfl
 have E6 : Els rdI 1 Gk4 [.int .i64 (0)] [(0 : Int)] := Els.one ⟨rfl, ⟨by decide, by decide⟩⟩ rfl
 obtain ⟨hnz7, Gz7, az7, cz7, hGz7, hez7, Sz7, M⟩ := M.freeze_row mono_rdI (k := 0) rfl E6 (by decide)
 clear hez7 az7 cz7
 replace SAk1 := SAk1.mono mono_rdAttr hGz7
 replace SKk1 := SKk1.mono mono_rdN hGz7
 replace SAk4 := SAk4.mono mono_rdAttr hGz7
 replace SKk4 := SKk4.mono mono_rdNE hGz7
 clear hnz7
 refine rl_call F ent15 rfl rfl (at_at (x := exD) (ps := [(0 : Int)]) (y := (.mk 2 [] [] [] [120] [] : NT)) (e := 0) M exD_k exD_l SAk1 SKk1 Sz7 exD_at) ?_; clear F M a; rintro _ Gk8 w a hGk8 M ⟨tak8, kak8, rfl, hkk8, hlk8, SAk8, SKk8⟩ F
 replace SAk1 := SAk1.mono mono_rdAttr hGk8
 replace SKk1 := SKk1.mono mono_rdN hGk8
 replace SAk4 := SAk4.mono mono_rdAttr hGk8
 replace SKk4 := SKk4.mono mono_rdNE hGk8
 replace Sz7 := Sz7.mono mono_rdI hGk8
 refine rl_run F (run_move (F.ev rfl)) rfl ?_; clear F a; intro a F
 refine rl_run F (run_extract (v := .agg #[.int .u8 ((.mk 2 [] [] [] [120] [] : NT).kind), .string (str ((.mk 2 [] [] [] [120] [] : NT).tag)), .string (str ((.mk 2 [] [] [] [120] [] : NT).key)), .slice (tak8) ((.mk 2 [] [] [] [120] [] : NT).as.length) ((.mk 2 [] [] [] [120] [] : NT).as.length), .string (str ((.mk 2 [] [] [] [120] [] : NT).text)), .slice (kak8) ((.mk 2 [] [] [] [120] [] : NT).kids.length) ((.mk 2 [] [] [] [120] [] : NT).kids.length)]) (F.ev rfl) rfl) rfl ?_; clear F a; intro a F
 refine rl_run F (run_extract (v := .int .i64 (0)) (F.ev rfl) rfl) rfl ?_; clear F a; intro a F
 refine rl_alloc F M tok30 rfl rfl ?_; clear F M a; intro b9 w a M F
 refine rl_storeA F M tok30 (k := 0) rfl rfl rfl (us := [.int .u8 ((.mk 2 [] [] [] [120] [] : NT).kind), .string (str ((.mk 2 [] [] [] [120] [] : NT).tag)), .string (str ((.mk 2 [] [] [] [120] [] : NT).key)), .slice (tak8) ((.mk 2 [] [] [] [120] [] : NT).as.length) ((.mk 2 [] [] [] [120] [] : NT).as.length), .string (str ((.mk 2 [] [] [] [120] [] : NT).text)), .slice (kak8) ((.mk 2 [] [] [] [120] [] : NT).kids.length) ((.mk 2 [] [] [] [120] [] : NT).kids.length)]) rfl rfl (by simp [Value.oneCell']) (by simp) ?_; clear F M a; intro w a M F
 change Mem w0 Gk8 (.blk b9 [.int .u8 ((.mk 2 [] [] [] [120] [] : NT).kind), .string (str ((.mk 2 [] [] [] [120] [] : NT).tag)), .string (str ((.mk 2 [] [] [] [120] [] : NT).key)), .slice (tak8) ((.mk 2 [] [] [] [120] [] : NT).as.length) ((.mk 2 [] [] [] [120] [] : NT).as.length), .string (str ((.mk 2 [] [] [] [120] [] : NT).text)), .slice (kak8) ((.mk 2 [] [] [] [120] [] : NT).kids.length) ((.mk 2 [] [] [] [120] [] : NT).kids.length)] 30 :: .blk b2 [.int .u8 (exD.kind), .string (str (exD.tag)), .string (str (exD.key)), .slice (tak1) (exD.as.length) (tck1), .string (str (exD.text)), .slice (kak1) (exD.kids.length) (kck1)] 30 :: L) _ at M
 refine rl_run F (run_assign (F.ev rfl)) rfl ?_; clear F a; intro a F
 refine rl_nil <| q_tn <| wp_seq <| w_reg <| rl_run F (run_loadA tok30 rfl (F.ev rfl) (cs := [.int .u8 (exD.kind), .string (str (exD.tag)), .string (str (exD.key)), .slice (tak1) (exD.as.length) (tck1), .string (str (exD.text)), .slice (kak1) (exD.kids.length) (kck1)]) rfl (M.cellsL (k := 1) rfl rfl)) rfl ?_; clear F a; intro a F
 refine rl_buildSliceN F M tok25.k tok3 (ps := [(0, .int .i64 (1)), (1, .int .i64 (0))]) (cs := [[.int .i64 (1)], [.int .i64 (0)]]) (fl := [.int .i64 (1), .int .i64 (0)]) rfl rfl (by simp [Parts, Value.cells]) (by simp [ti3]) rfl (by simp [Value.oneCell']) (by decide) (by decide) rfl ?_; clear F M a; intro v11 w a M F
 obtain ⟨av11, cv11, rfl, hlev11, hcmv11, hlv11⟩ := M.row_shape (k := 0) rfl
 have E12 : Els rdI 1 Gk8 [.int .i64 (1), .int .i64 (0)] [(1 : Int), 0] := Els.cons (c := [_]) ⟨rfl, ⟨by decide, by decide⟩⟩ rfl (Els.one ⟨rfl, ⟨by decide, by decide⟩⟩ rfl)
 obtain ⟨hnz13, Gz13, az13, cz13, hGz13, hez13, Sz13, M⟩ := M.freeze_row mono_rdI (k := 0) rfl E12 (by decide)
 clear hez13 az13 cz13
 replace SAk1 := SAk1.mono mono_rdAttr hGz13
 replace SKk1 := SKk1.mono mono_rdN hGz13
 replace SAk4 := SAk4.mono mono_rdAttr hGz13
 replace SKk4 := SKk4.mono mono_rdNE hGz13
 replace Sz7 := Sz7.mono mono_rdI hGz13
 replace SAk8 := SAk8.mono mono_rdAttr hGz13
 replace SKk8 := SKk8.mono mono_rdNE hGz13
 clear hnz13
 refine rl_call F ent15 rfl rfl (at_at (x := exD) (ps := [(1 : Int), 0]) (y := zeroN) (e := 11) M exD_k exD_l SAk1 SKk1 Sz13 exD_at2) ?_; clear F M a; rintro _ Gk14 w a hGk14 M ⟨tak14, kak14, rfl, hkk14, hlk14, SAk14, SKk14⟩ F
 replace SAk1 := SAk1.mono mono_rdAttr hGk14
 replace SKk1 := SKk1.mono mono_rdN hGk14
 replace SAk4 := SAk4.mono mono_rdAttr hGk14
 replace SKk4 := SKk4.mono mono_rdNE hGk14
 replace Sz7 := Sz7.mono mono_rdI hGk14
 replace SAk8 := SAk8.mono mono_rdAttr hGk14
 replace SKk8 := SKk8.mono mono_rdNE hGk14
 replace Sz13 := Sz13.mono mono_rdI hGk14
 refine rl_run F (run_move (F.ev rfl)) rfl ?_; clear F a; intro a F
 refine rl_run F (run_extract (v := .agg #[.int .u8 (zeroN.kind), .string (str (zeroN.tag)), .string (str (zeroN.key)), .slice (tak14) (zeroN.as.length) (zeroN.as.length), .string (str (zeroN.text)), .slice (kak14) (zeroN.kids.length) (zeroN.kids.length)]) (F.ev rfl) rfl) rfl ?_; clear F a; intro a F
 refine rl_run F (run_extract (v := .int .i64 (11)) (F.ev rfl) rfl) rfl ?_; clear F a; intro a F
 refine rl_alloc F M tok30 rfl rfl ?_; clear F M a; intro b15 w a M F
 refine rl_storeA F M tok30 (k := 0) rfl rfl rfl (us := [.int .u8 (zeroN.kind), .string (str (zeroN.tag)), .string (str (zeroN.key)), .slice (tak14) (zeroN.as.length) (zeroN.as.length), .string (str (zeroN.text)), .slice (kak14) (zeroN.kids.length) (zeroN.kids.length)]) rfl rfl (by simp [Value.oneCell']) (by simp) ?_; clear F M a; intro w a M F
 change Mem w0 Gk14 (.blk b15 [.int .u8 (zeroN.kind), .string (str (zeroN.tag)), .string (str (zeroN.key)), .slice (tak14) (zeroN.as.length) (zeroN.as.length), .string (str (zeroN.text)), .slice (kak14) (zeroN.kids.length) (zeroN.kids.length)] 30 :: .blk b9 [.int .u8 ((.mk 2 [] [] [] [120] [] : NT).kind), .string (str ((.mk 2 [] [] [] [120] [] : NT).tag)), .string (str ((.mk 2 [] [] [] [120] [] : NT).key)), .slice (tak8) ((.mk 2 [] [] [] [120] [] : NT).as.length) ((.mk 2 [] [] [] [120] [] : NT).as.length), .string (str ((.mk 2 [] [] [] [120] [] : NT).text)), .slice (kak8) ((.mk 2 [] [] [] [120] [] : NT).kids.length) ((.mk 2 [] [] [] [120] [] : NT).kids.length)] 30 :: .blk b2 [.int .u8 (exD.kind), .string (str (exD.tag)), .string (str (exD.key)), .slice (tak1) (exD.as.length) (tck1), .string (str (exD.text)), .slice (kak1) (exD.kids.length) (kck1)] 30 :: L) _ at M
 refine rl_run F (run_assign (F.ev rfl)) rfl ?_; clear F a; intro a F
 refine rl_nil <| q_tn ?_
 iterate 2 (refine wp_seq ?_)
 refine w_reg ?_
 iterate 2 (refine rl_run F (run_move (F.ev rfl)) rfl ?_; clear F a; intro a F)
 refine rl_run F (run_addi (F.ev rfl) (F.ev rfl) (in_i64 (by omega) (by omega))) rfl ?_; clear F a; intro a F
 refine rl_run F (run_move (F.ev rfl)) rfl ?_; clear F a; intro a F
 refine rl_run F (run_addi (F.ev rfl) (F.ev rfl) (in_i64 (by omega) (by omega))) rfl ?_; clear F a; intro a F
 refine rl_run F (run_nei (F.ev rfl) (F.ev rfl)) rfl ?_; clear F a; intro a F
 refine rl_run F (run_move (F.ev rfl)) rfl ?_; clear F a; intro a F
 refine rl_guard_t F rfl rfl rfl (not_f (decide_eq_true (by decide))) ?_
 refine rl_run F (run_move (F.ev rfl)) rfl ?_; clear F a; intro a F
 refine rl_guard_t F rfl rfl rfl (not_f (decide_eq_true (by decide))) ?_
 refine rl_run F (run_nei (F.ev rfl) (F.ev rfl)) rfl ?_; clear F a; intro a F
 refine rl_run F (run_pick_f (F.ev rfl) (not_f (decide_eq_true (by decide))) (F.ev rfl)) rfl ?_; clear F a; intro a F
 refine rl_run F (run_move (F.ev rfl)) rfl ?_; clear F a; intro a F
 refine rl_guard_t F rfl rfl rfl (not_f (decide_eq_true (by decide))) ?_
 refine rl_run F (run_move (F.ev rfl)) rfl ?_; clear F a; intro a F
 refine rl_guard_t F rfl rfl rfl (not_f (decide_eq_true (by decide))) ?_
 refine rl_run F (run_strNe (F.ev rfl) (F.ev rfl)) rfl ?_; clear F a; intro a F
 refine rl_run F (run_pick_f (F.ev rfl) (not_f (decide_eq_true (by decide))) (F.ev rfl)) rfl ?_; clear F a; intro a F
 refine rl_run F (run_move (F.ev rfl)) rfl ?_; clear F a; intro a F
 refine rl_guard_t F rfl rfl rfl (by decide) ?_
 refine rl_run F (run_move (F.ev rfl)) rfl ?_; clear F a; intro a F
 refine rl_guard_t F rfl rfl rfl (by decide) ?_
 refine rl_run F (run_strNe (F.ev rfl) (F.ev rfl)) rfl ?_; clear F a; intro a F
 refine rl_run F (run_pick_f (F.ev rfl) (by decide) (F.ev rfl)) rfl ?_; clear F a; intro a F
 refine rl_run F (run_move (F.ev rfl)) rfl ?_; clear F a; intro a F
 refine rl_guard_t F rfl rfl rfl (by decide) ?_
 refine rl_run F (run_loadA tok30 rfl (F.ev rfl) (cs := [.int .u8 (exD.kind), .string (str (exD.tag)), .string (str (exD.key)), .slice (tak1) (exD.as.length) (tck1), .string (str (exD.text)), .slice (kak1) (exD.kids.length) (kck1)]) rfl (M.cellsL (k := 2) rfl rfl)) rfl ?_; clear F a; intro a F
 refine rl_guard_t F rfl rfl rfl (by decide) ?_
 refine rl_callS F ent17 rfl rfl (ncount_spec (x := exD) M exD_k exD_l SAk1 SKk1) ?_; clear F M a; rintro _ w a M rfl F
 rw [exD_cnt] at F
 refine rl_guard_t F rfl rfl rfl (by decide) ?_
 refine rl_run F (run_nei (F.ev rfl) (F.ev rfl)) rfl ?_; clear F a; intro a F
 refine rl_run F (run_pick_f (F.ev rfl) (by decide) (F.ev rfl)) rfl ?_; clear F a; intro a F
 refine rl_run F (run_move (F.ev rfl)) rfl ?_; clear F a; intro a F
 refine rl_guard_t F rfl rfl rfl (not_f (decide_eq_true (by decide))) ?_
 refine rl_run F (run_loadA tok30 rfl (F.ev rfl) (cs := [.int .u8 (exD.kind), .string (str (exD.tag)), .string (str (exD.key)), .slice (tak1) (exD.as.length) (tck1), .string (str (exD.text)), .slice (kak1) (exD.kids.length) (kck1)]) rfl (M.cellsL (k := 2) rfl rfl)) rfl ?_; clear F a; intro a F
 refine rl_guard_t F rfl rfl rfl (not_f (decide_eq_true (by decide))) ?_
 refine rl_callS F ent46 rfl rfl (ndepth_spec (x := exD) M exD_k exD_l SAk1 SKk1) ?_; clear F M a; rintro _ w a M rfl F
 rw [exD_dep] at F
 refine rl_guard_t F rfl rfl rfl (not_f (decide_eq_true (by decide))) ?_
 refine rl_run F (run_nei (F.ev rfl) (F.ev rfl)) rfl ?_; clear F a; intro a F
 refine rl_run F (run_pick_f (F.ev rfl) (not_f (decide_eq_true (by decide))) (F.ev rfl)) rfl ?_; clear F a; intro a F
 refine rl_run F (run_move (F.ev rfl)) rfl ?_; clear F a; intro a F
 refine rl_guard_t F rfl rfl rfl (not_f (decide_eq_true (by decide))) ?_
 refine rl_run F (run_fieldAddr tok30.k rfl rfl (F.ev rfl)) rfl ?_; clear F a; intro a F
 refine rl_guard_t F rfl rfl rfl (not_f (decide_eq_true (by decide))) ?_
 refine rl_run F (run_load1 (agf tok9 rfl) (F.ev rfl) (M.cellL (k := 1) rfl rfl)) rfl ?_; clear F a; intro a F
 refine rl_guard_t F rfl rfl rfl (not_f (decide_eq_true (by decide))) ?_
 refine rl_run F (run_strNe (F.ev rfl) (F.ev rfl)) rfl ?_; clear F a; intro a F
 refine rl_run F (run_pick_f (F.ev rfl) (not_f (decide_eq_true (by decide))) (F.ev rfl)) rfl ?_; clear F a; intro a F
 refine rl_run F (run_move (F.ev rfl)) rfl ?_; clear F a; intro a F
 refine rl_guard_t F rfl rfl rfl (by decide) ?_
 refine rl_run F (run_buildS (cs := [.int .u8 (0), .string (str ([] : List UInt8)), .string (str ([] : List UInt8)), .slice none (0) (0), .string (str ([] : List UInt8)), .slice none (0) (0)]) (ps := []) tok30.k rfl tok30 (F.evp rfl) rfl) rfl ?_; clear F a; intro a F
 refine rl_guard_t F rfl rfl rfl (by decide) ?_
 refine rl_callS F ent30 rfl rfl (ncheck_spec (x := zeroN) M zeroN_k zeroN_l RdSl.nil RdSl.nil) ?_; clear F M a; rintro _ w a M rfl F
 rw [chkF_no zeroN_no] at F
 refine rl_guard_t F rfl rfl rfl (by decide) ?_
 refine rl_run F (run_nei (F.ev rfl) (F.ev rfl)) rfl ?_; clear F a; intro a F
 refine rl_run F (run_pick_f (F.ev rfl) (by decide) (F.ev rfl)) rfl ?_; clear F a; intro a F
 refine rl_nil <| q_tn <| w_cond_f F rfl (not_f (decide_eq_true (by decide))) ?_
 refine wp_skip <| q_tn <| wp_seq <| w_reg <| rl_buildSliceN F M tok49.k tok9 (ps := [(0, .string (str ([60, 97, 62, 60, 47, 97, 62] : List UInt8))), (1, .string (str ([60, 97, 47] : List UInt8))), (2, .string (str ([60, 97, 47, 62, 120] : List UInt8))), (3, .string (str ([60, 97, 62, 34, 34, 60, 47, 98, 62] : List UInt8))), (4, .string (str ([60, 97, 32, 98, 61, 34, 34, 32, 98, 61, 34, 34, 47, 62] : List UInt8))), (5, .string (str ([] : List UInt8)))]) (cs := [[.string (str ([60, 97, 62, 60, 47, 97, 62] : List UInt8))], [.string (str ([60, 97, 47] : List UInt8))], [.string (str ([60, 97, 47, 62, 120] : List UInt8))], [.string (str ([60, 97, 62, 34, 34, 60, 47, 98, 62] : List UInt8))], [.string (str ([60, 97, 32, 98, 61, 34, 34, 32, 98, 61, 34, 34, 47, 62] : List UInt8))], [.string (str ([] : List UInt8))]]) (fl := [.string (str ([60, 97, 62, 60, 47, 97, 62] : List UInt8)), .string (str ([60, 97, 47] : List UInt8)), .string (str ([60, 97, 47, 62, 120] : List UInt8)), .string (str ([60, 97, 62, 34, 34, 60, 47, 98, 62] : List UInt8)), .string (str ([60, 97, 32, 98, 61, 34, 34, 32, 98, 61, 34, 34, 47, 62] : List UInt8)), .string (str ([] : List UInt8))]) rfl rfl (by simp [Parts, Value.cells]) (by simp [ti9]) rfl (by simp [Value.oneCell']) (by decide) (by decide) rfl ?_; clear F M a; intro v17 w a M F
 obtain ⟨av17, cv17, rfl, hlev17, hcmv17, hlv17⟩ := M.row_shape (k := 0) rfl
 have E18 : Els rdStr 1 Gk14 [.string (str ([60, 97, 62, 60, 47, 97, 62] : List UInt8)), .string (str ([60, 97, 47] : List UInt8)), .string (str ([60, 97, 47, 62, 120] : List UInt8)), .string (str ([60, 97, 62, 34, 34, 60, 47, 98, 62] : List UInt8)), .string (str ([60, 97, 32, 98, 61, 34, 34, 32, 98, 61, 34, 34, 47, 62] : List UInt8)), .string (str ([] : List UInt8))] [([60, 97, 62, 60, 47, 97, 62] : List UInt8), ([60, 97, 47] : List UInt8), ([60, 97, 47, 62, 120] : List UInt8), ([60, 97, 62, 34, 34, 60, 47, 98, 62] : List UInt8), ([60, 97, 32, 98, 61, 34, 34, 32, 98, 61, 34, 34, 47, 62] : List UInt8), ([] : List UInt8)] := Els.cons (c := [_]) ⟨rfl, by decide⟩ rfl (Els.cons (c := [_]) ⟨rfl, by decide⟩ rfl (Els.cons (c := [_]) ⟨rfl, by decide⟩ rfl (Els.cons (c := [_]) ⟨rfl, by decide⟩ rfl (Els.cons (c := [_]) ⟨rfl, by decide⟩ rfl (Els.one ⟨rfl, by decide⟩ rfl)))))
 obtain ⟨hnz19, Gz19, az19, cz19, hGz19, hez19, Sz19, M⟩ := M.freeze_row mono_rdStr (k := 0) rfl E18 (by decide)
 clear hez19 az19 cz19
 replace SAk1 := SAk1.mono mono_rdAttr hGz19
 replace SKk1 := SKk1.mono mono_rdN hGz19
 replace SAk4 := SAk4.mono mono_rdAttr hGz19
 replace SKk4 := SKk4.mono mono_rdNE hGz19
 replace Sz7 := Sz7.mono mono_rdI hGz19
 replace SAk8 := SAk8.mono mono_rdAttr hGz19
 replace SKk8 := SKk8.mono mono_rdNE hGz19
 replace Sz13 := Sz13.mono mono_rdI hGz19
 replace SAk14 := SAk14.mono mono_rdAttr hGz19
 replace SKk14 := SKk14.mono mono_rdNE hGz19
 clear hnz19
 refine rl_run F (run_assign (F.ev rfl)) rfl ?_; clear F a; intro a F
 refine rl_nil <| q_tn <| wp_seq <| w_reg <| rl_buildSliceN F M tok25.k tok3 (ps := [(0, .int .i64 (4)), (1, .int .i64 (3)), (2, .int .i64 (4)), (3, .int .i64 (7)), (4, .int .i64 (0)), (5, .int .i64 (0))]) (cs := [[.int .i64 (4)], [.int .i64 (3)], [.int .i64 (4)], [.int .i64 (7)], [.int .i64 (0)], [.int .i64 (0)]]) (fl := [.int .i64 (4), .int .i64 (3), .int .i64 (4), .int .i64 (7), .int .i64 (0), .int .i64 (0)]) rfl rfl (by simp [Parts, Value.cells]) (by simp [ti3]) rfl (by simp [Value.oneCell']) (by decide) (by decide) rfl ?_; clear F M a; intro v20 w a M F
 obtain ⟨av20, cv20, rfl, hlev20, hcmv20, hlv20⟩ := M.row_shape (k := 0) rfl
 have E21 : Els rdI 1 Gz19 [.int .i64 (4), .int .i64 (3), .int .i64 (4), .int .i64 (7), .int .i64 (0), .int .i64 (0)] [(4 : Int), 3, 4, 7, 0, 0] := Els.cons (c := [_]) ⟨rfl, ⟨by decide, by decide⟩⟩ rfl (Els.cons (c := [_]) ⟨rfl, ⟨by decide, by decide⟩⟩ rfl (Els.cons (c := [_]) ⟨rfl, ⟨by decide, by decide⟩⟩ rfl (Els.cons (c := [_]) ⟨rfl, ⟨by decide, by decide⟩⟩ rfl (Els.cons (c := [_]) ⟨rfl, ⟨by decide, by decide⟩⟩ rfl (Els.one ⟨rfl, ⟨by decide, by decide⟩⟩ rfl)))))
 obtain ⟨hnz22, Gz22, az22, cz22, hGz22, hez22, Sz22, M⟩ := M.freeze_row mono_rdI (k := 0) rfl E21 (by decide)
 clear hez22 az22 cz22
 replace SAk1 := SAk1.mono mono_rdAttr hGz22
 replace SKk1 := SKk1.mono mono_rdN hGz22
 replace SAk4 := SAk4.mono mono_rdAttr hGz22
 replace SKk4 := SKk4.mono mono_rdNE hGz22
 replace Sz7 := Sz7.mono mono_rdI hGz22
 replace SAk8 := SAk8.mono mono_rdAttr hGz22
 replace SKk8 := SKk8.mono mono_rdNE hGz22
 replace Sz13 := Sz13.mono mono_rdI hGz22
 replace SAk14 := SAk14.mono mono_rdAttr hGz22
 replace SKk14 := SKk14.mono mono_rdNE hGz22
 replace Sz19 := Sz19.mono mono_rdStr hGz22
 clear hnz22
 refine rl_run F (run_assign (F.ev rfl)) rfl ?_; clear F a; intro a F
 refine rl_nil <| q_tn ?_
 iterate 2 (refine wp_seq ?_)
 refine w_reg <| rl_run F (run_assign (F.ev rfl)) rfl ?_; clear F a; intro a F
 refine rl_nil <| q_tn <| wp_block <| w_unroll 7 ?_
 iterate 2 (refine wp_seq ?_)
 refine w_reg ?_
 iterate 2 (refine rl_run F (run_move (F.ev rfl)) rfl ?_; clear F a; intro a F)
 refine rl_run F (run_lenSl tok49.k (F.ev rfl)) rfl ?_; clear F a; intro a F
 refine rl_run F (run_lss (F.ev rfl) (F.ev rfl)) rfl ?_; clear F a; intro a F
 refine rl_nil <| q_tn <| w_cond_t F rfl (decide_eq_true (by decide)) ?_
 refine wp_skip <| q_tn <| wp_seq <| wp_block <| wp_seq <| w_reg ?_
 iterate 2 (refine rl_run F (run_move (F.ev rfl)) rfl ?_; clear F a; intro a F)
 obtain ⟨be23, oe23, _, Ie23, _, Ae23, ⟨rfl, hsle23⟩⟩ := Sz19.at (rfl : ([([60, 97, 62, 60, 47, 97, 62] : List UInt8), ([60, 97, 47] : List UInt8), ([60, 97, 47, 62, 120] : List UInt8), ([60, 97, 62, 34, 34, 60, 47, 98, 62] : List UInt8), ([60, 97, 32, 98, 61, 34, 34, 32, 98, 61, 34, 34, 47, 62] : List UInt8), ([] : List UInt8)])[0]? = some ([60, 97, 62, 60, 47, 97, 62] : List UInt8))
 refine rl_run F (run_indexI tok49.k tok9 (F.ev rfl) (F.ev rfl) (by omega) Ie23) rfl ?_; clear F a; intro a F
 refine rl_run F (run_load1 (agf tok9 rfl) (F.ev rfl) (M.cellA Ae23 0 (by omega) rfl)) rfl ?_; clear F a; intro a F
 refine rl_call F ent40 rfl rfl (parse_at (s := ([60, 97, 62, 60, 47, 97, 62] : List UInt8)) (y := zeroN) (i := 4) (e := 5) M pars0) ?_; clear F M a; rintro _ Gk24 w a hGk24 M ⟨tak24, kak24, rfl, hkk24, hlk24, SAk24, SKk24⟩ F
 replace SAk1 := SAk1.mono mono_rdAttr hGk24
 replace SKk1 := SKk1.mono mono_rdN hGk24
 replace SAk4 := SAk4.mono mono_rdAttr hGk24
 replace SKk4 := SKk4.mono mono_rdNE hGk24
 replace Sz7 := Sz7.mono mono_rdI hGk24
 replace SAk8 := SAk8.mono mono_rdAttr hGk24
 replace SKk8 := SKk8.mono mono_rdNE hGk24
 replace Sz13 := Sz13.mono mono_rdI hGk24
 replace SAk14 := SAk14.mono mono_rdAttr hGk24
 replace SKk14 := SKk14.mono mono_rdNE hGk24
 replace Sz19 := Sz19.mono mono_rdStr hGk24
 replace Sz22 := Sz22.mono mono_rdI hGk24
 replace Ae23 := Ae23.mono hGk24
 refine rl_run F (run_move (F.ev rfl)) rfl ?_; clear F a; intro a F
 refine rl_run F (run_extract (v := .agg #[.int .u8 (zeroN.kind), .string (str (zeroN.tag)), .string (str (zeroN.key)), .slice (tak24) (zeroN.as.length) (zeroN.as.length), .string (str (zeroN.text)), .slice (kak24) (zeroN.kids.length) (zeroN.kids.length)]) (F.ev rfl) rfl) rfl ?_; clear F a; intro a F
 refine rl_run F (run_extract (v := .int .i64 (((4 : Nat) : Int))) (F.ev rfl) rfl) rfl ?_; clear F a; intro a F
 refine rl_run F (run_extract (v := .int .i64 (5)) (F.ev rfl) rfl) rfl ?_; clear F a; intro a F
 refine rl_alloc F M tok30 rfl rfl ?_; clear F M a; intro b25 w a M F
 refine rl_storeA F M tok30 (k := 0) rfl rfl rfl (us := [.int .u8 (zeroN.kind), .string (str (zeroN.tag)), .string (str (zeroN.key)), .slice (tak24) (zeroN.as.length) (zeroN.as.length), .string (str (zeroN.text)), .slice (kak24) (zeroN.kids.length) (zeroN.kids.length)]) rfl rfl (by simp [Value.oneCell']) (by simp) ?_; clear F M a; intro w a M F
 change Mem w0 Gk24 (.blk b25 [.int .u8 (zeroN.kind), .string (str (zeroN.tag)), .string (str (zeroN.key)), .slice (tak24) (zeroN.as.length) (zeroN.as.length), .string (str (zeroN.text)), .slice (kak24) (zeroN.kids.length) (zeroN.kids.length)] 30 :: .blk b15 [.int .u8 (zeroN.kind), .string (str (zeroN.tag)), .string (str (zeroN.key)), .slice (tak14) (zeroN.as.length) (zeroN.as.length), .string (str (zeroN.text)), .slice (kak14) (zeroN.kids.length) (zeroN.kids.length)] 30 :: .blk b9 [.int .u8 ((.mk 2 [] [] [] [120] [] : NT).kind), .string (str ((.mk 2 [] [] [] [120] [] : NT).tag)), .string (str ((.mk 2 [] [] [] [120] [] : NT).key)), .slice (tak8) ((.mk 2 [] [] [] [120] [] : NT).as.length) ((.mk 2 [] [] [] [120] [] : NT).as.length), .string (str ((.mk 2 [] [] [] [120] [] : NT).text)), .slice (kak8) ((.mk 2 [] [] [] [120] [] : NT).kids.length) ((.mk 2 [] [] [] [120] [] : NT).kids.length)] 30 :: .blk b2 [.int .u8 (exD.kind), .string (str (exD.tag)), .string (str (exD.key)), .slice (tak1) (exD.as.length) (tck1), .string (str (exD.text)), .slice (kak1) (exD.kids.length) (kck1)] 30 :: L) _ at M
 iterate 2 (refine rl_run F (run_assign (F.ev rfl)) rfl ?_; clear F a; intro a F)
 refine rl_nil <| q_tn <| wp_seq <| w_reg <| rl_run F (run_assign (F.ev rfl)) rfl ?_; clear F a; intro a F
 refine rl_nil <| q_tn ?_
 iterate 2 (refine wp_seq ?_)
 refine w_reg <| rl_run F (run_move (F.ev rfl)) rfl ?_; clear F a; intro a F
 refine rl_run F (run_eqi (F.ev rfl) (F.ev rfl)) rfl ?_; clear F a; intro a F
 refine rl_nil <| q_tn <| w_cond_f F rfl (decide_eq_false (by decide)) ?_
 refine wp_skip <| q_tn <| wp_seq <| w_reg ?_
 iterate 3 (refine rl_run F (run_move (F.ev rfl)) rfl ?_; clear F a; intro a F)
 obtain ⟨be27, oe27, _, Ie27, _, Ae27, ⟨rfl, hbe271⟩⟩ := Sz22.at (rfl : ([(4 : Int), 3, 4, 7, 0, 0])[0]? = some (4 : Int))
 refine rl_run F (run_indexI tok25.k tok3 (F.ev rfl) (F.ev rfl) (by omega) Ie27) rfl ?_; clear F a; intro a F
 refine rl_run F (run_load1 (agf tok3 rfl) (F.ev rfl) (M.cellA Ae27 0 (by omega) rfl)) rfl ?_; clear F a; intro a F
 refine rl_run F (run_nei (F.ev rfl) (F.ev rfl)) rfl ?_; clear F a; intro a F
 refine rl_run F (run_move (F.ev rfl)) rfl ?_; clear F a; intro a F
 refine rl_guard_t F rfl rfl rfl (not_f (decide_eq_true (by decide))) ?_
 refine rl_run F (run_move (F.ev rfl)) rfl ?_; clear F a; intro a F
 refine rl_guard_t F rfl rfl rfl (not_f (decide_eq_true (by decide))) ?_
 refine rl_run F (run_move (F.ev rfl)) rfl ?_; clear F a; intro a F
 refine rl_guard_t F rfl rfl rfl (not_f (decide_eq_true (by decide))) ?_
 refine rl_run F (run_nei (F.ev rfl) (F.ev rfl)) rfl ?_; clear F a; intro a F
 refine rl_run F (run_pick_f (F.ev rfl) (not_f (decide_eq_true (by decide))) (F.ev rfl)) rfl ?_; clear F a; intro a F
 refine rl_nil <| q_tn <| w_cond_f F rfl (not_f (decide_eq_true (by decide))) ?_
 refine wp_skip <| q_bn <| q_tn <| w_reg <| rl_run F (run_move (F.ev rfl)) rfl ?_; clear F a; intro a F
 refine rl_run F (run_addi (F.ev rfl) (F.ev rfl) (in_i64 (by omega) (by omega))) rfl ?_; clear F a; intro a F
 refine rl_run F (run_assign (F.ev rfl)) rfl ?_; clear F a; intro a F
 refine rl_nil <| q_tn ?_
 iterate 2 (refine wp_seq ?_)
 refine w_reg ?_
 iterate 2 (refine rl_run F (run_move (F.ev rfl)) rfl ?_; clear F a; intro a F)
 refine rl_run F (run_lenSl tok49.k (F.ev rfl)) rfl ?_; clear F a; intro a F
 refine rl_run F (run_lss (F.ev rfl) (F.ev rfl)) rfl ?_; clear F a; intro a F
 refine rl_nil <| q_tn <| w_cond_t F rfl (decide_eq_true (by decide)) ?_
 refine wp_skip <| q_tn <| wp_seq <| wp_block <| wp_seq <| w_reg ?_
 iterate 2 (refine rl_run F (run_move (F.ev rfl)) rfl ?_; clear F a; intro a F)
 obtain ⟨be28, oe28, _, Ie28, _, Ae28, ⟨rfl, hsle28⟩⟩ := Sz19.at (rfl : ([([60, 97, 62, 60, 47, 97, 62] : List UInt8), ([60, 97, 47] : List UInt8), ([60, 97, 47, 62, 120] : List UInt8), ([60, 97, 62, 34, 34, 60, 47, 98, 62] : List UInt8), ([60, 97, 32, 98, 61, 34, 34, 32, 98, 61, 34, 34, 47, 62] : List UInt8), ([] : List UInt8)])[1]? = some ([60, 97, 47] : List UInt8))
 refine rl_run F (run_indexI tok49.k tok9 (F.ev rfl) (F.ev rfl) (by omega) Ie28) rfl ?_; clear F a; intro a F
 refine rl_run F (run_load1 (agf tok9 rfl) (F.ev rfl) (M.cellA Ae28 0 (by omega) rfl)) rfl ?_; clear F a; intro a F
 refine rl_call F ent40 rfl rfl (parse_at (s := ([60, 97, 47] : List UInt8)) (y := zeroN) (i := 3) (e := 5) M pars1) ?_; clear F M a; rintro _ Gk29 w a hGk29 M ⟨tak29, kak29, rfl, hkk29, hlk29, SAk29, SKk29⟩ F
 replace SAk1 := SAk1.mono mono_rdAttr hGk29
 replace SKk1 := SKk1.mono mono_rdN hGk29
 replace SAk4 := SAk4.mono mono_rdAttr hGk29
 replace SKk4 := SKk4.mono mono_rdNE hGk29
 replace Sz7 := Sz7.mono mono_rdI hGk29
 replace SAk8 := SAk8.mono mono_rdAttr hGk29
 replace SKk8 := SKk8.mono mono_rdNE hGk29
 replace Sz13 := Sz13.mono mono_rdI hGk29
 replace SAk14 := SAk14.mono mono_rdAttr hGk29
 replace SKk14 := SKk14.mono mono_rdNE hGk29
 replace Sz19 := Sz19.mono mono_rdStr hGk29
 replace Sz22 := Sz22.mono mono_rdI hGk29
 replace Ae23 := Ae23.mono hGk29
 replace SAk24 := SAk24.mono mono_rdAttr hGk29
 replace SKk24 := SKk24.mono mono_rdNE hGk29
 replace Ae27 := Ae27.mono hGk29
 replace Ae28 := Ae28.mono hGk29
 refine rl_run F (run_move (F.ev rfl)) rfl ?_; clear F a; intro a F
 refine rl_run F (run_extract (v := .agg #[.int .u8 (zeroN.kind), .string (str (zeroN.tag)), .string (str (zeroN.key)), .slice (tak29) (zeroN.as.length) (zeroN.as.length), .string (str (zeroN.text)), .slice (kak29) (zeroN.kids.length) (zeroN.kids.length)]) (F.ev rfl) rfl) rfl ?_; clear F a; intro a F
 refine rl_run F (run_extract (v := .int .i64 (((3 : Nat) : Int))) (F.ev rfl) rfl) rfl ?_; clear F a; intro a F
 refine rl_run F (run_extract (v := .int .i64 (5)) (F.ev rfl) rfl) rfl ?_; clear F a; intro a F
 refine rl_alloc F M tok30 rfl rfl ?_; clear F M a; intro b30 w a M F
 refine rl_storeA F M tok30 (k := 0) rfl rfl rfl (us := [.int .u8 (zeroN.kind), .string (str (zeroN.tag)), .string (str (zeroN.key)), .slice (tak29) (zeroN.as.length) (zeroN.as.length), .string (str (zeroN.text)), .slice (kak29) (zeroN.kids.length) (zeroN.kids.length)]) rfl rfl (by simp [Value.oneCell']) (by simp) ?_; clear F M a; intro w a M F
 change Mem w0 Gk29 (.blk b30 [.int .u8 (zeroN.kind), .string (str (zeroN.tag)), .string (str (zeroN.key)), .slice (tak29) (zeroN.as.length) (zeroN.as.length), .string (str (zeroN.text)), .slice (kak29) (zeroN.kids.length) (zeroN.kids.length)] 30 :: .blk b25 [.int .u8 (zeroN.kind), .string (str (zeroN.tag)), .string (str (zeroN.key)), .slice (tak24) (zeroN.as.length) (zeroN.as.length), .string (str (zeroN.text)), .slice (kak24) (zeroN.kids.length) (zeroN.kids.length)] 30 :: .blk b15 [.int .u8 (zeroN.kind), .string (str (zeroN.tag)), .string (str (zeroN.key)), .slice (tak14) (zeroN.as.length) (zeroN.as.length), .string (str (zeroN.text)), .slice (kak14) (zeroN.kids.length) (zeroN.kids.length)] 30 :: .blk b9 [.int .u8 ((.mk 2 [] [] [] [120] [] : NT).kind), .string (str ((.mk 2 [] [] [] [120] [] : NT).tag)), .string (str ((.mk 2 [] [] [] [120] [] : NT).key)), .slice (tak8) ((.mk 2 [] [] [] [120] [] : NT).as.length) ((.mk 2 [] [] [] [120] [] : NT).as.length), .string (str ((.mk 2 [] [] [] [120] [] : NT).text)), .slice (kak8) ((.mk 2 [] [] [] [120] [] : NT).kids.length) ((.mk 2 [] [] [] [120] [] : NT).kids.length)] 30 :: .blk b2 [.int .u8 (exD.kind), .string (str (exD.tag)), .string (str (exD.key)), .slice (tak1) (exD.as.length) (tck1), .string (str (exD.text)), .slice (kak1) (exD.kids.length) (kck1)] 30 :: L) _ at M
 iterate 2 (refine rl_run F (run_assign (F.ev rfl)) rfl ?_; clear F a; intro a F)
 refine rl_nil <| q_tn <| wp_seq <| w_reg <| rl_run F (run_assign (F.ev rfl)) rfl ?_; clear F a; intro a F
 refine rl_nil <| q_tn ?_
 iterate 2 (refine wp_seq ?_)
 refine w_reg <| rl_run F (run_move (F.ev rfl)) rfl ?_; clear F a; intro a F
 refine rl_run F (run_eqi (F.ev rfl) (F.ev rfl)) rfl ?_; clear F a; intro a F
 refine rl_nil <| q_tn <| w_cond_f F rfl (decide_eq_false (by decide)) ?_
 refine wp_skip <| q_tn <| wp_seq <| w_reg ?_
 iterate 3 (refine rl_run F (run_move (F.ev rfl)) rfl ?_; clear F a; intro a F)
 obtain ⟨be32, oe32, _, Ie32, _, Ae32, ⟨rfl, hbe321⟩⟩ := Sz22.at (rfl : ([(4 : Int), 3, 4, 7, 0, 0])[1]? = some (3 : Int))
 refine rl_run F (run_indexI tok25.k tok3 (F.ev rfl) (F.ev rfl) (by omega) Ie32) rfl ?_; clear F a; intro a F
 refine rl_run F (run_load1 (agf tok3 rfl) (F.ev rfl) (M.cellA Ae32 0 (by omega) rfl)) rfl ?_; clear F a; intro a F
 refine rl_run F (run_nei (F.ev rfl) (F.ev rfl)) rfl ?_; clear F a; intro a F
 refine rl_run F (run_move (F.ev rfl)) rfl ?_; clear F a; intro a F
 refine rl_guard_t F rfl rfl rfl (not_f (decide_eq_true (by decide))) ?_
 refine rl_run F (run_move (F.ev rfl)) rfl ?_; clear F a; intro a F
 refine rl_guard_t F rfl rfl rfl (not_f (decide_eq_true (by decide))) ?_
 refine rl_run F (run_move (F.ev rfl)) rfl ?_; clear F a; intro a F
 refine rl_guard_t F rfl rfl rfl (not_f (decide_eq_true (by decide))) ?_
 refine rl_run F (run_nei (F.ev rfl) (F.ev rfl)) rfl ?_; clear F a; intro a F
 refine rl_run F (run_pick_f (F.ev rfl) (not_f (decide_eq_true (by decide))) (F.ev rfl)) rfl ?_; clear F a; intro a F
 refine rl_nil <| q_tn <| w_cond_f F rfl (not_f (decide_eq_true (by decide))) ?_
 refine wp_skip <| q_bn <| q_tn <| w_reg <| rl_run F (run_move (F.ev rfl)) rfl ?_; clear F a; intro a F
 refine rl_run F (run_addi (F.ev rfl) (F.ev rfl) (in_i64 (by omega) (by omega))) rfl ?_; clear F a; intro a F
 refine rl_run F (run_assign (F.ev rfl)) rfl ?_; clear F a; intro a F
 refine rl_nil <| q_tn ?_
 iterate 2 (refine wp_seq ?_)
 refine w_reg ?_
 iterate 2 (refine rl_run F (run_move (F.ev rfl)) rfl ?_; clear F a; intro a F)
 refine rl_run F (run_lenSl tok49.k (F.ev rfl)) rfl ?_; clear F a; intro a F
 refine rl_run F (run_lss (F.ev rfl) (F.ev rfl)) rfl ?_; clear F a; intro a F
 refine rl_nil <| q_tn <| w_cond_t F rfl (decide_eq_true (by decide)) ?_
 refine wp_skip <| q_tn <| wp_seq <| wp_block <| wp_seq <| w_reg ?_
 iterate 2 (refine rl_run F (run_move (F.ev rfl)) rfl ?_; clear F a; intro a F)
 obtain ⟨be33, oe33, _, Ie33, _, Ae33, ⟨rfl, hsle33⟩⟩ := Sz19.at (rfl : ([([60, 97, 62, 60, 47, 97, 62] : List UInt8), ([60, 97, 47] : List UInt8), ([60, 97, 47, 62, 120] : List UInt8), ([60, 97, 62, 34, 34, 60, 47, 98, 62] : List UInt8), ([60, 97, 32, 98, 61, 34, 34, 32, 98, 61, 34, 34, 47, 62] : List UInt8), ([] : List UInt8)])[2]? = some ([60, 97, 47, 62, 120] : List UInt8))
 refine rl_run F (run_indexI tok49.k tok9 (F.ev rfl) (F.ev rfl) (by omega) Ie33) rfl ?_; clear F a; intro a F
 refine rl_run F (run_load1 (agf tok9 rfl) (F.ev rfl) (M.cellA Ae33 0 (by omega) rfl)) rfl ?_; clear F a; intro a F
 refine rl_call F ent40 rfl rfl (parse_at (s := ([60, 97, 47, 62, 120] : List UInt8)) (y := zeroN) (i := 4) (e := 5) M pars2) ?_; clear F M a; rintro _ Gk34 w a hGk34 M ⟨tak34, kak34, rfl, hkk34, hlk34, SAk34, SKk34⟩ F
 replace SAk1 := SAk1.mono mono_rdAttr hGk34
 replace SKk1 := SKk1.mono mono_rdN hGk34
 replace SAk4 := SAk4.mono mono_rdAttr hGk34
 replace SKk4 := SKk4.mono mono_rdNE hGk34
 replace Sz7 := Sz7.mono mono_rdI hGk34
 replace SAk8 := SAk8.mono mono_rdAttr hGk34
 replace SKk8 := SKk8.mono mono_rdNE hGk34
 replace Sz13 := Sz13.mono mono_rdI hGk34
 replace SAk14 := SAk14.mono mono_rdAttr hGk34
 replace SKk14 := SKk14.mono mono_rdNE hGk34
 replace Sz19 := Sz19.mono mono_rdStr hGk34
 replace Sz22 := Sz22.mono mono_rdI hGk34
 replace Ae23 := Ae23.mono hGk34
 replace SAk24 := SAk24.mono mono_rdAttr hGk34
 replace SKk24 := SKk24.mono mono_rdNE hGk34
 replace Ae27 := Ae27.mono hGk34
 replace Ae28 := Ae28.mono hGk34
 replace SAk29 := SAk29.mono mono_rdAttr hGk34
 replace SKk29 := SKk29.mono mono_rdNE hGk34
 replace Ae32 := Ae32.mono hGk34
 replace Ae33 := Ae33.mono hGk34
 refine rl_run F (run_move (F.ev rfl)) rfl ?_; clear F a; intro a F
 refine rl_run F (run_extract (v := .agg #[.int .u8 (zeroN.kind), .string (str (zeroN.tag)), .string (str (zeroN.key)), .slice (tak34) (zeroN.as.length) (zeroN.as.length), .string (str (zeroN.text)), .slice (kak34) (zeroN.kids.length) (zeroN.kids.length)]) (F.ev rfl) rfl) rfl ?_; clear F a; intro a F
 refine rl_run F (run_extract (v := .int .i64 (((4 : Nat) : Int))) (F.ev rfl) rfl) rfl ?_; clear F a; intro a F
 refine rl_run F (run_extract (v := .int .i64 (5)) (F.ev rfl) rfl) rfl ?_; clear F a; intro a F
 refine rl_alloc F M tok30 rfl rfl ?_; clear F M a; intro b35 w a M F
 refine rl_storeA F M tok30 (k := 0) rfl rfl rfl (us := [.int .u8 (zeroN.kind), .string (str (zeroN.tag)), .string (str (zeroN.key)), .slice (tak34) (zeroN.as.length) (zeroN.as.length), .string (str (zeroN.text)), .slice (kak34) (zeroN.kids.length) (zeroN.kids.length)]) rfl rfl (by simp [Value.oneCell']) (by simp) ?_; clear F M a; intro w a M F
 change Mem w0 Gk34 (.blk b35 [.int .u8 (zeroN.kind), .string (str (zeroN.tag)), .string (str (zeroN.key)), .slice (tak34) (zeroN.as.length) (zeroN.as.length), .string (str (zeroN.text)), .slice (kak34) (zeroN.kids.length) (zeroN.kids.length)] 30 :: .blk b30 [.int .u8 (zeroN.kind), .string (str (zeroN.tag)), .string (str (zeroN.key)), .slice (tak29) (zeroN.as.length) (zeroN.as.length), .string (str (zeroN.text)), .slice (kak29) (zeroN.kids.length) (zeroN.kids.length)] 30 :: .blk b25 [.int .u8 (zeroN.kind), .string (str (zeroN.tag)), .string (str (zeroN.key)), .slice (tak24) (zeroN.as.length) (zeroN.as.length), .string (str (zeroN.text)), .slice (kak24) (zeroN.kids.length) (zeroN.kids.length)] 30 :: .blk b15 [.int .u8 (zeroN.kind), .string (str (zeroN.tag)), .string (str (zeroN.key)), .slice (tak14) (zeroN.as.length) (zeroN.as.length), .string (str (zeroN.text)), .slice (kak14) (zeroN.kids.length) (zeroN.kids.length)] 30 :: .blk b9 [.int .u8 ((.mk 2 [] [] [] [120] [] : NT).kind), .string (str ((.mk 2 [] [] [] [120] [] : NT).tag)), .string (str ((.mk 2 [] [] [] [120] [] : NT).key)), .slice (tak8) ((.mk 2 [] [] [] [120] [] : NT).as.length) ((.mk 2 [] [] [] [120] [] : NT).as.length), .string (str ((.mk 2 [] [] [] [120] [] : NT).text)), .slice (kak8) ((.mk 2 [] [] [] [120] [] : NT).kids.length) ((.mk 2 [] [] [] [120] [] : NT).kids.length)] 30 :: .blk b2 [.int .u8 (exD.kind), .string (str (exD.tag)), .string (str (exD.key)), .slice (tak1) (exD.as.length) (tck1), .string (str (exD.text)), .slice (kak1) (exD.kids.length) (kck1)] 30 :: L) _ at M
 iterate 2 (refine rl_run F (run_assign (F.ev rfl)) rfl ?_; clear F a; intro a F)
 refine rl_nil <| q_tn <| wp_seq <| w_reg <| rl_run F (run_assign (F.ev rfl)) rfl ?_; clear F a; intro a F
 refine rl_nil <| q_tn ?_
 iterate 2 (refine wp_seq ?_)
 refine w_reg <| rl_run F (run_move (F.ev rfl)) rfl ?_; clear F a; intro a F
 refine rl_run F (run_eqi (F.ev rfl) (F.ev rfl)) rfl ?_; clear F a; intro a F
 refine rl_nil <| q_tn <| w_cond_f F rfl (decide_eq_false (by decide)) ?_
 refine wp_skip <| q_tn <| wp_seq <| w_reg ?_
 iterate 3 (refine rl_run F (run_move (F.ev rfl)) rfl ?_; clear F a; intro a F)
 obtain ⟨be37, oe37, _, Ie37, _, Ae37, ⟨rfl, hbe371⟩⟩ := Sz22.at (rfl : ([(4 : Int), 3, 4, 7, 0, 0])[2]? = some (4 : Int))
 refine rl_run F (run_indexI tok25.k tok3 (F.ev rfl) (F.ev rfl) (by omega) Ie37) rfl ?_; clear F a; intro a F
 refine rl_run F (run_load1 (agf tok3 rfl) (F.ev rfl) (M.cellA Ae37 0 (by omega) rfl)) rfl ?_; clear F a; intro a F
 refine rl_run F (run_nei (F.ev rfl) (F.ev rfl)) rfl ?_; clear F a; intro a F
 refine rl_run F (run_move (F.ev rfl)) rfl ?_; clear F a; intro a F
 refine rl_guard_t F rfl rfl rfl (not_f (decide_eq_true (by decide))) ?_
 refine rl_run F (run_move (F.ev rfl)) rfl ?_; clear F a; intro a F
 refine rl_guard_t F rfl rfl rfl (not_f (decide_eq_true (by decide))) ?_
 refine rl_run F (run_move (F.ev rfl)) rfl ?_; clear F a; intro a F
 refine rl_guard_t F rfl rfl rfl (not_f (decide_eq_true (by decide))) ?_
 refine rl_run F (run_nei (F.ev rfl) (F.ev rfl)) rfl ?_; clear F a; intro a F
 refine rl_run F (run_pick_f (F.ev rfl) (not_f (decide_eq_true (by decide))) (F.ev rfl)) rfl ?_; clear F a; intro a F
 refine rl_nil <| q_tn <| w_cond_f F rfl (not_f (decide_eq_true (by decide))) ?_
 refine wp_skip <| q_bn <| q_tn <| w_reg <| rl_run F (run_move (F.ev rfl)) rfl ?_; clear F a; intro a F
 refine rl_run F (run_addi (F.ev rfl) (F.ev rfl) (in_i64 (by omega) (by omega))) rfl ?_; clear F a; intro a F
 refine rl_run F (run_assign (F.ev rfl)) rfl ?_; clear F a; intro a F
 refine rl_nil <| q_tn ?_
 iterate 2 (refine wp_seq ?_)
 refine w_reg ?_
 iterate 2 (refine rl_run F (run_move (F.ev rfl)) rfl ?_; clear F a; intro a F)
 refine rl_run F (run_lenSl tok49.k (F.ev rfl)) rfl ?_; clear F a; intro a F
 refine rl_run F (run_lss (F.ev rfl) (F.ev rfl)) rfl ?_; clear F a; intro a F
 refine rl_nil <| q_tn <| w_cond_t F rfl (decide_eq_true (by decide)) ?_
 refine wp_skip <| q_tn <| wp_seq <| wp_block <| wp_seq <| w_reg ?_
 iterate 2 (refine rl_run F (run_move (F.ev rfl)) rfl ?_; clear F a; intro a F)
 obtain ⟨be38, oe38, _, Ie38, _, Ae38, ⟨rfl, hsle38⟩⟩ := Sz19.at (rfl : ([([60, 97, 62, 60, 47, 97, 62] : List UInt8), ([60, 97, 47] : List UInt8), ([60, 97, 47, 62, 120] : List UInt8), ([60, 97, 62, 34, 34, 60, 47, 98, 62] : List UInt8), ([60, 97, 32, 98, 61, 34, 34, 32, 98, 61, 34, 34, 47, 62] : List UInt8), ([] : List UInt8)])[3]? = some ([60, 97, 62, 34, 34, 60, 47, 98, 62] : List UInt8))
 refine rl_run F (run_indexI tok49.k tok9 (F.ev rfl) (F.ev rfl) (by omega) Ie38) rfl ?_; clear F a; intro a F
 refine rl_run F (run_load1 (agf tok9 rfl) (F.ev rfl) (M.cellA Ae38 0 (by omega) rfl)) rfl ?_; clear F a; intro a F
 refine rl_call F ent40 rfl rfl (parse_at (s := ([60, 97, 62, 34, 34, 60, 47, 98, 62] : List UInt8)) (y := zeroN) (i := 7) (e := 5) M pars3) ?_; clear F M a; rintro _ Gk39 w a hGk39 M ⟨tak39, kak39, rfl, hkk39, hlk39, SAk39, SKk39⟩ F
 replace SAk1 := SAk1.mono mono_rdAttr hGk39
 replace SKk1 := SKk1.mono mono_rdN hGk39
 replace SAk4 := SAk4.mono mono_rdAttr hGk39
 replace SKk4 := SKk4.mono mono_rdNE hGk39
 replace Sz7 := Sz7.mono mono_rdI hGk39
 replace SAk8 := SAk8.mono mono_rdAttr hGk39
 replace SKk8 := SKk8.mono mono_rdNE hGk39
 replace Sz13 := Sz13.mono mono_rdI hGk39
 replace SAk14 := SAk14.mono mono_rdAttr hGk39
 replace SKk14 := SKk14.mono mono_rdNE hGk39
 replace Sz19 := Sz19.mono mono_rdStr hGk39
 replace Sz22 := Sz22.mono mono_rdI hGk39
 replace Ae23 := Ae23.mono hGk39
 replace SAk24 := SAk24.mono mono_rdAttr hGk39
 replace SKk24 := SKk24.mono mono_rdNE hGk39
 replace Ae27 := Ae27.mono hGk39
 replace Ae28 := Ae28.mono hGk39
 replace SAk29 := SAk29.mono mono_rdAttr hGk39
 replace SKk29 := SKk29.mono mono_rdNE hGk39
 replace Ae32 := Ae32.mono hGk39
 replace Ae33 := Ae33.mono hGk39
 replace SAk34 := SAk34.mono mono_rdAttr hGk39
 replace SKk34 := SKk34.mono mono_rdNE hGk39
 replace Ae37 := Ae37.mono hGk39
 replace Ae38 := Ae38.mono hGk39
 refine rl_run F (run_move (F.ev rfl)) rfl ?_; clear F a; intro a F
 refine rl_run F (run_extract (v := .agg #[.int .u8 (zeroN.kind), .string (str (zeroN.tag)), .string (str (zeroN.key)), .slice (tak39) (zeroN.as.length) (zeroN.as.length), .string (str (zeroN.text)), .slice (kak39) (zeroN.kids.length) (zeroN.kids.length)]) (F.ev rfl) rfl) rfl ?_; clear F a; intro a F
 refine rl_run F (run_extract (v := .int .i64 (((7 : Nat) : Int))) (F.ev rfl) rfl) rfl ?_; clear F a; intro a F
 refine rl_run F (run_extract (v := .int .i64 (5)) (F.ev rfl) rfl) rfl ?_; clear F a; intro a F
 refine rl_alloc F M tok30 rfl rfl ?_; clear F M a; intro b40 w a M F
 refine rl_storeA F M tok30 (k := 0) rfl rfl rfl (us := [.int .u8 (zeroN.kind), .string (str (zeroN.tag)), .string (str (zeroN.key)), .slice (tak39) (zeroN.as.length) (zeroN.as.length), .string (str (zeroN.text)), .slice (kak39) (zeroN.kids.length) (zeroN.kids.length)]) rfl rfl (by simp [Value.oneCell']) (by simp) ?_; clear F M a; intro w a M F
 change Mem w0 Gk39 (.blk b40 [.int .u8 (zeroN.kind), .string (str (zeroN.tag)), .string (str (zeroN.key)), .slice (tak39) (zeroN.as.length) (zeroN.as.length), .string (str (zeroN.text)), .slice (kak39) (zeroN.kids.length) (zeroN.kids.length)] 30 :: .blk b35 [.int .u8 (zeroN.kind), .string (str (zeroN.tag)), .string (str (zeroN.key)), .slice (tak34) (zeroN.as.length) (zeroN.as.length), .string (str (zeroN.text)), .slice (kak34) (zeroN.kids.length) (zeroN.kids.length)] 30 :: .blk b30 [.int .u8 (zeroN.kind), .string (str (zeroN.tag)), .string (str (zeroN.key)), .slice (tak29) (zeroN.as.length) (zeroN.as.length), .string (str (zeroN.text)), .slice (kak29) (zeroN.kids.length) (zeroN.kids.length)] 30 :: .blk b25 [.int .u8 (zeroN.kind), .string (str (zeroN.tag)), .string (str (zeroN.key)), .slice (tak24) (zeroN.as.length) (zeroN.as.length), .string (str (zeroN.text)), .slice (kak24) (zeroN.kids.length) (zeroN.kids.length)] 30 :: .blk b15 [.int .u8 (zeroN.kind), .string (str (zeroN.tag)), .string (str (zeroN.key)), .slice (tak14) (zeroN.as.length) (zeroN.as.length), .string (str (zeroN.text)), .slice (kak14) (zeroN.kids.length) (zeroN.kids.length)] 30 :: .blk b9 [.int .u8 ((.mk 2 [] [] [] [120] [] : NT).kind), .string (str ((.mk 2 [] [] [] [120] [] : NT).tag)), .string (str ((.mk 2 [] [] [] [120] [] : NT).key)), .slice (tak8) ((.mk 2 [] [] [] [120] [] : NT).as.length) ((.mk 2 [] [] [] [120] [] : NT).as.length), .string (str ((.mk 2 [] [] [] [120] [] : NT).text)), .slice (kak8) ((.mk 2 [] [] [] [120] [] : NT).kids.length) ((.mk 2 [] [] [] [120] [] : NT).kids.length)] 30 :: .blk b2 [.int .u8 (exD.kind), .string (str (exD.tag)), .string (str (exD.key)), .slice (tak1) (exD.as.length) (tck1), .string (str (exD.text)), .slice (kak1) (exD.kids.length) (kck1)] 30 :: L) _ at M
 iterate 2 (refine rl_run F (run_assign (F.ev rfl)) rfl ?_; clear F a; intro a F)
 refine rl_nil <| q_tn <| wp_seq <| w_reg <| rl_run F (run_assign (F.ev rfl)) rfl ?_; clear F a; intro a F
 refine rl_nil <| q_tn ?_
 iterate 2 (refine wp_seq ?_)
 refine w_reg <| rl_run F (run_move (F.ev rfl)) rfl ?_; clear F a; intro a F
 refine rl_run F (run_eqi (F.ev rfl) (F.ev rfl)) rfl ?_; clear F a; intro a F
 refine rl_nil <| q_tn <| w_cond_f F rfl (decide_eq_false (by decide)) ?_
 refine wp_skip <| q_tn <| wp_seq <| w_reg ?_
 iterate 3 (refine rl_run F (run_move (F.ev rfl)) rfl ?_; clear F a; intro a F)
 obtain ⟨be42, oe42, _, Ie42, _, Ae42, ⟨rfl, hbe421⟩⟩ := Sz22.at (rfl : ([(4 : Int), 3, 4, 7, 0, 0])[3]? = some (7 : Int))
 refine rl_run F (run_indexI tok25.k tok3 (F.ev rfl) (F.ev rfl) (by omega) Ie42) rfl ?_; clear F a; intro a F
 refine rl_run F (run_load1 (agf tok3 rfl) (F.ev rfl) (M.cellA Ae42 0 (by omega) rfl)) rfl ?_; clear F a; intro a F
 refine rl_run F (run_nei (F.ev rfl) (F.ev rfl)) rfl ?_; clear F a; intro a F
 refine rl_run F (run_move (F.ev rfl)) rfl ?_; clear F a; intro a F
 refine rl_guard_t F rfl rfl rfl (not_f (decide_eq_true (by decide))) ?_
 refine rl_run F (run_move (F.ev rfl)) rfl ?_; clear F a; intro a F
 refine rl_guard_t F rfl rfl rfl (not_f (decide_eq_true (by decide))) ?_
 refine rl_run F (run_move (F.ev rfl)) rfl ?_; clear F a; intro a F
 refine rl_guard_t F rfl rfl rfl (not_f (decide_eq_true (by decide))) ?_
 refine rl_run F (run_nei (F.ev rfl) (F.ev rfl)) rfl ?_; clear F a; intro a F
 refine rl_run F (run_pick_f (F.ev rfl) (not_f (decide_eq_true (by decide))) (F.ev rfl)) rfl ?_; clear F a; intro a F
 refine rl_nil <| q_tn <| w_cond_f F rfl (not_f (decide_eq_true (by decide))) ?_
 refine wp_skip <| q_bn <| q_tn <| w_reg <| rl_run F (run_move (F.ev rfl)) rfl ?_; clear F a; intro a F
 refine rl_run F (run_addi (F.ev rfl) (F.ev rfl) (in_i64 (by omega) (by omega))) rfl ?_; clear F a; intro a F
 refine rl_run F (run_assign (F.ev rfl)) rfl ?_; clear F a; intro a F
 refine rl_nil <| q_tn ?_
 iterate 2 (refine wp_seq ?_)
 refine w_reg ?_
 iterate 2 (refine rl_run F (run_move (F.ev rfl)) rfl ?_; clear F a; intro a F)
 refine rl_run F (run_lenSl tok49.k (F.ev rfl)) rfl ?_; clear F a; intro a F
 refine rl_run F (run_lss (F.ev rfl) (F.ev rfl)) rfl ?_; clear F a; intro a F
 refine rl_nil <| q_tn <| w_cond_t F rfl (decide_eq_true (by decide)) ?_
 refine wp_skip <| q_tn <| wp_seq <| wp_block <| wp_seq <| w_reg ?_
 iterate 2 (refine rl_run F (run_move (F.ev rfl)) rfl ?_; clear F a; intro a F)
 obtain ⟨be43, oe43, _, Ie43, _, Ae43, ⟨rfl, hsle43⟩⟩ := Sz19.at (rfl : ([([60, 97, 62, 60, 47, 97, 62] : List UInt8), ([60, 97, 47] : List UInt8), ([60, 97, 47, 62, 120] : List UInt8), ([60, 97, 62, 34, 34, 60, 47, 98, 62] : List UInt8), ([60, 97, 32, 98, 61, 34, 34, 32, 98, 61, 34, 34, 47, 62] : List UInt8), ([] : List UInt8)])[4]? = some ([60, 97, 32, 98, 61, 34, 34, 32, 98, 61, 34, 34, 47, 62] : List UInt8))
 refine rl_run F (run_indexI tok49.k tok9 (F.ev rfl) (F.ev rfl) (by omega) Ie43) rfl ?_; clear F a; intro a F
 refine rl_run F (run_load1 (agf tok9 rfl) (F.ev rfl) (M.cellA Ae43 0 (by omega) rfl)) rfl ?_; clear F a; intro a F
 refine rl_call F ent40 rfl rfl (parse_at (s := ([60, 97, 32, 98, 61, 34, 34, 32, 98, 61, 34, 34, 47, 62] : List UInt8)) (y := zeroN) (i := 0) (e := 14) M pars4) ?_; clear F M a; rintro _ Gk44 w a hGk44 M ⟨tak44, kak44, rfl, hkk44, hlk44, SAk44, SKk44⟩ F
 replace SAk1 := SAk1.mono mono_rdAttr hGk44
 replace SKk1 := SKk1.mono mono_rdN hGk44
 replace SAk4 := SAk4.mono mono_rdAttr hGk44
 replace SKk4 := SKk4.mono mono_rdNE hGk44
 replace Sz7 := Sz7.mono mono_rdI hGk44
 replace SAk8 := SAk8.mono mono_rdAttr hGk44
 replace SKk8 := SKk8.mono mono_rdNE hGk44
 replace Sz13 := Sz13.mono mono_rdI hGk44
 replace SAk14 := SAk14.mono mono_rdAttr hGk44
 replace SKk14 := SKk14.mono mono_rdNE hGk44
 replace Sz19 := Sz19.mono mono_rdStr hGk44
 replace Sz22 := Sz22.mono mono_rdI hGk44
 replace Ae23 := Ae23.mono hGk44
 replace SAk24 := SAk24.mono mono_rdAttr hGk44
 replace SKk24 := SKk24.mono mono_rdNE hGk44
 replace Ae27 := Ae27.mono hGk44
 replace Ae28 := Ae28.mono hGk44
 replace SAk29 := SAk29.mono mono_rdAttr hGk44
 replace SKk29 := SKk29.mono mono_rdNE hGk44
 replace Ae32 := Ae32.mono hGk44
 replace Ae33 := Ae33.mono hGk44
 replace SAk34 := SAk34.mono mono_rdAttr hGk44
 replace SKk34 := SKk34.mono mono_rdNE hGk44
 replace Ae37 := Ae37.mono hGk44
 replace Ae38 := Ae38.mono hGk44
 replace SAk39 := SAk39.mono mono_rdAttr hGk44
 replace SKk39 := SKk39.mono mono_rdNE hGk44
 replace Ae42 := Ae42.mono hGk44
 replace Ae43 := Ae43.mono hGk44
 refine rl_run F (run_move (F.ev rfl)) rfl ?_; clear F a; intro a F
 refine rl_run F (run_extract (v := .agg #[.int .u8 (zeroN.kind), .string (str (zeroN.tag)), .string (str (zeroN.key)), .slice (tak44) (zeroN.as.length) (zeroN.as.length), .string (str (zeroN.text)), .slice (kak44) (zeroN.kids.length) (zeroN.kids.length)]) (F.ev rfl) rfl) rfl ?_; clear F a; intro a F
 refine rl_run F (run_extract (v := .int .i64 (((0 : Nat) : Int))) (F.ev rfl) rfl) rfl ?_; clear F a; intro a F
 refine rl_run F (run_extract (v := .int .i64 (14)) (F.ev rfl) rfl) rfl ?_; clear F a; intro a F
 refine rl_alloc F M tok30 rfl rfl ?_; clear F M a; intro b45 w a M F
 refine rl_storeA F M tok30 (k := 0) rfl rfl rfl (us := [.int .u8 (zeroN.kind), .string (str (zeroN.tag)), .string (str (zeroN.key)), .slice (tak44) (zeroN.as.length) (zeroN.as.length), .string (str (zeroN.text)), .slice (kak44) (zeroN.kids.length) (zeroN.kids.length)]) rfl rfl (by simp [Value.oneCell']) (by simp) ?_; clear F M a; intro w a M F
 change Mem w0 Gk44 (.blk b45 [.int .u8 (zeroN.kind), .string (str (zeroN.tag)), .string (str (zeroN.key)), .slice (tak44) (zeroN.as.length) (zeroN.as.length), .string (str (zeroN.text)), .slice (kak44) (zeroN.kids.length) (zeroN.kids.length)] 30 :: .blk b40 [.int .u8 (zeroN.kind), .string (str (zeroN.tag)), .string (str (zeroN.key)), .slice (tak39) (zeroN.as.length) (zeroN.as.length), .string (str (zeroN.text)), .slice (kak39) (zeroN.kids.length) (zeroN.kids.length)] 30 :: .blk b35 [.int .u8 (zeroN.kind), .string (str (zeroN.tag)), .string (str (zeroN.key)), .slice (tak34) (zeroN.as.length) (zeroN.as.length), .string (str (zeroN.text)), .slice (kak34) (zeroN.kids.length) (zeroN.kids.length)] 30 :: .blk b30 [.int .u8 (zeroN.kind), .string (str (zeroN.tag)), .string (str (zeroN.key)), .slice (tak29) (zeroN.as.length) (zeroN.as.length), .string (str (zeroN.text)), .slice (kak29) (zeroN.kids.length) (zeroN.kids.length)] 30 :: .blk b25 [.int .u8 (zeroN.kind), .string (str (zeroN.tag)), .string (str (zeroN.key)), .slice (tak24) (zeroN.as.length) (zeroN.as.length), .string (str (zeroN.text)), .slice (kak24) (zeroN.kids.length) (zeroN.kids.length)] 30 :: .blk b15 [.int .u8 (zeroN.kind), .string (str (zeroN.tag)), .string (str (zeroN.key)), .slice (tak14) (zeroN.as.length) (zeroN.as.length), .string (str (zeroN.text)), .slice (kak14) (zeroN.kids.length) (zeroN.kids.length)] 30 :: .blk b9 [.int .u8 ((.mk 2 [] [] [] [120] [] : NT).kind), .string (str ((.mk 2 [] [] [] [120] [] : NT).tag)), .string (str ((.mk 2 [] [] [] [120] [] : NT).key)), .slice (tak8) ((.mk 2 [] [] [] [120] [] : NT).as.length) ((.mk 2 [] [] [] [120] [] : NT).as.length), .string (str ((.mk 2 [] [] [] [120] [] : NT).text)), .slice (kak8) ((.mk 2 [] [] [] [120] [] : NT).kids.length) ((.mk 2 [] [] [] [120] [] : NT).kids.length)] 30 :: .blk b2 [.int .u8 (exD.kind), .string (str (exD.tag)), .string (str (exD.key)), .slice (tak1) (exD.as.length) (tck1), .string (str (exD.text)), .slice (kak1) (exD.kids.length) (kck1)] 30 :: L) _ at M
 iterate 2 (refine rl_run F (run_assign (F.ev rfl)) rfl ?_; clear F a; intro a F)
 refine rl_nil <| q_tn <| wp_seq <| w_reg <| rl_run F (run_assign (F.ev rfl)) rfl ?_; clear F a; intro a F
 refine rl_nil <| q_tn ?_
 iterate 2 (refine wp_seq ?_)
 refine w_reg <| rl_run F (run_move (F.ev rfl)) rfl ?_; clear F a; intro a F
 refine rl_run F (run_eqi (F.ev rfl) (F.ev rfl)) rfl ?_; clear F a; intro a F
 refine rl_nil <| q_tn <| w_cond_t F rfl (decide_eq_true (by decide)) ?_
 refine w_reg <| rl_run F (run_assign (F.ev rfl)) rfl ?_; clear F a; intro a F
 refine rl_nil <| q_tn <| wp_seq <| w_reg ?_
 iterate 3 (refine rl_run F (run_move (F.ev rfl)) rfl ?_; clear F a; intro a F)
 obtain ⟨be47, oe47, _, Ie47, _, Ae47, ⟨rfl, hbe471⟩⟩ := Sz22.at (rfl : ([(4 : Int), 3, 4, 7, 0, 0])[4]? = some (0 : Int))
 refine rl_run F (run_indexI tok25.k tok3 (F.ev rfl) (F.ev rfl) (by omega) Ie47) rfl ?_; clear F a; intro a F
 refine rl_run F (run_load1 (agf tok3 rfl) (F.ev rfl) (M.cellA Ae47 0 (by omega) rfl)) rfl ?_; clear F a; intro a F
 refine rl_run F (run_nei (F.ev rfl) (F.ev rfl)) rfl ?_; clear F a; intro a F
 refine rl_run F (run_move (F.ev rfl)) rfl ?_; clear F a; intro a F
 refine rl_guard_t F rfl rfl rfl (not_f (decide_eq_true (by decide))) ?_
 refine rl_run F (run_move (F.ev rfl)) rfl ?_; clear F a; intro a F
 refine rl_guard_t F rfl rfl rfl (not_f (decide_eq_true (by decide))) ?_
 refine rl_run F (run_move (F.ev rfl)) rfl ?_; clear F a; intro a F
 refine rl_guard_t F rfl rfl rfl (not_f (decide_eq_true (by decide))) ?_
 refine rl_run F (run_nei (F.ev rfl) (F.ev rfl)) rfl ?_; clear F a; intro a F
 refine rl_run F (run_pick_f (F.ev rfl) (not_f (decide_eq_true (by decide))) (F.ev rfl)) rfl ?_; clear F a; intro a F
 refine rl_nil <| q_tn <| w_cond_f F rfl (not_f (decide_eq_true (by decide))) ?_
 refine wp_skip <| q_bn <| q_tn <| w_reg <| rl_run F (run_move (F.ev rfl)) rfl ?_; clear F a; intro a F
 refine rl_run F (run_addi (F.ev rfl) (F.ev rfl) (in_i64 (by omega) (by omega))) rfl ?_; clear F a; intro a F
 refine rl_run F (run_assign (F.ev rfl)) rfl ?_; clear F a; intro a F
 refine rl_nil <| q_tn ?_
 iterate 2 (refine wp_seq ?_)
 refine w_reg ?_
 iterate 2 (refine rl_run F (run_move (F.ev rfl)) rfl ?_; clear F a; intro a F)
 refine rl_run F (run_lenSl tok49.k (F.ev rfl)) rfl ?_; clear F a; intro a F
 refine rl_run F (run_lss (F.ev rfl) (F.ev rfl)) rfl ?_; clear F a; intro a F
 refine rl_nil <| q_tn <| w_cond_t F rfl (decide_eq_true (by decide)) ?_
 refine wp_skip <| q_tn <| wp_seq <| wp_block <| wp_seq <| w_reg ?_
 iterate 2 (refine rl_run F (run_move (F.ev rfl)) rfl ?_; clear F a; intro a F)
 obtain ⟨be48, oe48, _, Ie48, _, Ae48, ⟨rfl, hsle48⟩⟩ := Sz19.at (rfl : ([([60, 97, 62, 60, 47, 97, 62] : List UInt8), ([60, 97, 47] : List UInt8), ([60, 97, 47, 62, 120] : List UInt8), ([60, 97, 62, 34, 34, 60, 47, 98, 62] : List UInt8), ([60, 97, 32, 98, 61, 34, 34, 32, 98, 61, 34, 34, 47, 62] : List UInt8), ([] : List UInt8)])[5]? = some ([] : List UInt8))
 refine rl_run F (run_indexI tok49.k tok9 (F.ev rfl) (F.ev rfl) (by omega) Ie48) rfl ?_; clear F a; intro a F
 refine rl_run F (run_load1 (agf tok9 rfl) (F.ev rfl) (M.cellA Ae48 0 (by omega) rfl)) rfl ?_; clear F a; intro a F
 refine rl_call F ent40 rfl rfl (parse_at (s := ([] : List UInt8)) (y := zeroN) (i := 0) (e := 5) M pars5) ?_; clear F M a; rintro _ Gk49 w a hGk49 M ⟨tak49, kak49, rfl, hkk49, hlk49, SAk49, SKk49⟩ F
 replace SAk1 := SAk1.mono mono_rdAttr hGk49
 replace SKk1 := SKk1.mono mono_rdN hGk49
 replace SAk4 := SAk4.mono mono_rdAttr hGk49
 replace SKk4 := SKk4.mono mono_rdNE hGk49
 replace Sz7 := Sz7.mono mono_rdI hGk49
 replace SAk8 := SAk8.mono mono_rdAttr hGk49
 replace SKk8 := SKk8.mono mono_rdNE hGk49
 replace Sz13 := Sz13.mono mono_rdI hGk49
 replace SAk14 := SAk14.mono mono_rdAttr hGk49
 replace SKk14 := SKk14.mono mono_rdNE hGk49
 replace Sz19 := Sz19.mono mono_rdStr hGk49
 replace Sz22 := Sz22.mono mono_rdI hGk49
 replace Ae23 := Ae23.mono hGk49
 replace SAk24 := SAk24.mono mono_rdAttr hGk49
 replace SKk24 := SKk24.mono mono_rdNE hGk49
 replace Ae27 := Ae27.mono hGk49
 replace Ae28 := Ae28.mono hGk49
 replace SAk29 := SAk29.mono mono_rdAttr hGk49
 replace SKk29 := SKk29.mono mono_rdNE hGk49
 replace Ae32 := Ae32.mono hGk49
 replace Ae33 := Ae33.mono hGk49
 replace SAk34 := SAk34.mono mono_rdAttr hGk49
 replace SKk34 := SKk34.mono mono_rdNE hGk49
 replace Ae37 := Ae37.mono hGk49
 replace Ae38 := Ae38.mono hGk49
 replace SAk39 := SAk39.mono mono_rdAttr hGk49
 replace SKk39 := SKk39.mono mono_rdNE hGk49
 replace Ae42 := Ae42.mono hGk49
 replace Ae43 := Ae43.mono hGk49
 replace SAk44 := SAk44.mono mono_rdAttr hGk49
 replace SKk44 := SKk44.mono mono_rdNE hGk49
 replace Ae47 := Ae47.mono hGk49
 replace Ae48 := Ae48.mono hGk49
 refine rl_run F (run_move (F.ev rfl)) rfl ?_; clear F a; intro a F
 refine rl_run F (run_extract (v := .agg #[.int .u8 (zeroN.kind), .string (str (zeroN.tag)), .string (str (zeroN.key)), .slice (tak49) (zeroN.as.length) (zeroN.as.length), .string (str (zeroN.text)), .slice (kak49) (zeroN.kids.length) (zeroN.kids.length)]) (F.ev rfl) rfl) rfl ?_; clear F a; intro a F
 refine rl_run F (run_extract (v := .int .i64 (((0 : Nat) : Int))) (F.ev rfl) rfl) rfl ?_; clear F a; intro a F
 refine rl_run F (run_extract (v := .int .i64 (5)) (F.ev rfl) rfl) rfl ?_; clear F a; intro a F
 refine rl_alloc F M tok30 rfl rfl ?_; clear F M a; intro b50 w a M F
 refine rl_storeA F M tok30 (k := 0) rfl rfl rfl (us := [.int .u8 (zeroN.kind), .string (str (zeroN.tag)), .string (str (zeroN.key)), .slice (tak49) (zeroN.as.length) (zeroN.as.length), .string (str (zeroN.text)), .slice (kak49) (zeroN.kids.length) (zeroN.kids.length)]) rfl rfl (by simp [Value.oneCell']) (by simp) ?_; clear F M a; intro w a M F
 change Mem w0 Gk49 (.blk b50 [.int .u8 (zeroN.kind), .string (str (zeroN.tag)), .string (str (zeroN.key)), .slice (tak49) (zeroN.as.length) (zeroN.as.length), .string (str (zeroN.text)), .slice (kak49) (zeroN.kids.length) (zeroN.kids.length)] 30 :: .blk b45 [.int .u8 (zeroN.kind), .string (str (zeroN.tag)), .string (str (zeroN.key)), .slice (tak44) (zeroN.as.length) (zeroN.as.length), .string (str (zeroN.text)), .slice (kak44) (zeroN.kids.length) (zeroN.kids.length)] 30 :: .blk b40 [.int .u8 (zeroN.kind), .string (str (zeroN.tag)), .string (str (zeroN.key)), .slice (tak39) (zeroN.as.length) (zeroN.as.length), .string (str (zeroN.text)), .slice (kak39) (zeroN.kids.length) (zeroN.kids.length)] 30 :: .blk b35 [.int .u8 (zeroN.kind), .string (str (zeroN.tag)), .string (str (zeroN.key)), .slice (tak34) (zeroN.as.length) (zeroN.as.length), .string (str (zeroN.text)), .slice (kak34) (zeroN.kids.length) (zeroN.kids.length)] 30 :: .blk b30 [.int .u8 (zeroN.kind), .string (str (zeroN.tag)), .string (str (zeroN.key)), .slice (tak29) (zeroN.as.length) (zeroN.as.length), .string (str (zeroN.text)), .slice (kak29) (zeroN.kids.length) (zeroN.kids.length)] 30 :: .blk b25 [.int .u8 (zeroN.kind), .string (str (zeroN.tag)), .string (str (zeroN.key)), .slice (tak24) (zeroN.as.length) (zeroN.as.length), .string (str (zeroN.text)), .slice (kak24) (zeroN.kids.length) (zeroN.kids.length)] 30 :: .blk b15 [.int .u8 (zeroN.kind), .string (str (zeroN.tag)), .string (str (zeroN.key)), .slice (tak14) (zeroN.as.length) (zeroN.as.length), .string (str (zeroN.text)), .slice (kak14) (zeroN.kids.length) (zeroN.kids.length)] 30 :: .blk b9 [.int .u8 ((.mk 2 [] [] [] [120] [] : NT).kind), .string (str ((.mk 2 [] [] [] [120] [] : NT).tag)), .string (str ((.mk 2 [] [] [] [120] [] : NT).key)), .slice (tak8) ((.mk 2 [] [] [] [120] [] : NT).as.length) ((.mk 2 [] [] [] [120] [] : NT).as.length), .string (str ((.mk 2 [] [] [] [120] [] : NT).text)), .slice (kak8) ((.mk 2 [] [] [] [120] [] : NT).kids.length) ((.mk 2 [] [] [] [120] [] : NT).kids.length)] 30 :: .blk b2 [.int .u8 (exD.kind), .string (str (exD.tag)), .string (str (exD.key)), .slice (tak1) (exD.as.length) (tck1), .string (str (exD.text)), .slice (kak1) (exD.kids.length) (kck1)] 30 :: L) _ at M
 iterate 2 (refine rl_run F (run_assign (F.ev rfl)) rfl ?_; clear F a; intro a F)
 refine rl_nil <| q_tn <| wp_seq <| w_reg <| rl_run F (run_assign (F.ev rfl)) rfl ?_; clear F a; intro a F
 refine rl_nil <| q_tn ?_
 iterate 2 (refine wp_seq ?_)
 refine w_reg <| rl_run F (run_move (F.ev rfl)) rfl ?_; clear F a; intro a F
 refine rl_run F (run_eqi (F.ev rfl) (F.ev rfl)) rfl ?_; clear F a; intro a F
 refine rl_nil <| q_tn <| w_cond_f F rfl (decide_eq_false (by decide)) ?_
 refine wp_skip <| q_tn <| wp_seq <| w_reg ?_
 iterate 3 (refine rl_run F (run_move (F.ev rfl)) rfl ?_; clear F a; intro a F)
 obtain ⟨be52, oe52, _, Ie52, _, Ae52, ⟨rfl, hbe521⟩⟩ := Sz22.at (rfl : ([(4 : Int), 3, 4, 7, 0, 0])[5]? = some (0 : Int))
 refine rl_run F (run_indexI tok25.k tok3 (F.ev rfl) (F.ev rfl) (by omega) Ie52) rfl ?_; clear F a; intro a F
 refine rl_run F (run_load1 (agf tok3 rfl) (F.ev rfl) (M.cellA Ae52 0 (by omega) rfl)) rfl ?_; clear F a; intro a F
 refine rl_run F (run_nei (F.ev rfl) (F.ev rfl)) rfl ?_; clear F a; intro a F
 refine rl_run F (run_move (F.ev rfl)) rfl ?_; clear F a; intro a F
 refine rl_guard_t F rfl rfl rfl (not_f (decide_eq_true (by decide))) ?_
 refine rl_run F (run_move (F.ev rfl)) rfl ?_; clear F a; intro a F
 refine rl_guard_t F rfl rfl rfl (not_f (decide_eq_true (by decide))) ?_
 refine rl_run F (run_move (F.ev rfl)) rfl ?_; clear F a; intro a F
 refine rl_guard_t F rfl rfl rfl (not_f (decide_eq_true (by decide))) ?_
 refine rl_run F (run_nei (F.ev rfl) (F.ev rfl)) rfl ?_; clear F a; intro a F
 refine rl_run F (run_pick_f (F.ev rfl) (not_f (decide_eq_true (by decide))) (F.ev rfl)) rfl ?_; clear F a; intro a F
 refine rl_nil <| q_tn <| w_cond_f F rfl (not_f (decide_eq_true (by decide))) ?_
 refine wp_skip <| q_bn <| q_tn <| w_reg <| rl_run F (run_move (F.ev rfl)) rfl ?_; clear F a; intro a F
 refine rl_run F (run_addi (F.ev rfl) (F.ev rfl) (in_i64 (by omega) (by omega))) rfl ?_; clear F a; intro a F
 refine rl_run F (run_assign (F.ev rfl)) rfl ?_; clear F a; intro a F
 refine rl_nil <| q_tn ?_
 iterate 2 (refine wp_seq ?_)
 refine w_reg ?_
 iterate 2 (refine rl_run F (run_move (F.ev rfl)) rfl ?_; clear F a; intro a F)
 refine rl_run F (run_lenSl tok49.k (F.ev rfl)) rfl ?_; clear F a; intro a F
 refine rl_run F (run_lss (F.ev rfl) (F.ev rfl)) rfl ?_; clear F a; intro a F
 refine rl_nil <| q_tn <| w_cond_f F rfl (decide_eq_false (by decide)) ?_
 refine wp_exit ?_
 iterate 2 (refine q_te ?_)
 refine q_bh <| q_tn <| wp_seq <| w_reg <| rl_run F (run_assign (F.ev rfl)) rfl ?_; clear F a; intro a F
 refine rl_nil <| q_tn <| wp_ret <| fin1 F rfl rfl ?_
 exact ⟨_, (((((((((((((hGk1.trans hGk4).trans hGz7).trans hGk8).trans hGz13).trans hGk14).trans hGz19).trans hGz22).trans hGk24).trans hGk29).trans hGk34).trans hGk39).trans hGk44).trans hGk49), M.weaken (.cons _ (.cons _ (.cons _ (.cons _ (.cons _ (.cons _ (.cons _ (.cons _ (.cons _ (List.Sublist.refl _)))))))))), by rfl⟩
theorem nlives_spec {w0 w : World} {G : Ghost} {L : List Res} (M : Mem w0 G L w) : Calls Tryz.prog 13 #[] w (RetS w0 G L fun v => v = .bool true) := Ret.plain M (nlives_ret M)
end Go.Proofs.YtlnehkjmmegkhaaGreat
