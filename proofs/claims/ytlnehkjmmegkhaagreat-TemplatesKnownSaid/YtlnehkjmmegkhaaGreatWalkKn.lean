/- The walks, part Kn. -/
import Derived.Test.YtlnehkjmmegkhaaGreatWalkX
namespace Go.Proofs.YtlnehkjmmegkhaaGreat
open Go Go.Y Go.Proofs
set_option linter.unusedSimpArgs false
set_option linter.unusedVariables false
theorem dec_m0 : Lib.decDigits 1 = [49] := by rw [dec_small (by decide)]; rfl
theorem dec_m1 : Lib.decDigits 18 = [49, 56] := by rw [← dec_two (u := 18) (by decide), show 18 / 10 = 1 from rfl, show 18 % 10 = 8 from rfl, dec_m0, dec_small (by decide)]; rfl
theorem dec_m2 : Lib.decDigits 184 = [49, 56, 52] := by rw [← dec_two (u := 184) (by decide), show 184 / 10 = 18 from rfl, show 184 % 10 = 4 from rfl, dec_m1, dec_small (by decide)]; rfl
theorem dec_m3 : Lib.decDigits 1844 = [49, 56, 52, 52] := by rw [← dec_two (u := 1844) (by decide), show 1844 / 10 = 184 from rfl, show 1844 % 10 = 4 from rfl, dec_m2, dec_small (by decide)]; rfl
theorem dec_m4 : Lib.decDigits 18446 = [49, 56, 52, 52, 54] := by rw [← dec_two (u := 18446) (by decide), show 18446 / 10 = 1844 from rfl, show 18446 % 10 = 6 from rfl, dec_m3, dec_small (by decide)]; rfl
theorem dec_m5 : Lib.decDigits 184467 = [49, 56, 52, 52, 54, 55] := by rw [← dec_two (u := 184467) (by decide), show 184467 / 10 = 18446 from rfl, show 184467 % 10 = 7 from rfl, dec_m4, dec_small (by decide)]; rfl
theorem dec_m6 : Lib.decDigits 1844674 = [49, 56, 52, 52, 54, 55, 52] := by rw [← dec_two (u := 1844674) (by decide), show 1844674 / 10 = 184467 from rfl, show 1844674 % 10 = 4 from rfl, dec_m5, dec_small (by decide)]; rfl
theorem dec_m7 : Lib.decDigits 18446744 = [49, 56, 52, 52, 54, 55, 52, 52] := by rw [← dec_two (u := 18446744) (by decide), show 18446744 / 10 = 1844674 from rfl, show 18446744 % 10 = 4 from rfl, dec_m6, dec_small (by decide)]; rfl
theorem dec_m8 : Lib.decDigits 184467440 = [49, 56, 52, 52, 54, 55, 52, 52, 48] := by rw [← dec_two (u := 184467440) (by decide), show 184467440 / 10 = 18446744 from rfl, show 184467440 % 10 = 0 from rfl, dec_m7, dec_small (by decide)]; rfl
theorem dec_m9 : Lib.decDigits 1844674407 = [49, 56, 52, 52, 54, 55, 52, 52, 48, 55] := by rw [← dec_two (u := 1844674407) (by decide), show 1844674407 / 10 = 184467440 from rfl, show 1844674407 % 10 = 7 from rfl, dec_m8, dec_small (by decide)]; rfl
theorem dec_m10 : Lib.decDigits 18446744073 = [49, 56, 52, 52, 54, 55, 52, 52, 48, 55, 51] := by rw [← dec_two (u := 18446744073) (by decide), show 18446744073 / 10 = 1844674407 from rfl, show 18446744073 % 10 = 3 from rfl, dec_m9, dec_small (by decide)]; rfl
theorem dec_m11 : Lib.decDigits 184467440737 = [49, 56, 52, 52, 54, 55, 52, 52, 48, 55, 51, 55] := by rw [← dec_two (u := 184467440737) (by decide), show 184467440737 / 10 = 18446744073 from rfl, show 184467440737 % 10 = 7 from rfl, dec_m10, dec_small (by decide)]; rfl
theorem dec_m12 : Lib.decDigits 1844674407370 = [49, 56, 52, 52, 54, 55, 52, 52, 48, 55, 51, 55, 48] := by rw [← dec_two (u := 1844674407370) (by decide), show 1844674407370 / 10 = 184467440737 from rfl, show 1844674407370 % 10 = 0 from rfl, dec_m11, dec_small (by decide)]; rfl
theorem dec_m13 : Lib.decDigits 18446744073709 = [49, 56, 52, 52, 54, 55, 52, 52, 48, 55, 51, 55, 48, 57] := by rw [← dec_two (u := 18446744073709) (by decide), show 18446744073709 / 10 = 1844674407370 from rfl, show 18446744073709 % 10 = 9 from rfl, dec_m12, dec_small (by decide)]; rfl
theorem dec_m14 : Lib.decDigits 184467440737095 = [49, 56, 52, 52, 54, 55, 52, 52, 48, 55, 51, 55, 48, 57, 53] := by rw [← dec_two (u := 184467440737095) (by decide), show 184467440737095 / 10 = 18446744073709 from rfl, show 184467440737095 % 10 = 5 from rfl, dec_m13, dec_small (by decide)]; rfl
theorem dec_m15 : Lib.decDigits 1844674407370955 = [49, 56, 52, 52, 54, 55, 52, 52, 48, 55, 51, 55, 48, 57, 53, 53] := by rw [← dec_two (u := 1844674407370955) (by decide), show 1844674407370955 / 10 = 184467440737095 from rfl, show 1844674407370955 % 10 = 5 from rfl, dec_m14, dec_small (by decide)]; rfl
theorem dec_m16 : Lib.decDigits 18446744073709551 = [49, 56, 52, 52, 54, 55, 52, 52, 48, 55, 51, 55, 48, 57, 53, 53, 49] := by rw [← dec_two (u := 18446744073709551) (by decide), show 18446744073709551 / 10 = 1844674407370955 from rfl, show 18446744073709551 % 10 = 1 from rfl, dec_m15, dec_small (by decide)]; rfl
theorem dec_m17 : Lib.decDigits 184467440737095516 = [49, 56, 52, 52, 54, 55, 52, 52, 48, 55, 51, 55, 48, 57, 53, 53, 49, 54] := by rw [← dec_two (u := 184467440737095516) (by decide), show 184467440737095516 / 10 = 18446744073709551 from rfl, show 184467440737095516 % 10 = 6 from rfl, dec_m16, dec_small (by decide)]; rfl
theorem dec_m18 : Lib.decDigits 1844674407370955161 = [49, 56, 52, 52, 54, 55, 52, 52, 48, 55, 51, 55, 48, 57, 53, 53, 49, 54, 49] := by rw [← dec_two (u := 1844674407370955161) (by decide), show 1844674407370955161 / 10 = 184467440737095516 from rfl, show 1844674407370955161 % 10 = 1 from rfl, dec_m17, dec_small (by decide)]; rfl
theorem dec_m19 : Lib.decDigits 18446744073709551615 = [49, 56, 52, 52, 54, 55, 52, 52, 48, 55, 51, 55, 48, 57, 53, 53, 49, 54, 49, 53] := by rw [← dec_two (u := 18446744073709551615) (by decide), show 18446744073709551615 / 10 = 1844674407370955161 from rfl, show 18446744073709551615 % 10 = 5 from rfl, dec_m18, dec_small (by decide)]; rfl
def kn20 : List UInt8 := [49, 56, 52, 52, 54, 55, 52, 52, 48, 55, 51, 55, 48, 57, 53, 53, 49, 54, 49, 53]
def knT1 : PT := .mk 1 [97] [] [] [] [.mk 4 [] [] [] [] []]
def knI1 : ItemD := ⟨18446744073709551615, 0, [], []⟩
def knN1 : NT := .mk 1 [97] [] [] [] [wordsN kn20]
theorem knT1_ok : ValidP knT1 := by decide
theorem knI1_ok : ItemOk knI1 := by decide
theorem knN1_is : node1 knI1 knT1 = knN1 := by
  have h : knI1.key.toNat = 18446744073709551615 := rfl
  simp [node1, knT1, Tr.tag, Tr.key, Tr.as, Tr.kids, madesF, madeF, h, dec_m19, knN1, kn20]
theorem knN1_ok : Valid knN1 := by decide
theorem knR1 : rendE knT1 knI1 2 = 0 := rend_ok (by decide) knT1_ok knI1_ok (by rw [knN1_is, cntF, if_pos knN1_ok]; decide)
theorem knRN1 : rendN knT1 knI1 2 = knN1 := by rw [rendN_ok knR1, knN1_is]
def knW : List PT := [.mk 0 [] [] [] [] [], .mk 6 [] [] [] [] [], .mk 3 [] [] [] [120] [], .mk 4 [97] [] [] [] [], .mk 2 [] [107] [] [] [], .mk 5 [] [] [] [] [], .mk 5 [97] [107] [] [] [], .mk 5 [97] [] [] [] [.mk 3 [] [] [] [] []], .mk 1 [97] [] [] [120] [], .mk 1 [97] [] [⟨[98], 4, []⟩] [] [], .mk 1 [97] [] [⟨[98], 1, [120]⟩] [] [], .mk 1 [97] [] [⟨[98], 0, []⟩, ⟨[98], 0, []⟩] [] []]
theorem knW_no : ∀ X ∈ knW, ¬ ValidP (.mk 1 [97] [] [] [] [X]) ∧ (X.kind = 1 → ¬ ValidP X) := by decide
def knB : PT := .mk 1 [98] [] [] [] [.mk 5 [99] [] [] [] []]
def knT2 : PT := .mk 1 [97] [] [] [] [knB, knB]
def knM : List (List UInt8) := [[97], [98], [99], [100], [101], [102], [103], [104], [105]]
def knI8 : ItemD := ⟨1, 0, [], knM.take 8⟩
def knI9 : ItemD := ⟨1, 0, [], knM⟩
theorem knT2_ok : ValidP knT2 := by decide
theorem knI8_ok : ItemOk knI8 := by decide
theorem knI9_no : ¬ ItemOk knI9 := by decide
def knE (m : List UInt8) : NT := .mk 1 [99] m [] [] [wordsN m]
def knN35 : NT := .mk 1 [97] [] [] [] [.mk 1 [98] [] [] [] ((knM.take 8).map knE), .mk 1 [98] [] [] [] ((knM.take 8).map knE)]
theorem knN35_is : node1 knI8 knT2 = knN35 := by
  simp [node1, knT2, knB, Tr.tag, Tr.key, Tr.as, Tr.kids, madesF, madeF, knI8, knN35, eachN, knE, knM]
set_option maxRecDepth 20000 in
theorem knN35_ok : Valid knN35 := by decide
theorem knC35 : cntF knN35 = 35 := by rw [cntF, if_pos knN35_ok]; rfl
theorem knR35 : rendE knT2 knI8 35 = 0 := rend_ok (by decide) knT2_ok knI8_ok (by rw [knN35_is, knC35]; decide)
theorem knRN35 : rendN knT2 knI8 35 = knN35 := by rw [rendN_ok knR35, knN35_is]
theorem knR34 : rendE knT2 knI8 34 = 14 := rend_many (by decide) knT2_ok knI8_ok (by rw [knN35_is, knC35]; decide)
theorem knR34N : rendN knT2 knI8 34 = zeroN := rendN_no (by rw [knR34]; decide)
theorem knR9 : rendE knT2 knI9 64 = 6 := rend_item (by decide) knT2_ok knI9_no
theorem knR9N : rendN knT2 knI9 64 = zeroN := rendN_no (by rw [knR9]; decide)
theorem knNd8 : nodesF knT2 8 = (35, 0) := by rw [show (8 : Int) = ((8 : Nat) : Int) from rfl, nodesF_ok knT2_ok (by decide)]; rfl
theorem knNd8a : (nodesF knT2 8).1 = 35 := by rw [knNd8]
theorem knNd8b : (nodesF knT2 8).2 = 0 := by rw [knNd8]
theorem knNd9a : (nodesF knT2 9).1 = 0 := by rw [nodesF_arg knT2_ok (by decide)]
theorem knNd9b : (nodesF knT2 9).2 = 1 := by rw [nodesF_arg knT2_ok (by decide)]
theorem kn1_k {X : PT} : inKind .u8 (.mk 1 [97] [] [] [] [X] : PT).kind := ⟨by show (0 : Int) ≤ 1; decide, by show (1 : Int) ≤ 255; decide⟩
theorem kn1_l {X : PT} : (.mk 1 [97] [] [] [] [X] : PT).tag.length ≤ 9223372036854775807 ∧ (.mk 1 [97] [] [] [] [X] : PT).key.length ≤ 9223372036854775807 ∧ (.mk 1 [97] [] [] [] [X] : PT).text.length ≤ 9223372036854775807 := ⟨by show 1 ≤ _; decide, Nat.zero_le _, Nat.zero_le _⟩
/-- The cells themselves. -/
def rdRaw : Rd (List Value) := fun _ cs x => cs = x
theorem mono_rdRaw : Mono rdRaw := fun _ _ _ _ _ h => h
theorem raw_cyc {G : Ghost} {v : Value} {ca : Option Addr} {cc : Nat} (S : RdSl rdRaw 6 G v [[.int .u8 (1), .string (str ([97] : List UInt8)), .string (str ([] : List UInt8)), .slice none (0) (0), .string (str ([] : List UInt8)), .slice (ca) (1) (cc)]]) : RdSl (rdCyc ca cc) 6 G v [()] := by
  obtain ⟨a, c, h1, h2, h3, h4⟩ := S
  refine ⟨a, c, h1, h2, h3, ?_⟩
  rcases h4 with h4 | ⟨b, o, h5, h6⟩
  · cases h4.2
  · refine Or.inr ⟨b, o, h5, fun i x hx => ?_⟩
    have hi : i < 1 := lt_of_get hx
    obtain ⟨cs, h7, h10, h8, h9⟩ := h6 i [.int .u8 (1), .string (str ([97] : List UInt8)), .string (str ([] : List UInt8)), .slice none (0) (0), .string (str ([] : List UInt8)), .slice (ca) (1) (cc)] (by rw [show i = 0 by omega]; rfl)
    exact ⟨cs, h7, h10, h8, h9⟩
set_option maxRecDepth 4000 in
theorem known_ret {w0 w : World} {G : Ghost} {L : List Res} (M : Mem w0 G L w) : Calls Tryz.prog 8 #[] w (Ret w0 G L fun _ v => v = .bool true) := by
  refine calls_start (vs := []) Tryz.func8 rfl (n := 181) rfl rfl ?_
  intro a F
  refine wp_seq <| w_reg <| rl_run F (run_assign (F.ev rfl)) rfl ?_; clear F a; intro a F
  refine rl_nil <| q_tn <| wp_seq <| w_reg <| rl_run F (run_buildS (cs := [.int .u8 (4), .string (str ([] : List UInt8)), .string (str ([] : List UInt8)), .slice none (0) (0), .string (str ([] : List UInt8)), .slice none (0) (0)]) (ps := [(0, .int .u8 (4))]) tok46.k rfl tok46 (F.evp rfl) rfl) rfl ?_; clear F a; intro a F
  refine rl_buildSlice1 F M tok44.k tok46 rfl rfl (cs := [.int .u8 (4), .string (str ([] : List UInt8)), .string (str ([] : List UInt8)), .slice none (0) (0), .string (str ([] : List UInt8)), .slice none (0) (0)]) rfl rfl (by simp [Value.oneCell']) (by decide) rfl ?_; clear F M a; intro v1 w a M F
  obtain ⟨av1, cv1, rfl, hlev1, hcmv1, hlv1⟩ := M.row_shape (k := 0) rfl
  have E2 : Els rdP 6 G [.int .u8 (4), .string (str ([] : List UInt8)), .string (str ([] : List UInt8)), .slice none (0) (0), .string (str ([] : List UInt8)), .slice none (0) (0)] [(.mk 4 [] [] [] [] [] : PT)] := Els.one (rdT_close (x := (.mk 4 [] [] [] [] [] : PT)) ⟨by decide, by decide⟩ ⟨by decide, by decide, by decide⟩ RdSl.nil RdSl.nil) rfl
  refine rl_run F (run_buildS (cs := [.int .u8 (1), .string (str ([97] : List UInt8)), .string (str ([] : List UInt8)), .slice none (0) (0), .string (str ([] : List UInt8)), .slice (av1) (1) (cv1)]) (ps := [(0, .int .u8 (1)), (1, .string (str ([97] : List UInt8))), (5, .slice (av1) (1) (cv1))]) tok46.k rfl tok46 (F.evp rfl) rfl) rfl ?_; clear F a; intro a F
  refine rl_alloc F M tok46 rfl rfl ?_; clear F M a; intro b3 w a M F
  refine rl_storeA F M tok46 (k := 0) rfl rfl rfl (us := [.int .u8 (1), .string (str ([97] : List UInt8)), .string (str ([] : List UInt8)), .slice none (0) (0), .string (str ([] : List UInt8)), .slice (av1) (1) (cv1)]) rfl rfl (by simp [Value.oneCell']) (by simp) ?_; clear F M a; intro w a M F
  change Mem w0 G (.blk b3 [.int .u8 (1), .string (str ([97] : List UInt8)), .string (str ([] : List UInt8)), .slice none (0) (0), .string (str ([] : List UInt8)), .slice (av1) (1) (cv1)] 46 :: .row (.slice (av1) (1) (cv1)) (1) ([.int .u8 (4), .string (str ([] : List UInt8)), .string (str ([] : List UInt8)), .slice none (0) (0), .string (str ([] : List UInt8)), .slice none (0) (0)]) 46 6 :: L) _ at M
  refine rl_nil <| q_tn <| wp_seq ?_
  replace M := M.perm (perm_front _ 1 _ rfl)
  change Mem w0 G (.row (.slice (av1) (1) (cv1)) (1) ([.int .u8 (4), .string (str ([] : List UInt8)), .string (str ([] : List UInt8)), .slice none (0) (0), .string (str ([] : List UInt8)), .slice none (0) (0)]) 46 6 :: .blk b3 [.int .u8 (1), .string (str ([97] : List UInt8)), .string (str ([] : List UInt8)), .slice none (0) (0), .string (str ([] : List UInt8)), .slice (av1) (1) (cv1)] 46 :: L) _ at M
  have E2ql5 := E2
  obtain ⟨Gl5, hGl5, Sl5, backl5, M⟩ : ∃ G1, Gle G G1 ∧ RdSl rdP 6 G1 (.slice (av1) (1) (cv1)) [(.mk 4 [] [] [] [] [] : PT)] ∧ (∀ (w' : World) (G'' : Ghost) (L' : List Res), Gle G1 G'' → Mem w0 G'' L' w' → ∃ G3, Gle G G3 ∧ Mem w0 G3 (.row (.slice (av1) (1) (cv1)) (1) ([.int .u8 (4), .string (str ([] : List UInt8)), .string (str ([] : List UInt8)), .slice none (0) (0), .string (str ([] : List UInt8)), .slice none (0) (0)]) 46 6 :: L') w') ∧ Mem w0 G1 (.blk b3 [.int .u8 (1), .string (str ([97] : List UInt8)), .string (str ([] : List UInt8)), .slice none (0) (0), .string (str ([] : List UInt8)), .slice (av1) (1) (cv1)] 46 :: L) _ := by
    obtain ⟨G1, h1, h2, h3, h4⟩ := memLend mono_rdP M (show Els rdP 6 G _ [(.mk 4 [] [] [] [] [] : PT)] from E2) (by decide)
    exact ⟨G1, h1, h2, h4, h3⟩
  refine w_reg <| rl_run F (run_loadA tok46 rfl (F.ev rfl) (cs := [.int .u8 (1), .string (str ([97] : List UInt8)), .string (str ([] : List UInt8)), .slice none (0) (0), .string (str ([] : List UInt8)), .slice (av1) (1) (cv1)]) rfl (M.cellsL (k := 0) rfl rfl)) rfl ?_; clear F a; intro a F
  refine rl_run F (run_buildS (cs := [.int .u64 (18446744073709551615), .int .u8 (0), .string (str ([] : List UInt8)), .slice none (0) (0)]) (ps := [(0, .int .u64 (18446744073709551615))]) tok51.k rfl tok51 (F.evp rfl) rfl) rfl ?_; clear F a; intro a F
  refine rl_call F ent22 rfl rfl (trender_at (p := knT1) (x := knI1) (most := 2) (e := 0) (nn := knN1) M ⟨by decide, by decide⟩ ⟨by decide, by decide, by decide⟩ RdSl.nil Sl5 (by decide) RdSl.nil ⟨by decide, by decide⟩ knR1 knRN1) ?_; clear F M a; rintro _ Gk6 w a hGk6 M ⟨tak6, tck6, kak6, kck6, rfl, hkk6, hlk6, SAk6, SKk6⟩ F
  replace Sl5 := Sl5.mono mono_rdP hGk6
  refine rl_run F (run_move (F.ev rfl)) rfl ?_; clear F a; intro a F
  refine rl_run F (run_extract (v := .agg #[.int .u8 (knN1.kind), .string (str (knN1.tag)), .string (str (knN1.key)), .slice (tak6) (knN1.as.length) (tck6), .string (str (knN1.text)), .slice (kak6) (knN1.kids.length) (kck6)]) (F.ev rfl) rfl) rfl ?_; clear F a; intro a F
  refine rl_run F (run_extract (v := .int .i64 (0)) (F.ev rfl) rfl) rfl ?_; clear F a; intro a F
  refine rl_alloc F M tok30 rfl rfl ?_; clear F M a; intro b7 w a M F
  refine rl_storeA F M tok30 (k := 0) rfl rfl rfl (us := [.int .u8 (knN1.kind), .string (str (knN1.tag)), .string (str (knN1.key)), .slice (tak6) (knN1.as.length) (tck6), .string (str (knN1.text)), .slice (kak6) (knN1.kids.length) (kck6)]) rfl rfl (by simp [Value.oneCell']) (by simp) ?_; clear F M a; intro w a M F
  change Mem w0 Gk6 (.blk b7 [.int .u8 (knN1.kind), .string (str (knN1.tag)), .string (str (knN1.key)), .slice (tak6) (knN1.as.length) (tck6), .string (str (knN1.text)), .slice (kak6) (knN1.kids.length) (kck6)] 30 :: .blk b3 [.int .u8 (1), .string (str ([97] : List UInt8)), .string (str ([] : List UInt8)), .slice none (0) (0), .string (str ([] : List UInt8)), .slice (av1) (1) (cv1)] 46 :: L) _ at M
  refine rl_run F (run_assign (F.ev rfl)) rfl ?_; clear F a; intro a F
  refine rl_nil <| q_tn ?_
  iterate 2 (refine wp_seq ?_)
  refine w_reg <| rl_run F (run_move (F.ev rfl)) rfl ?_; clear F a; intro a F
  refine rl_run F (run_nei (F.ev rfl) (F.ev rfl)) rfl ?_; clear F a; intro a F
  refine rl_run F (run_move (F.ev rfl)) rfl ?_; clear F a; intro a F
  refine rl_guard_t F rfl rfl rfl (not_f (decide_eq_true (by decide))) ?_
  refine rl_run F (run_fieldAddr tok30.k rfl rfl (F.ev rfl)) rfl ?_; clear F a; intro a F
  refine rl_guard_t F rfl rfl rfl (not_f (decide_eq_true (by decide))) ?_
  refine rl_run F (run_load1 (agf tok28 rfl) (F.ev rfl) (M.cellL (k := 0) rfl rfl)) rfl ?_; clear F a; intro a F
  refine rl_guard_t F rfl rfl rfl (not_f (decide_eq_true (by decide))) ?_
  refine rl_run F (run_lenSl tok28.k (F.ev rfl)) rfl ?_; clear F a; intro a F
  refine rl_guard_t F rfl rfl rfl (not_f (decide_eq_true (by decide))) ?_
  refine rl_run F (run_nei (F.ev rfl) (F.ev rfl)) rfl ?_; clear F a; intro a F
  refine rl_run F (run_pick_f (F.ev rfl) (not_f (decide_eq_true (by decide))) (F.ev rfl)) rfl ?_; clear F a; intro a F
  refine rl_run F (run_move (F.ev rfl)) rfl ?_; clear F a; intro a F
  refine rl_guard_t F rfl rfl rfl (not_f (decide_eq_true (by decide))) ?_
  refine rl_run F (run_fieldAddr tok30.k rfl rfl (F.ev rfl)) rfl ?_; clear F a; intro a F
  refine rl_guard_t F rfl rfl rfl (not_f (decide_eq_true (by decide))) ?_
  refine rl_run F (run_load1 (agf tok28 rfl) (F.ev rfl) (M.cellL (k := 0) rfl rfl)) rfl ?_; clear F a; intro a F
  refine rl_guard_t F rfl rfl rfl (not_f (decide_eq_true (by decide))) ?_
  obtain ⟨be9, oe9, _, Ie9, _, Ae9, hTe9⟩ := SKk6.at (show knN1.kids[0]? = some (wordsN kn20) from rfl)
  obtain ⟨tae9, tce9, kae9, kce9, rfl, hke9, hle9, SAe9, SKe9⟩ := rdT_open hTe9
  refine rl_run F (run_indexI tok28.k tok30 (F.ev rfl) (F.ev rfl) (by omega) Ie9) rfl ?_; clear F a; intro a F
  refine rl_guard_t F rfl rfl rfl (not_f (decide_eq_true (by decide))) ?_
  refine rl_run F (run_fieldAddr tok30.k rfl rfl (F.ev rfl)) rfl ?_; clear F a; intro a F
  refine rl_guard_t F rfl rfl rfl (not_f (decide_eq_true (by decide))) ?_
  refine rl_run F (run_load1 (agf tok9 rfl) (F.ev rfl) (M.cellA Ae9 4 rfl rfl)) rfl ?_; clear F a; intro a F
  refine rl_guard_t F rfl rfl rfl (not_f (decide_eq_true (by decide))) ?_
  refine rl_run F (run_strNe (F.ev rfl) (F.ev rfl)) rfl ?_; clear F a; intro a F
  refine rl_run F (run_pick_f (F.ev rfl) (not_f (decide_eq_true (by decide))) (F.ev rfl)) rfl ?_; clear F a; intro a F
  refine rl_nil <| q_tn <| w_cond_f F rfl (not_f (decide_eq_true rfl)) ?_
  refine wp_skip <| q_tn <| wp_seq ?_
  obtain ⟨Gt10, hGt10, M⟩ := backl5 _ _ _ hGk6 M
  clear backl5
  replace E2 := E2ql5
  replace E2 := E2.mono mono_rdP hGt10
  clear E2ql5
  refine w_reg <| rl_run F (run_buildS (cs := [.int .u8 (0), .string (str ([] : List UInt8)), .string (str ([] : List UInt8)), .slice none (0) (0), .string (str ([] : List UInt8)), .slice none (0) (0)]) (ps := [(0, .int .u8 (0))]) tok46.k rfl tok46 (F.evp rfl) rfl) rfl ?_; clear F a; intro a F
  refine rl_run F (run_buildS (cs := [.int .u8 (6), .string (str ([] : List UInt8)), .string (str ([] : List UInt8)), .slice none (0) (0), .string (str ([] : List UInt8)), .slice none (0) (0)]) (ps := [(0, .int .u8 (6))]) tok46.k rfl tok46 (F.evp rfl) rfl) rfl ?_; clear F a; intro a F
  refine rl_run F (run_buildS (cs := [.int .u8 (3), .string (str ([] : List UInt8)), .string (str ([] : List UInt8)), .slice none (0) (0), .string (str ([120] : List UInt8)), .slice none (0) (0)]) (ps := [(0, .int .u8 (3)), (4, .string (str ([120] : List UInt8)))]) tok46.k rfl tok46 (F.evp rfl) rfl) rfl ?_; clear F a; intro a F
  refine rl_run F (run_buildS (cs := [.int .u8 (4), .string (str ([97] : List UInt8)), .string (str ([] : List UInt8)), .slice none (0) (0), .string (str ([] : List UInt8)), .slice none (0) (0)]) (ps := [(0, .int .u8 (4)), (1, .string (str ([97] : List UInt8)))]) tok46.k rfl tok46 (F.evp rfl) rfl) rfl ?_; clear F a; intro a F
  refine rl_run F (run_buildS (cs := [.int .u8 (2), .string (str ([] : List UInt8)), .string (str ([107] : List UInt8)), .slice none (0) (0), .string (str ([] : List UInt8)), .slice none (0) (0)]) (ps := [(0, .int .u8 (2)), (2, .string (str ([107] : List UInt8)))]) tok46.k rfl tok46 (F.evp rfl) rfl) rfl ?_; clear F a; intro a F
  refine rl_run F (run_buildS (cs := [.int .u8 (5), .string (str ([] : List UInt8)), .string (str ([] : List UInt8)), .slice none (0) (0), .string (str ([] : List UInt8)), .slice none (0) (0)]) (ps := [(0, .int .u8 (5))]) tok46.k rfl tok46 (F.evp rfl) rfl) rfl ?_; clear F a; intro a F
  refine rl_run F (run_buildS (cs := [.int .u8 (5), .string (str ([97] : List UInt8)), .string (str ([107] : List UInt8)), .slice none (0) (0), .string (str ([] : List UInt8)), .slice none (0) (0)]) (ps := [(0, .int .u8 (5)), (1, .string (str ([97] : List UInt8))), (2, .string (str ([107] : List UInt8)))]) tok46.k rfl tok46 (F.evp rfl) rfl) rfl ?_; clear F a; intro a F
  refine rl_run F (run_buildS (cs := [.int .u8 (3), .string (str ([] : List UInt8)), .string (str ([] : List UInt8)), .slice none (0) (0), .string (str ([] : List UInt8)), .slice none (0) (0)]) (ps := [(0, .int .u8 (3))]) tok46.k rfl tok46 (F.evp rfl) rfl) rfl ?_; clear F a; intro a F
  refine rl_buildSlice1 F M tok44.k tok46 rfl rfl (cs := [.int .u8 (3), .string (str ([] : List UInt8)), .string (str ([] : List UInt8)), .slice none (0) (0), .string (str ([] : List UInt8)), .slice none (0) (0)]) rfl rfl (by simp [Value.oneCell']) (by decide) rfl ?_; clear F M a; intro v11 w a M F
  obtain ⟨av11, cv11, rfl, hlev11, hcmv11, hlv11⟩ := M.row_shape (k := 0) rfl
  have E12 : Els rdP 6 Gt10 [.int .u8 (3), .string (str ([] : List UInt8)), .string (str ([] : List UInt8)), .slice none (0) (0), .string (str ([] : List UInt8)), .slice none (0) (0)] [(.mk 3 [] [] [] [] [] : PT)] := Els.one (rdT_close (x := (.mk 3 [] [] [] [] [] : PT)) ⟨by decide, by decide⟩ ⟨by decide, by decide, by decide⟩ RdSl.nil RdSl.nil) rfl
  obtain ⟨hnz13, Gz13, az13, cz13, hGz13, hez13, Sz13, M⟩ := M.freeze_row mono_rdP (k := 0) rfl E12 (by decide)
  clear hez13 az13 cz13
  replace E2 := E2.mono mono_rdP hGz13
  clear hnz13
  refine rl_run F (run_buildS (cs := [.int .u8 (5), .string (str ([97] : List UInt8)), .string (str ([] : List UInt8)), .slice none (0) (0), .string (str ([] : List UInt8)), .slice (av11) (1) (cv11)]) (ps := [(0, .int .u8 (5)), (1, .string (str ([97] : List UInt8))), (5, .slice (av11) (1) (cv11))]) tok46.k rfl tok46 (F.evp rfl) rfl) rfl ?_; clear F a; intro a F
  refine rl_run F (run_buildS (cs := [.int .u8 (1), .string (str ([97] : List UInt8)), .string (str ([] : List UInt8)), .slice none (0) (0), .string (str ([120] : List UInt8)), .slice none (0) (0)]) (ps := [(0, .int .u8 (1)), (1, .string (str ([97] : List UInt8))), (4, .string (str ([120] : List UInt8)))]) tok46.k rfl tok46 (F.evp rfl) rfl) rfl ?_; clear F a; intro a F
  refine rl_run F (run_buildS (cs := [.string (str ([98] : List UInt8)), .int .u8 (4), .string (str ([] : List UInt8))]) (ps := [(0, .string (str ([98] : List UInt8))), (1, .int .u8 (4))]) tok76.k rfl tok76 (F.evp rfl) rfl) rfl ?_; clear F a; intro a F
  refine rl_buildSlice1 F M tok43.k tok76 rfl rfl (cs := [.string (str ([98] : List UInt8)), .int .u8 (4), .string (str ([] : List UInt8))]) rfl rfl (by simp [Value.oneCell']) (by decide) rfl ?_; clear F M a; intro v14 w a M F
  obtain ⟨av14, cv14, rfl, hlev14, hcmv14, hlv14⟩ := M.row_shape (k := 0) rfl
  have E15 : Els rdSlot 3 Gz13 [.string (str ([98] : List UInt8)), .int .u8 (4), .string (str ([] : List UInt8))] [(⟨[98], 4, []⟩ : SlotD)] := Els.one ⟨rfl, by decide, ⟨by decide, by decide⟩, by decide⟩ rfl
  obtain ⟨hnz16, Gz16, az16, cz16, hGz16, hez16, Sz16, M⟩ := M.freeze_row mono_rdSlot (k := 0) rfl E15 (by decide)
  clear hez16 az16 cz16
  replace E2 := E2.mono mono_rdP hGz16
  replace Sz13 := Sz13.mono mono_rdP hGz16
  clear hnz16
  refine rl_run F (run_buildS (cs := [.int .u8 (1), .string (str ([97] : List UInt8)), .string (str ([] : List UInt8)), .slice (av14) (1) (cv14), .string (str ([] : List UInt8)), .slice none (0) (0)]) (ps := [(0, .int .u8 (1)), (1, .string (str ([97] : List UInt8))), (3, .slice (av14) (1) (cv14))]) tok46.k rfl tok46 (F.evp rfl) rfl) rfl ?_; clear F a; intro a F
  refine rl_run F (run_buildS (cs := [.string (str ([98] : List UInt8)), .int .u8 (1), .string (str ([120] : List UInt8))]) (ps := [(0, .string (str ([98] : List UInt8))), (1, .int .u8 (1)), (2, .string (str ([120] : List UInt8)))]) tok76.k rfl tok76 (F.evp rfl) rfl) rfl ?_; clear F a; intro a F
  refine rl_buildSlice1 F M tok43.k tok76 rfl rfl (cs := [.string (str ([98] : List UInt8)), .int .u8 (1), .string (str ([120] : List UInt8))]) rfl rfl (by simp [Value.oneCell']) (by decide) rfl ?_; clear F M a; intro v17 w a M F
  obtain ⟨av17, cv17, rfl, hlev17, hcmv17, hlv17⟩ := M.row_shape (k := 0) rfl
  have E18 : Els rdSlot 3 Gz16 [.string (str ([98] : List UInt8)), .int .u8 (1), .string (str ([120] : List UInt8))] [(⟨[98], 1, [120]⟩ : SlotD)] := Els.one ⟨rfl, by decide, ⟨by decide, by decide⟩, by decide⟩ rfl
  obtain ⟨hnz19, Gz19, az19, cz19, hGz19, hez19, Sz19, M⟩ := M.freeze_row mono_rdSlot (k := 0) rfl E18 (by decide)
  clear hez19 az19 cz19
  replace E2 := E2.mono mono_rdP hGz19
  replace Sz13 := Sz13.mono mono_rdP hGz19
  replace Sz16 := Sz16.mono mono_rdSlot hGz19
  clear hnz19
  refine rl_run F (run_buildS (cs := [.int .u8 (1), .string (str ([97] : List UInt8)), .string (str ([] : List UInt8)), .slice (av17) (1) (cv17), .string (str ([] : List UInt8)), .slice none (0) (0)]) (ps := [(0, .int .u8 (1)), (1, .string (str ([97] : List UInt8))), (3, .slice (av17) (1) (cv17))]) tok46.k rfl tok46 (F.evp rfl) rfl) rfl ?_; clear F a; intro a F
  iterate 2 (refine rl_run F (run_buildS (cs := [.string (str ([98] : List UInt8)), .int .u8 (0), .string (str ([] : List UInt8))]) (ps := [(0, .string (str ([98] : List UInt8)))]) tok76.k rfl tok76 (F.evp rfl) rfl) rfl ?_; clear F a; intro a F)
  refine rl_buildSliceN F M tok43.k tok76 (ps := [(0, .agg #[.string (str ([98] : List UInt8)), .int .u8 (0), .string (str ([] : List UInt8))]), (1, .agg #[.string (str ([98] : List UInt8)), .int .u8 (0), .string (str ([] : List UInt8))])]) (cs := [[.string (str ([98] : List UInt8)), .int .u8 (0), .string (str ([] : List UInt8))], [.string (str ([98] : List UInt8)), .int .u8 (0), .string (str ([] : List UInt8))]]) (fl := [.string (str ([98] : List UInt8)), .int .u8 (0), .string (str ([] : List UInt8)), .string (str ([98] : List UInt8)), .int .u8 (0), .string (str ([] : List UInt8))]) rfl rfl (by simp [Parts, Value.cells]) (by simp [ti76]) rfl (by simp [Value.oneCell']) (by decide) (by decide) rfl ?_; clear F M a; intro v20 w a M F
  obtain ⟨av20, cv20, rfl, hlev20, hcmv20, hlv20⟩ := M.row_shape (k := 0) rfl
  have E21 : Els rdSlot 3 Gz19 [.string (str ([98] : List UInt8)), .int .u8 (0), .string (str ([] : List UInt8)), .string (str ([98] : List UInt8)), .int .u8 (0), .string (str ([] : List UInt8))] [(⟨[98], 0, []⟩ : SlotD), ⟨[98], 0, []⟩] := Els.cons (c := [_, _, _]) ⟨rfl, by decide, ⟨by decide, by decide⟩, by decide⟩ rfl (Els.one ⟨rfl, by decide, ⟨by decide, by decide⟩, by decide⟩ rfl)
  obtain ⟨hnz22, Gz22, az22, cz22, hGz22, hez22, Sz22, M⟩ := M.freeze_row mono_rdSlot (k := 0) rfl E21 (by decide)
  clear hez22 az22 cz22
  replace E2 := E2.mono mono_rdP hGz22
  replace Sz13 := Sz13.mono mono_rdP hGz22
  replace Sz16 := Sz16.mono mono_rdSlot hGz22
  replace Sz19 := Sz19.mono mono_rdSlot hGz22
  clear hnz22
  refine rl_run F (run_buildS (cs := [.int .u8 (1), .string (str ([97] : List UInt8)), .string (str ([] : List UInt8)), .slice (av20) (2) (cv20), .string (str ([] : List UInt8)), .slice none (0) (0)]) (ps := [(0, .int .u8 (1)), (1, .string (str ([97] : List UInt8))), (3, .slice (av20) (2) (cv20))]) tok46.k rfl tok46 (F.evp rfl) rfl) rfl ?_; clear F a; intro a F
  refine rl_buildSliceN F M tok44.k tok46 (ps := [(0, .agg #[.int .u8 (0), .string (str ([] : List UInt8)), .string (str ([] : List UInt8)), .slice none (0) (0), .string (str ([] : List UInt8)), .slice none (0) (0)]), (1, .agg #[.int .u8 (6), .string (str ([] : List UInt8)), .string (str ([] : List UInt8)), .slice none (0) (0), .string (str ([] : List UInt8)), .slice none (0) (0)]), (2, .agg #[.int .u8 (3), .string (str ([] : List UInt8)), .string (str ([] : List UInt8)), .slice none (0) (0), .string (str ([120] : List UInt8)), .slice none (0) (0)]), (3, .agg #[.int .u8 (4), .string (str ([97] : List UInt8)), .string (str ([] : List UInt8)), .slice none (0) (0), .string (str ([] : List UInt8)), .slice none (0) (0)]), (4, .agg #[.int .u8 (2), .string (str ([] : List UInt8)), .string (str ([107] : List UInt8)), .slice none (0) (0), .string (str ([] : List UInt8)), .slice none (0) (0)]), (5, .agg #[.int .u8 (5), .string (str ([] : List UInt8)), .string (str ([] : List UInt8)), .slice none (0) (0), .string (str ([] : List UInt8)), .slice none (0) (0)]), (6, .agg #[.int .u8 (5), .string (str ([97] : List UInt8)), .string (str ([107] : List UInt8)), .slice none (0) (0), .string (str ([] : List UInt8)), .slice none (0) (0)]), (7, .agg #[.int .u8 (5), .string (str ([97] : List UInt8)), .string (str ([] : List UInt8)), .slice none (0) (0), .string (str ([] : List UInt8)), .slice (av11) (1) (cv11)]), (8, .agg #[.int .u8 (1), .string (str ([97] : List UInt8)), .string (str ([] : List UInt8)), .slice none (0) (0), .string (str ([120] : List UInt8)), .slice none (0) (0)]), (9, .agg #[.int .u8 (1), .string (str ([97] : List UInt8)), .string (str ([] : List UInt8)), .slice (av14) (1) (cv14), .string (str ([] : List UInt8)), .slice none (0) (0)]), (10, .agg #[.int .u8 (1), .string (str ([97] : List UInt8)), .string (str ([] : List UInt8)), .slice (av17) (1) (cv17), .string (str ([] : List UInt8)), .slice none (0) (0)]), (11, .agg #[.int .u8 (1), .string (str ([97] : List UInt8)), .string (str ([] : List UInt8)), .slice (av20) (2) (cv20), .string (str ([] : List UInt8)), .slice none (0) (0)])]) (cs := [[.int .u8 (0), .string (str ([] : List UInt8)), .string (str ([] : List UInt8)), .slice none (0) (0), .string (str ([] : List UInt8)), .slice none (0) (0)], [.int .u8 (6), .string (str ([] : List UInt8)), .string (str ([] : List UInt8)), .slice none (0) (0), .string (str ([] : List UInt8)), .slice none (0) (0)], [.int .u8 (3), .string (str ([] : List UInt8)), .string (str ([] : List UInt8)), .slice none (0) (0), .string (str ([120] : List UInt8)), .slice none (0) (0)], [.int .u8 (4), .string (str ([97] : List UInt8)), .string (str ([] : List UInt8)), .slice none (0) (0), .string (str ([] : List UInt8)), .slice none (0) (0)], [.int .u8 (2), .string (str ([] : List UInt8)), .string (str ([107] : List UInt8)), .slice none (0) (0), .string (str ([] : List UInt8)), .slice none (0) (0)], [.int .u8 (5), .string (str ([] : List UInt8)), .string (str ([] : List UInt8)), .slice none (0) (0), .string (str ([] : List UInt8)), .slice none (0) (0)], [.int .u8 (5), .string (str ([97] : List UInt8)), .string (str ([107] : List UInt8)), .slice none (0) (0), .string (str ([] : List UInt8)), .slice none (0) (0)], [.int .u8 (5), .string (str ([97] : List UInt8)), .string (str ([] : List UInt8)), .slice none (0) (0), .string (str ([] : List UInt8)), .slice (av11) (1) (cv11)], [.int .u8 (1), .string (str ([97] : List UInt8)), .string (str ([] : List UInt8)), .slice none (0) (0), .string (str ([120] : List UInt8)), .slice none (0) (0)], [.int .u8 (1), .string (str ([97] : List UInt8)), .string (str ([] : List UInt8)), .slice (av14) (1) (cv14), .string (str ([] : List UInt8)), .slice none (0) (0)], [.int .u8 (1), .string (str ([97] : List UInt8)), .string (str ([] : List UInt8)), .slice (av17) (1) (cv17), .string (str ([] : List UInt8)), .slice none (0) (0)], [.int .u8 (1), .string (str ([97] : List UInt8)), .string (str ([] : List UInt8)), .slice (av20) (2) (cv20), .string (str ([] : List UInt8)), .slice none (0) (0)]]) (fl := [.int .u8 (0), .string (str ([] : List UInt8)), .string (str ([] : List UInt8)), .slice none (0) (0), .string (str ([] : List UInt8)), .slice none (0) (0), .int .u8 (6), .string (str ([] : List UInt8)), .string (str ([] : List UInt8)), .slice none (0) (0), .string (str ([] : List UInt8)), .slice none (0) (0), .int .u8 (3), .string (str ([] : List UInt8)), .string (str ([] : List UInt8)), .slice none (0) (0), .string (str ([120] : List UInt8)), .slice none (0) (0), .int .u8 (4), .string (str ([97] : List UInt8)), .string (str ([] : List UInt8)), .slice none (0) (0), .string (str ([] : List UInt8)), .slice none (0) (0), .int .u8 (2), .string (str ([] : List UInt8)), .string (str ([107] : List UInt8)), .slice none (0) (0), .string (str ([] : List UInt8)), .slice none (0) (0), .int .u8 (5), .string (str ([] : List UInt8)), .string (str ([] : List UInt8)), .slice none (0) (0), .string (str ([] : List UInt8)), .slice none (0) (0), .int .u8 (5), .string (str ([97] : List UInt8)), .string (str ([107] : List UInt8)), .slice none (0) (0), .string (str ([] : List UInt8)), .slice none (0) (0), .int .u8 (5), .string (str ([97] : List UInt8)), .string (str ([] : List UInt8)), .slice none (0) (0), .string (str ([] : List UInt8)), .slice (av11) (1) (cv11), .int .u8 (1), .string (str ([97] : List UInt8)), .string (str ([] : List UInt8)), .slice none (0) (0), .string (str ([120] : List UInt8)), .slice none (0) (0), .int .u8 (1), .string (str ([97] : List UInt8)), .string (str ([] : List UInt8)), .slice (av14) (1) (cv14), .string (str ([] : List UInt8)), .slice none (0) (0), .int .u8 (1), .string (str ([97] : List UInt8)), .string (str ([] : List UInt8)), .slice (av17) (1) (cv17), .string (str ([] : List UInt8)), .slice none (0) (0), .int .u8 (1), .string (str ([97] : List UInt8)), .string (str ([] : List UInt8)), .slice (av20) (2) (cv20), .string (str ([] : List UInt8)), .slice none (0) (0)]) rfl rfl (by simp [Parts, Value.cells]) (by simp [ti46]) rfl (by simp [Value.oneCell']) (by decide) (by decide) rfl ?_; clear F M a; intro v23 w a M F
  obtain ⟨av23, cv23, rfl, hlev23, hcmv23, hlv23⟩ := M.row_shape (k := 0) rfl
  have E24 : Els rdP 6 Gz22 [.int .u8 (0), .string (str ([] : List UInt8)), .string (str ([] : List UInt8)), .slice none (0) (0), .string (str ([] : List UInt8)), .slice none (0) (0), .int .u8 (6), .string (str ([] : List UInt8)), .string (str ([] : List UInt8)), .slice none (0) (0), .string (str ([] : List UInt8)), .slice none (0) (0), .int .u8 (3), .string (str ([] : List UInt8)), .string (str ([] : List UInt8)), .slice none (0) (0), .string (str ([120] : List UInt8)), .slice none (0) (0), .int .u8 (4), .string (str ([97] : List UInt8)), .string (str ([] : List UInt8)), .slice none (0) (0), .string (str ([] : List UInt8)), .slice none (0) (0), .int .u8 (2), .string (str ([] : List UInt8)), .string (str ([107] : List UInt8)), .slice none (0) (0), .string (str ([] : List UInt8)), .slice none (0) (0), .int .u8 (5), .string (str ([] : List UInt8)), .string (str ([] : List UInt8)), .slice none (0) (0), .string (str ([] : List UInt8)), .slice none (0) (0), .int .u8 (5), .string (str ([97] : List UInt8)), .string (str ([107] : List UInt8)), .slice none (0) (0), .string (str ([] : List UInt8)), .slice none (0) (0), .int .u8 (5), .string (str ([97] : List UInt8)), .string (str ([] : List UInt8)), .slice none (0) (0), .string (str ([] : List UInt8)), .slice (av11) (1) (cv11), .int .u8 (1), .string (str ([97] : List UInt8)), .string (str ([] : List UInt8)), .slice none (0) (0), .string (str ([120] : List UInt8)), .slice none (0) (0), .int .u8 (1), .string (str ([97] : List UInt8)), .string (str ([] : List UInt8)), .slice (av14) (1) (cv14), .string (str ([] : List UInt8)), .slice none (0) (0), .int .u8 (1), .string (str ([97] : List UInt8)), .string (str ([] : List UInt8)), .slice (av17) (1) (cv17), .string (str ([] : List UInt8)), .slice none (0) (0), .int .u8 (1), .string (str ([97] : List UInt8)), .string (str ([] : List UInt8)), .slice (av20) (2) (cv20), .string (str ([] : List UInt8)), .slice none (0) (0)] knW := Els.cons (c := [_, _, _, _, _, _]) (rdT_close (x := (.mk 0 [] [] [] [] [] : PT)) ⟨by decide, by decide⟩ ⟨by decide, by decide, by decide⟩ RdSl.nil RdSl.nil) rfl (Els.cons (c := [_, _, _, _, _, _]) (rdT_close (x := (.mk 6 [] [] [] [] [] : PT)) ⟨by decide, by decide⟩ ⟨by decide, by decide, by decide⟩ RdSl.nil RdSl.nil) rfl (Els.cons (c := [_, _, _, _, _, _]) (rdT_close (x := (.mk 3 [] [] [] [120] [] : PT)) ⟨by decide, by decide⟩ ⟨by decide, by decide, by decide⟩ RdSl.nil RdSl.nil) rfl (Els.cons (c := [_, _, _, _, _, _]) (rdT_close (x := (.mk 4 [97] [] [] [] [] : PT)) ⟨by decide, by decide⟩ ⟨by decide, by decide, by decide⟩ RdSl.nil RdSl.nil) rfl (Els.cons (c := [_, _, _, _, _, _]) (rdT_close (x := (.mk 2 [] [107] [] [] [] : PT)) ⟨by decide, by decide⟩ ⟨by decide, by decide, by decide⟩ RdSl.nil RdSl.nil) rfl (Els.cons (c := [_, _, _, _, _, _]) (rdT_close (x := (.mk 5 [] [] [] [] [] : PT)) ⟨by decide, by decide⟩ ⟨by decide, by decide, by decide⟩ RdSl.nil RdSl.nil) rfl (Els.cons (c := [_, _, _, _, _, _]) (rdT_close (x := (.mk 5 [97] [107] [] [] [] : PT)) ⟨by decide, by decide⟩ ⟨by decide, by decide, by decide⟩ RdSl.nil RdSl.nil) rfl (Els.cons (c := [_, _, _, _, _, _]) (rdT_close (x := (.mk 5 [97] [] [] [] [.mk 3 [] [] [] [] []] : PT)) ⟨by decide, by decide⟩ ⟨by decide, by decide, by decide⟩ RdSl.nil Sz13) rfl (Els.cons (c := [_, _, _, _, _, _]) (rdT_close (x := (.mk 1 [97] [] [] [120] [] : PT)) ⟨by decide, by decide⟩ ⟨by decide, by decide, by decide⟩ RdSl.nil RdSl.nil) rfl (Els.cons (c := [_, _, _, _, _, _]) (rdT_close (x := (.mk 1 [97] [] [⟨[98], 4, []⟩] [] [] : PT)) ⟨by decide, by decide⟩ ⟨by decide, by decide, by decide⟩ Sz16 RdSl.nil) rfl (Els.cons (c := [_, _, _, _, _, _]) (rdT_close (x := (.mk 1 [97] [] [⟨[98], 1, [120]⟩] [] [] : PT)) ⟨by decide, by decide⟩ ⟨by decide, by decide, by decide⟩ Sz19 RdSl.nil) rfl (Els.one (rdT_close (x := (.mk 1 [97] [] [⟨[98], 0, []⟩, ⟨[98], 0, []⟩] [] [] : PT)) ⟨by decide, by decide⟩ ⟨by decide, by decide, by decide⟩ Sz22 RdSl.nil) rfl)))))))))))
  obtain ⟨hnz25, Gz25, az25, cz25, hGz25, hez25, Sz25, M⟩ := M.freeze_row mono_rdP (k := 0) rfl E24 (by decide)
  clear hez25 az25 cz25
  replace E2 := E2.mono mono_rdP hGz25
  replace Sz13 := Sz13.mono mono_rdP hGz25
  replace Sz16 := Sz16.mono mono_rdSlot hGz25
  replace Sz19 := Sz19.mono mono_rdSlot hGz25
  replace Sz22 := Sz22.mono mono_rdSlot hGz25
  clear hnz25
  refine rl_run F (run_assign (F.ev rfl)) rfl ?_; clear F a; intro a F
  refine rl_nil <| q_tn ?_
  iterate 2 (refine wp_seq ?_)
  refine w_reg <| rl_run F (run_assign (F.ev rfl)) rfl ?_; clear F a; intro a F
  refine rl_nil <| q_tn <| wp_block <| w_loopN (fun m a' w' => ∃ (i : Nat), ∃ (csr : List Value), ∃ (yr : PT), m = 12 - i ∧ ∃ G26, Gle Gz25 G26 ∧ Fits 181 a' [(1, .pointer (some ⟨b3, 0, none⟩)), (4, .slice (av23) (12) (cv23)), (5, .int .i64 (((i : Nat) : Int)))] ∧ Mem w0 G26 (.row (.slice (av1) (1) (cv1)) (1) (csr) 46 6 :: .blk b7 [.int .u8 (knN1.kind), .string (str (knN1.tag)), .string (str (knN1.key)), .slice (tak6) (knN1.as.length) (tck6), .string (str (knN1.text)), .slice (kak6) (knN1.kids.length) (kck6)] 30 :: .blk b3 [.int .u8 (1), .string (str ([97] : List UInt8)), .string (str ([] : List UInt8)), .slice none (0) (0), .string (str ([] : List UInt8)), .slice (av1) (1) (cv1)] 46 :: L) w' ∧ (i ≤ 12) ∧ (Els rdP 6 G26 csr [yr])) _ ⟨0, ([.int .u8 (4), .string (str ([] : List UInt8)), .string (str ([] : List UInt8)), .slice none (0) (0), .string (str ([] : List UInt8)), .slice none (0) (0)]), _, rfl, Gz25, Gle.refl _, F.to ⟨rfl, rfl, rfl, trivial⟩, M, by omega, E2⟩ ?_
  clear F M
  rintro m a w ⟨i, csr, yr, rfl, G26, hG26, F, M, hi, Er⟩
  replace Sz13 := Sz13.mono mono_rdP hG26
  replace Sz16 := Sz16.mono mono_rdSlot hG26
  replace Sz19 := Sz19.mono mono_rdSlot hG26
  replace Sz22 := Sz22.mono mono_rdSlot hG26
  replace Sz25 := Sz25.mono mono_rdP hG26
  iterate 2 (refine wp_seq ?_)
  have h12 : knW.length = 12 := rfl
  refine w_reg ?_
  iterate 2 (refine rl_run F (run_move (F.ev rfl)) rfl ?_; clear F a; intro a F)
  refine rl_run F (run_lenSl tok44.k (F.ev rfl)) rfl ?_; clear F a; intro a F
  refine rl_run F (run_lss (F.ev rfl) (F.ev rfl)) rfl ?_; clear F a; intro a F
  refine rl_nil <| q_tn <| w_cond F rfl ?_ ?_
  · intro hc
    have h27b := hc; clear hc
    have h27 : ((i : Nat) : Int) < ((12 : Nat) : Int) := of_decide_eq_true h27b
    refine wp_skip <| q_tn <| wp_seq <| wp_block <| wp_seq <| w_plan [(true, 0), (true, 1), (true, 2), (true, 3), (true, 4), (true, 5), (true, 6), (false, 7)] (Keep G26 [.blk b7 [.int .u8 (knN1.kind), .string (str (knN1.tag)), .string (str (knN1.key)), .slice (tak6) (knN1.as.length) (tck6), .string (str (knN1.text)), .slice (kak6) (knN1.kids.length) (kck6)] 30, .blk b3 [.int .u8 (1), .string (str ([97] : List UInt8)), .string (str ([] : List UInt8)), .slice none (0) (0), .string (str ([] : List UInt8)), .slice (av1) (1) (cv1)] 46]) rfl (by kernel_rfl) (fun c a d v w h => by cases d <;> exact h) ((M.drew _).keep (Gle.refl _) (by simp)) ?_
    replace M := M.drew (w.drawn + 1)
    refine pl_run F (fun w M => run_fieldAddr tok46.k rfl rfl (F.ev rfl)) rfl ?_; clear F a; intro a F
    refine pl_run F (fun w M => run_load1 (agf tok44 rfl) (F.ev rfl) (M.cellL (k := 1) rfl rfl)) rfl ?_; clear F a; intro a F
    iterate 2 (refine pl_run F (fun w M => run_move (F.ev rfl)) rfl ?_; clear F a; intro a F)
    obtain ⟨Xe28, hXe28⟩ := get_of_lt (xs := knW) (i := i) (by omega)
    obtain ⟨be28, oe28, _, Ie28, _, Ae28, hTe28⟩ := Sz25.at hXe28
    obtain ⟨tae28, tce28, kae28, kce28, rfl, hke28, hle28, SAe28, SKe28⟩ := rdT_open hTe28
    refine pl_run F (fun w M => run_indexI tok44.k tok46 (F.ev rfl) (F.ev rfl) (by omega) Ie28) rfl ?_; clear F a; intro a F
    refine pl_run F (fun w M => run_loadA tok46 rfl (F.ev rfl) (cs := [.int .u8 (Xe28.kind), .string (str (Xe28.tag)), .string (str (Xe28.key)), .slice (tae28) (Xe28.as.length) (tce28), .string (str (Xe28.text)), .slice (kae28) (Xe28.kids.length) (kce28)]) rfl (M.cellsA Ae28 0 (by omega) rfl)) rfl ?_; clear F a; intro a F
    obtain ⟨Xe29, hXe29⟩ := get_of_lt (xs := [yr]) (i := 0) (by exact Nat.one_pos)
    obtain ⟨be29, _, Ie29, hme29, _, Ae29, hTe29⟩ := M.atRow (k := 0) rfl (by decide) Er hXe29
    obtain ⟨tae29, tce29, kae29, kce29, rfl, hke29, hle29, SAe29, SKe29⟩ := rdT_open hTe29
    refine pl_run F (fun w M => run_indexI tok44.k tok46 (F.ev rfl) (F.ev rfl) (by omega) Ie29) rfl ?_; clear F a; intro a F
    refine pl_act ?_ rfl
    refine rl_storeEl F M tok46 (k := 0) rfl rfl Er Ie29 (lt_of_get hXe29) rfl rfl (us := [.int .u8 (Xe28.kind), .string (str (Xe28.tag)), .string (str (Xe28.key)), .slice (tae28) (Xe28.as.length) (tce28), .string (str (Xe28.text)), .slice (kae28) (Xe28.kids.length) (kce28)]) rfl rfl (by simp [Value.oneCell']) (X' := Xe28) (rdT_close (x := Xe28) hke28 hle28 SAe28 SKe28) ?_; clear F M a; intro csu30 w a M Eu30 F
    refine rl_nil <| ⟨Keep G26 [.blk b7 [.int .u8 (knN1.kind), .string (str (knN1.tag)), .string (str (knN1.key)), .slice (tak6) (knN1.as.length) (tck6), .string (str (knN1.text)), .slice (kak6) (knN1.kids.length) (kck6)] 30, .blk b3 [.int .u8 (1), .string (str ([97] : List UInt8)), .string (str ([] : List UInt8)), .slice none (0) (0), .string (str ([] : List UInt8)), .slice (av1) (1) (cv1)] 46], M.keep (Gle.refl _) (by simp), fun w h => h.mono (Gle.refl _) (by simp), ?_⟩
    refine pl_nil <| q_tn <| wp_seq ?_
    have hw9 := knW_no Xe28 (List.mem_of_getElem? hXe28)
    change Mem w0 G26 (.row (.slice (av1) (1) (cv1)) (1) (csu30) 46 6 :: .blk b7 [.int .u8 (knN1.kind), .string (str (knN1.tag)), .string (str (knN1.key)), .slice (tak6) (knN1.as.length) (tck6), .string (str (knN1.text)), .slice (kak6) (knN1.kids.length) (kck6)] 30 :: .blk b3 [.int .u8 (1), .string (str ([97] : List UInt8)), .string (str ([] : List UInt8)), .slice none (0) (0), .string (str ([] : List UInt8)), .slice (av1) (1) (cv1)] 46 :: L) _ at M
    have Sz13ql31 := Sz13
    have Sz16ql31 := Sz16
    have Sz19ql31 := Sz19
    have Sz22ql31 := Sz22
    have Sz25ql31 := Sz25
    have Ae28ql31 := Ae28
    have SAe28ql31 := SAe28
    have SKe28ql31 := SKe28
    have SAe29ql31 := SAe29
    have SKe29ql31 := SKe29
    have Eu30ql31 := Eu30
    obtain ⟨Gl31, hGl31, Sl31, backl31, M⟩ : ∃ G1, Gle G26 G1 ∧ RdSl rdP 6 G1 (.slice (av1) (1) (cv1)) [Xe28] ∧ (∀ (w' : World) (G'' : Ghost) (L' : List Res), Gle G1 G'' → Mem w0 G'' L' w' → ∃ G3, Gle G26 G3 ∧ Mem w0 G3 (.row (.slice (av1) (1) (cv1)) (1) (csu30) 46 6 :: L') w') ∧ Mem w0 G1 (.blk b7 [.int .u8 (knN1.kind), .string (str (knN1.tag)), .string (str (knN1.key)), .slice (tak6) (knN1.as.length) (tck6), .string (str (knN1.text)), .slice (kak6) (knN1.kids.length) (kck6)] 30 :: .blk b3 [.int .u8 (1), .string (str ([97] : List UInt8)), .string (str ([] : List UInt8)), .slice none (0) (0), .string (str ([] : List UInt8)), .slice (av1) (1) (cv1)] 46 :: L) _ := by
      obtain ⟨G1, h1, h2, h3, h4⟩ := memLend mono_rdP M (show Els rdP 6 G26 _ [Xe28] from Eu30) (by decide)
      exact ⟨G1, h1, h2, h4, h3⟩
    replace Sz13 := Sz13.mono mono_rdP hGl31
    replace Sz16 := Sz16.mono mono_rdSlot hGl31
    replace Sz19 := Sz19.mono mono_rdSlot hGl31
    replace Sz22 := Sz22.mono mono_rdSlot hGl31
    replace Sz25 := Sz25.mono mono_rdP hGl31
    replace Ae28 := Ae28.mono hGl31
    replace SAe28 := SAe28.mono mono_rdSlot hGl31
    replace SKe28 := SKe28.mono mono_rdP hGl31
    replace SAe29 := SAe29.mono mono_rdSlot hGl31
    replace SKe29 := SKe29.mono mono_rdP hGl31
    refine w_reg <| rl_run F (run_loadA tok46 rfl (F.ev rfl) (cs := [.int .u8 (1), .string (str ([97] : List UInt8)), .string (str ([] : List UInt8)), .slice none (0) (0), .string (str ([] : List UInt8)), .slice (av1) (1) (cv1)]) rfl (M.cellsL (k := 1) rfl rfl)) rfl ?_; clear F a; intro a F
    refine rl_callS F ent26 rfl rfl (tcheck_spec (x := (.mk 1 [97] [] [] [] [Xe28] : PT)) M kn1_k kn1_l RdSl.nil Sl31) ?_; clear F M a; rintro _ w a M rfl F
    obtain ⟨Gt32, hGt32, M⟩ := backl31 _ _ _ (Gle.refl _) M
    clear backl31
    replace Sz13 := Sz13ql31
    replace Sz13 := Sz13.mono mono_rdP hGt32
    clear Sz13ql31
    replace Sz16 := Sz16ql31
    replace Sz16 := Sz16.mono mono_rdSlot hGt32
    clear Sz16ql31
    replace Sz19 := Sz19ql31
    replace Sz19 := Sz19.mono mono_rdSlot hGt32
    clear Sz19ql31
    replace Sz22 := Sz22ql31
    replace Sz22 := Sz22.mono mono_rdSlot hGt32
    clear Sz22ql31
    replace Sz25 := Sz25ql31
    replace Sz25 := Sz25.mono mono_rdP hGt32
    clear Sz25ql31
    replace Ae28 := Ae28ql31
    replace Ae28 := Ae28.mono hGt32
    clear Ae28ql31
    replace SAe28 := SAe28ql31
    replace SAe28 := SAe28.mono mono_rdSlot hGt32
    clear SAe28ql31
    replace SKe28 := SKe28ql31
    replace SKe28 := SKe28.mono mono_rdP hGt32
    clear SKe28ql31
    replace SAe29 := SAe29ql31
    replace SAe29 := SAe29.mono mono_rdSlot hGt32
    clear SAe29ql31
    replace SKe29 := SKe29ql31
    replace SKe29 := SKe29.mono mono_rdP hGt32
    clear SKe29ql31
    replace Eu30 := Eu30ql31
    replace Eu30 := Eu30.mono mono_rdP hGt32
    clear Eu30ql31
    rw [chkP_no hw9.1] at F
    refine rl_run F (run_nei (F.ev rfl) (F.ev rfl)) rfl ?_; clear F a; intro a F
    refine rl_run F (run_move (F.ev rfl)) rfl ?_; clear F a; intro a F
    refine rl_guard_t F rfl rfl rfl (not_f (decide_eq_true (by decide))) ?_
    refine rl_run F (run_move (F.ev rfl)) rfl ?_; clear F a; intro a F
    refine rl_guard_t F rfl rfl rfl (not_f (decide_eq_true (by decide))) ?_
    refine rl_run F (run_move (F.ev rfl)) rfl ?_; clear F a; intro a F
    refine rl_guard_t F rfl rfl rfl (not_f (decide_eq_true (by decide))) ?_
    obtain ⟨be33, oe33, _, Ie33, _, Ae33, hTe33⟩ := Sz25.at hXe28
    obtain ⟨tae33, tce33, kae33, kce33, rfl, hke33, hle33, SAe33, SKe33⟩ := rdT_open hTe33
    refine rl_run F (run_indexI tok44.k tok46 (F.ev rfl) (F.ev rfl) (by omega) Ie33) rfl ?_; clear F a; intro a F
    refine rl_guard_t F rfl rfl rfl (not_f (decide_eq_true (by decide))) ?_
    refine rl_run F (run_fieldAddr tok46.k rfl rfl (F.ev rfl)) rfl ?_; clear F a; intro a F
    refine rl_guard_t F rfl rfl rfl (not_f (decide_eq_true (by decide))) ?_
    refine rl_run F (run_load1 (agf tok5 rfl) (F.ev rfl) (M.cellA Ae33 0 rfl rfl)) rfl ?_; clear F a; intro a F
    refine rl_guard_t F rfl rfl rfl (not_f (decide_eq_true (by decide))) ?_
    refine rl_run F (run_eqi (F.ev rfl) (F.ev rfl)) rfl ?_; clear F a; intro a F
    refine rl_guard_t F rfl rfl rfl (not_f (decide_eq_true (by decide))) ?_
    refine rl_run F (run_move (F.ev rfl)) rfl ?_; clear F a; intro a F
    rcases Bool.eq_false_or_eq_true (decide (Xe28.kind = 1)) with hc | hc
    · skip
      have h34b := hc; clear hc
      have h34 : Xe28.kind = 1 := of_decide_eq_true h34b
      refine rl_guard_t F rfl rfl rfl h34b ?_
      refine rl_run F (run_move (F.ev rfl)) rfl ?_; clear F a; intro a F
      refine rl_guard_t F rfl rfl rfl h34b ?_
      refine rl_run F (run_move (F.ev rfl)) rfl ?_; clear F a; intro a F
      refine rl_guard_t F rfl rfl rfl h34b ?_
      obtain ⟨be35, oe35, _, Ie35, _, Ae35, hTe35⟩ := Sz25.at hXe28
      obtain ⟨tae35, tce35, kae35, kce35, rfl, hke35, hle35, SAe35, SKe35⟩ := rdT_open hTe35
      refine rl_run F (run_indexI tok44.k tok46 (F.ev rfl) (F.ev rfl) (by omega) Ie35) rfl ?_; clear F a; intro a F
      refine rl_guard_t F rfl rfl rfl h34b ?_
      refine rl_run F (run_loadA tok46 rfl (F.ev rfl) (cs := [.int .u8 (Xe28.kind), .string (str (Xe28.tag)), .string (str (Xe28.key)), .slice (tae35) (Xe28.as.length) (tce35), .string (str (Xe28.text)), .slice (kae35) (Xe28.kids.length) (kce35)]) rfl (M.cellsA Ae35 0 (by omega) rfl)) rfl ?_; clear F a; intro a F
      refine rl_guard_t F rfl rfl rfl h34b ?_
      refine rl_callS F ent26 rfl rfl (tcheck_spec (x := Xe28) M hke35 hle35 SAe35 SKe35) ?_; clear F M a; rintro _ w a M rfl F
      rw [chkP_no (hw9.2 (by assumption))] at F
      refine rl_guard_t F rfl rfl rfl h34b ?_
      refine rl_run F (run_nei (F.ev rfl) (F.ev rfl)) rfl ?_; clear F a; intro a F
      refine rl_guard_t F rfl rfl rfl (not_f (decide_eq_true (by decide))) ?_
      refine rl_run F (run_pick_t (F.ev rfl) h34b (F.ev rfl)) rfl ?_; clear F a; intro a F
      refine rl_run F (run_pick_f (F.ev rfl) (not_f (decide_eq_true (by decide))) (F.ev rfl)) rfl ?_; clear F a; intro a F
      refine rl_nil <| q_tn <| w_cond_f F rfl (not_f (decide_eq_true (by decide))) ?_
      refine wp_skip <| q_bn <| q_tn <| w_reg <| rl_run F (run_move (F.ev rfl)) rfl ?_; clear F a; intro a F
      refine rl_run F (run_addi (F.ev rfl) (F.ev rfl) (in_i64 (by omega) (by omega))) rfl ?_; clear F a; intro a F
      refine rl_run F (run_assign (F.ev rfl)) rfl ?_; clear F a; intro a F
      refine rl_nil <| q_tn ?_
      exact ⟨_, by omega, i + 1, (csu30), _, rfl, Gt32, (hG26.trans hGt32), F.to ⟨rfl, rfl, rfl, trivial⟩, M, by omega, Eu30⟩
    · skip
      have h36b := hc; clear hc
      have h36 : ¬ (Xe28.kind = 1) := of_decide_eq_false h36b
      iterate 6 (refine rl_guard_f F rfl rfl rfl h36b ?_; clear F a; intro a F)
      refine rl_guard_t F rfl rfl rfl (not_f (decide_eq_true (by decide))) ?_
      refine rl_run F (run_pick_f (F.ev rfl) h36b (F.ev rfl)) rfl ?_; clear F a; intro a F
      refine rl_run F (run_pick_f (F.ev rfl) (not_f (decide_eq_true (by decide))) (F.ev rfl)) rfl ?_; clear F a; intro a F
      refine rl_nil <| q_tn <| w_cond_f F rfl rfl ?_
      refine wp_skip <| q_bn <| q_tn <| w_reg <| rl_run F (run_move (F.ev rfl)) rfl ?_; clear F a; intro a F
      refine rl_run F (run_addi (F.ev rfl) (F.ev rfl) (in_i64 (by omega) (by omega))) rfl ?_; clear F a; intro a F
      refine rl_run F (run_assign (F.ev rfl)) rfl ?_; clear F a; intro a F
      refine rl_nil <| q_tn ?_
      exact ⟨_, by omega, i + 1, (csu30), _, rfl, Gt32, (hG26.trans hGt32), F.to ⟨rfl, rfl, rfl, trivial⟩, M, by omega, Eu30⟩
  · intro hc
    have h37b := hc; clear hc
    have h37 : ¬ (((i : Nat) : Int) < ((12 : Nat) : Int)) := of_decide_eq_false h37b
    refine wp_exit ?_
    iterate 2 (refine q_te ?_)
    refine q_bh <| q_tn <| wp_seq <| w_reg <| rl_run F (run_buildS (cs := [.int .u8 (5), .string (str ([99] : List UInt8)), .string (str ([] : List UInt8)), .slice none (0) (0), .string (str ([] : List UInt8)), .slice none (0) (0)]) (ps := [(0, .int .u8 (5)), (1, .string (str ([99] : List UInt8)))]) tok46.k rfl tok46 (F.evp rfl) rfl) rfl ?_; clear F a; intro a F
    refine rl_buildSlice1 F M tok44.k tok46 rfl rfl (cs := [.int .u8 (5), .string (str ([99] : List UInt8)), .string (str ([] : List UInt8)), .slice none (0) (0), .string (str ([] : List UInt8)), .slice none (0) (0)]) rfl rfl (by simp [Value.oneCell']) (by decide) rfl ?_; clear F M a; intro v38 w a M F
    obtain ⟨av38, cv38, rfl, hlev38, hcmv38, hlv38⟩ := M.row_shape (k := 0) rfl
    have E39 : Els rdP 6 G26 [.int .u8 (5), .string (str ([99] : List UInt8)), .string (str ([] : List UInt8)), .slice none (0) (0), .string (str ([] : List UInt8)), .slice none (0) (0)] [(.mk 5 [99] [] [] [] [] : PT)] := Els.one (rdT_close (x := (.mk 5 [99] [] [] [] [] : PT)) ⟨by decide, by decide⟩ ⟨by decide, by decide, by decide⟩ RdSl.nil RdSl.nil) rfl
    obtain ⟨hnz40, Gz40, az40, cz40, hGz40, hez40, Sz40, M⟩ := M.freeze_row mono_rdP (k := 0) rfl E39 (by decide)
    clear hez40 az40 cz40
    replace Sz13 := Sz13.mono mono_rdP hGz40
    replace Sz16 := Sz16.mono mono_rdSlot hGz40
    replace Sz19 := Sz19.mono mono_rdSlot hGz40
    replace Sz22 := Sz22.mono mono_rdSlot hGz40
    replace Sz25 := Sz25.mono mono_rdP hGz40
    replace Er := Er.mono mono_rdP hGz40
    clear hnz40
    refine rl_run F (run_buildS (cs := [.int .u8 (1), .string (str ([98] : List UInt8)), .string (str ([] : List UInt8)), .slice none (0) (0), .string (str ([] : List UInt8)), .slice (av38) (1) (cv38)]) (ps := [(0, .int .u8 (1)), (1, .string (str ([98] : List UInt8))), (5, .slice (av38) (1) (cv38))]) tok46.k rfl tok46 (F.evp rfl) rfl) rfl ?_; clear F a; intro a F
    refine rl_run F (run_buildS (cs := [.int .u8 (5), .string (str ([99] : List UInt8)), .string (str ([] : List UInt8)), .slice none (0) (0), .string (str ([] : List UInt8)), .slice none (0) (0)]) (ps := [(0, .int .u8 (5)), (1, .string (str ([99] : List UInt8)))]) tok46.k rfl tok46 (F.evp rfl) rfl) rfl ?_; clear F a; intro a F
    refine rl_buildSlice1 F M tok44.k tok46 rfl rfl (cs := [.int .u8 (5), .string (str ([99] : List UInt8)), .string (str ([] : List UInt8)), .slice none (0) (0), .string (str ([] : List UInt8)), .slice none (0) (0)]) rfl rfl (by simp [Value.oneCell']) (by decide) rfl ?_; clear F M a; intro v41 w a M F
    obtain ⟨av41, cv41, rfl, hlev41, hcmv41, hlv41⟩ := M.row_shape (k := 0) rfl
    have E42 : Els rdP 6 Gz40 [.int .u8 (5), .string (str ([99] : List UInt8)), .string (str ([] : List UInt8)), .slice none (0) (0), .string (str ([] : List UInt8)), .slice none (0) (0)] [(.mk 5 [99] [] [] [] [] : PT)] := Els.one (rdT_close (x := (.mk 5 [99] [] [] [] [] : PT)) ⟨by decide, by decide⟩ ⟨by decide, by decide, by decide⟩ RdSl.nil RdSl.nil) rfl
    obtain ⟨hnz43, Gz43, az43, cz43, hGz43, hez43, Sz43, M⟩ := M.freeze_row mono_rdP (k := 0) rfl E42 (by decide)
    clear hez43 az43 cz43
    replace Sz13 := Sz13.mono mono_rdP hGz43
    replace Sz16 := Sz16.mono mono_rdSlot hGz43
    replace Sz19 := Sz19.mono mono_rdSlot hGz43
    replace Sz22 := Sz22.mono mono_rdSlot hGz43
    replace Sz25 := Sz25.mono mono_rdP hGz43
    replace Er := Er.mono mono_rdP hGz43
    replace Sz40 := Sz40.mono mono_rdP hGz43
    clear hnz43
    refine rl_run F (run_buildS (cs := [.int .u8 (1), .string (str ([98] : List UInt8)), .string (str ([] : List UInt8)), .slice none (0) (0), .string (str ([] : List UInt8)), .slice (av41) (1) (cv41)]) (ps := [(0, .int .u8 (1)), (1, .string (str ([98] : List UInt8))), (5, .slice (av41) (1) (cv41))]) tok46.k rfl tok46 (F.evp rfl) rfl) rfl ?_; clear F a; intro a F
    refine rl_buildSliceN F M tok44.k tok46 (ps := [(0, .agg #[.int .u8 (1), .string (str ([98] : List UInt8)), .string (str ([] : List UInt8)), .slice none (0) (0), .string (str ([] : List UInt8)), .slice (av38) (1) (cv38)]), (1, .agg #[.int .u8 (1), .string (str ([98] : List UInt8)), .string (str ([] : List UInt8)), .slice none (0) (0), .string (str ([] : List UInt8)), .slice (av41) (1) (cv41)])]) (cs := [[.int .u8 (1), .string (str ([98] : List UInt8)), .string (str ([] : List UInt8)), .slice none (0) (0), .string (str ([] : List UInt8)), .slice (av38) (1) (cv38)], [.int .u8 (1), .string (str ([98] : List UInt8)), .string (str ([] : List UInt8)), .slice none (0) (0), .string (str ([] : List UInt8)), .slice (av41) (1) (cv41)]]) (fl := [.int .u8 (1), .string (str ([98] : List UInt8)), .string (str ([] : List UInt8)), .slice none (0) (0), .string (str ([] : List UInt8)), .slice (av38) (1) (cv38), .int .u8 (1), .string (str ([98] : List UInt8)), .string (str ([] : List UInt8)), .slice none (0) (0), .string (str ([] : List UInt8)), .slice (av41) (1) (cv41)]) rfl rfl (by simp [Parts, Value.cells]) (by simp [ti46]) rfl (by simp [Value.oneCell']) (by decide) (by decide) rfl ?_; clear F M a; intro v44 w a M F
    obtain ⟨av44, cv44, rfl, hlev44, hcmv44, hlv44⟩ := M.row_shape (k := 0) rfl
    have E45 : Els rdP 6 Gz43 [.int .u8 (1), .string (str ([98] : List UInt8)), .string (str ([] : List UInt8)), .slice none (0) (0), .string (str ([] : List UInt8)), .slice (av38) (1) (cv38), .int .u8 (1), .string (str ([98] : List UInt8)), .string (str ([] : List UInt8)), .slice none (0) (0), .string (str ([] : List UInt8)), .slice (av41) (1) (cv41)] [knB, knB] := Els.cons (c := [_, _, _, _, _, _]) (rdT_close (x := (knB : PT)) ⟨by decide, by decide⟩ ⟨by decide, by decide, by decide⟩ RdSl.nil Sz40) rfl (Els.one (rdT_close (x := (knB : PT)) ⟨by decide, by decide⟩ ⟨by decide, by decide, by decide⟩ RdSl.nil Sz43) rfl)
    obtain ⟨hnz46, Gz46, az46, cz46, hGz46, hez46, Sz46, M⟩ := M.freeze_row mono_rdP (k := 0) rfl E45 (by decide)
    clear hez46 az46 cz46
    replace Sz13 := Sz13.mono mono_rdP hGz46
    replace Sz16 := Sz16.mono mono_rdSlot hGz46
    replace Sz19 := Sz19.mono mono_rdSlot hGz46
    replace Sz22 := Sz22.mono mono_rdSlot hGz46
    replace Sz25 := Sz25.mono mono_rdP hGz46
    replace Er := Er.mono mono_rdP hGz46
    replace Sz40 := Sz40.mono mono_rdP hGz46
    replace Sz43 := Sz43.mono mono_rdP hGz46
    clear hnz46
    refine rl_run F (run_buildS (cs := [.int .u8 (1), .string (str ([97] : List UInt8)), .string (str ([] : List UInt8)), .slice none (0) (0), .string (str ([] : List UInt8)), .slice (av44) (2) (cv44)]) (ps := [(0, .int .u8 (1)), (1, .string (str ([97] : List UInt8))), (5, .slice (av44) (2) (cv44))]) tok46.k rfl tok46 (F.evp rfl) rfl) rfl ?_; clear F a; intro a F
    refine rl_storeA F M tok46 (k := 2) rfl rfl rfl (us := [.int .u8 (1), .string (str ([97] : List UInt8)), .string (str ([] : List UInt8)), .slice none (0) (0), .string (str ([] : List UInt8)), .slice (av44) (2) (cv44)]) rfl rfl (by simp [Value.oneCell']) (by simp) ?_; clear F M a; intro w a M F
    change Mem w0 Gz46 (.row (.slice (av1) (1) (cv1)) (1) (csr) 46 6 :: .blk b7 [.int .u8 (knN1.kind), .string (str (knN1.tag)), .string (str (knN1.key)), .slice (tak6) (knN1.as.length) (tck6), .string (str (knN1.text)), .slice (kak6) (knN1.kids.length) (kck6)] 30 :: .blk b3 [.int .u8 (1), .string (str ([97] : List UInt8)), .string (str ([] : List UInt8)), .slice none (0) (0), .string (str ([] : List UInt8)), .slice (av44) (2) (cv44)] 46 :: L) _ at M
    refine rl_nil <| q_tn <| wp_seq <| w_reg <| rl_buildSliceN F M tok49.k tok9 (ps := [(0, .string (str ([97] : List UInt8))), (1, .string (str ([98] : List UInt8))), (2, .string (str ([99] : List UInt8))), (3, .string (str ([100] : List UInt8))), (4, .string (str ([101] : List UInt8))), (5, .string (str ([102] : List UInt8))), (6, .string (str ([103] : List UInt8))), (7, .string (str ([104] : List UInt8))), (8, .string (str ([105] : List UInt8)))]) (cs := [[.string (str ([97] : List UInt8))], [.string (str ([98] : List UInt8))], [.string (str ([99] : List UInt8))], [.string (str ([100] : List UInt8))], [.string (str ([101] : List UInt8))], [.string (str ([102] : List UInt8))], [.string (str ([103] : List UInt8))], [.string (str ([104] : List UInt8))], [.string (str ([105] : List UInt8))]]) (fl := [.string (str ([97] : List UInt8)), .string (str ([98] : List UInt8)), .string (str ([99] : List UInt8)), .string (str ([100] : List UInt8)), .string (str ([101] : List UInt8)), .string (str ([102] : List UInt8)), .string (str ([103] : List UInt8)), .string (str ([104] : List UInt8)), .string (str ([105] : List UInt8))]) rfl rfl (by simp [Parts, Value.cells]) (by simp [ti9]) rfl (by simp [Value.oneCell']) (by decide) (by decide) rfl ?_; clear F M a; intro v47 w a M F
    obtain ⟨av47, cv47, rfl, hlev47, hcmv47, hlv47⟩ := M.row_shape (k := 0) rfl
    have E48 : Els rdStr 1 Gz46 [.string (str ([97] : List UInt8)), .string (str ([98] : List UInt8)), .string (str ([99] : List UInt8)), .string (str ([100] : List UInt8)), .string (str ([101] : List UInt8)), .string (str ([102] : List UInt8)), .string (str ([103] : List UInt8)), .string (str ([104] : List UInt8)), .string (str ([105] : List UInt8))] knM := Els.cons (c := [_]) ⟨rfl, by decide⟩ rfl (Els.cons (c := [_]) ⟨rfl, by decide⟩ rfl (Els.cons (c := [_]) ⟨rfl, by decide⟩ rfl (Els.cons (c := [_]) ⟨rfl, by decide⟩ rfl (Els.cons (c := [_]) ⟨rfl, by decide⟩ rfl (Els.cons (c := [_]) ⟨rfl, by decide⟩ rfl (Els.cons (c := [_]) ⟨rfl, by decide⟩ rfl (Els.cons (c := [_]) ⟨rfl, by decide⟩ rfl (Els.one ⟨rfl, by decide⟩ rfl))))))))
    obtain ⟨hnz49, Gz49, az49, cz49, hGz49, hez49, Sz49, M⟩ := M.freeze_row mono_rdStr (k := 0) rfl E48 (by decide)
    clear hez49 az49 cz49
    replace Sz13 := Sz13.mono mono_rdP hGz49
    replace Sz16 := Sz16.mono mono_rdSlot hGz49
    replace Sz19 := Sz19.mono mono_rdSlot hGz49
    replace Sz22 := Sz22.mono mono_rdSlot hGz49
    replace Sz25 := Sz25.mono mono_rdP hGz49
    replace Er := Er.mono mono_rdP hGz49
    replace Sz40 := Sz40.mono mono_rdP hGz49
    replace Sz43 := Sz43.mono mono_rdP hGz49
    replace Sz46 := Sz46.mono mono_rdP hGz49
    clear hnz49
    refine rl_run F (run_assign (F.ev rfl)) rfl ?_; clear F a; intro a F
    refine rl_nil <| q_tn <| wp_seq ?_
    have h9 : knM.length = 9 := rfl
    refine w_tree (.run 0 (.run 1 (.run 2 (.run 3 (.act 4 (.run 5 (.run 6 (.run 7 (.act 8 (.act 9 (.run 10 .fin) .no) .no)))) (.act 8 (.act 4 (.run 5 (.run 6 (.run 7 (.act 9 (.run 10 .fin) .no)))) .no) .no)))))) (Keep Gz49 [.blk b7 [.int .u8 (knN1.kind), .string (str (knN1.tag)), .string (str (knN1.key)), .slice (tak6) (knN1.as.length) (tck6), .string (str (knN1.text)), .slice (kak6) (knN1.kids.length) (kck6)] 30, .blk b3 [.int .u8 (1), .string (str ([97] : List UInt8)), .string (str ([] : List UInt8)), .slice none (0) (0), .string (str ([] : List UInt8)), .slice (av44) (2) (cv44)] 46]) rfl (by kernel_rfl) (fun c a d v w h => by cases d <;> exact h) ((M.drew _).keep (Gle.refl _) (by simp)) ?_
    replace M := M.drew (w.drawn + 1)
    refine pt_run F (fun w M => run_loadA tok46 rfl (F.ev rfl) (cs := [.int .u8 (1), .string (str ([97] : List UInt8)), .string (str ([] : List UInt8)), .slice none (0) (0), .string (str ([] : List UInt8)), .slice (av44) (2) (cv44)]) rfl (M.cellsL (k := 1) rfl rfl)) rfl ?_; clear F a; intro a F
    refine pt_run F (fun w M => run_move (F.ev rfl)) rfl ?_; clear F a; intro a F
    obtain ⟨as50, cs50, Is50, hms50, hcs50, Ss50⟩ := Sz49.partT (8) (by omega)
    refine pt_run F (fun w M => run_sliceI tok49.k tok9 Is50 (F.ev rfl) (h := 8) (kl := .i64) (zl := 0) rfl ⟨(F.ev rfl), by omega⟩ (by omega) (by omega)) rfl ?_; clear F a; intro a F
    refine pt_run F (fun w M => run_buildS (cs := [.int .u64 (1), .int .u8 (0), .string (str ([] : List UInt8)), .slice (as50) (8 - 0) (cs50)]) (ps := [(0, .int .u64 (1)), (3, .slice (as50) (8 - 0) (cs50))]) tok51.k rfl tok51 (F.evp rfl) rfl) rfl ?_; clear F a; intro a F
    refine pt_act ?_ rfl ?_
    · skip
      refine rl_call F ent22 rfl rfl (trender_at (p := knT2) (x := knI8) (most := 35) (e := 0) (nn := knN35) M ⟨by decide, by decide⟩ ⟨by decide, by decide, by decide⟩ RdSl.nil Sz46 (by decide) Ss50 ⟨by decide, by decide⟩ knR35 knRN35) ?_; clear F M a; rintro _ Gk51 w a hGk51 M ⟨tak51, tck51, kak51, kck51, rfl, hkk51, hlk51, SAk51, SKk51⟩ F
      replace Sz13 := Sz13.mono mono_rdP hGk51
      replace Sz16 := Sz16.mono mono_rdSlot hGk51
      replace Sz19 := Sz19.mono mono_rdSlot hGk51
      replace Sz22 := Sz22.mono mono_rdSlot hGk51
      replace Sz25 := Sz25.mono mono_rdP hGk51
      replace Er := Er.mono mono_rdP hGk51
      replace Sz40 := Sz40.mono mono_rdP hGk51
      replace Sz43 := Sz43.mono mono_rdP hGk51
      replace Sz46 := Sz46.mono mono_rdP hGk51
      replace Sz49 := Sz49.mono mono_rdStr hGk51
      replace Ss50 := Ss50.mono mono_rdStr hGk51
      refine rl_nil <| ⟨Keep Gk51 [.blk b7 [.int .u8 (knN1.kind), .string (str (knN1.tag)), .string (str (knN1.key)), .slice (tak6) (knN1.as.length) (tck6), .string (str (knN1.text)), .slice (kak6) (knN1.kids.length) (kck6)] 30, .blk b3 [.int .u8 (1), .string (str ([97] : List UInt8)), .string (str ([] : List UInt8)), .slice none (0) (0), .string (str ([] : List UInt8)), .slice (av44) (2) (cv44)] 46], M.keep (Gle.refl _) (by simp), fun w h => h.mono hGk51 (by simp), ?_⟩
      refine pt_run F (fun w M => run_move (F.ev rfl)) rfl ?_; clear F a; intro a F
      refine pt_run F (fun w M => run_extract (v := .agg #[.int .u8 (knN35.kind), .string (str (knN35.tag)), .string (str (knN35.key)), .slice (tak51) (knN35.as.length) (tck51), .string (str (knN35.text)), .slice (kak51) (knN35.kids.length) (kck51)]) (F.ev rfl) rfl) rfl ?_; clear F a; intro a F
      refine pt_run F (fun w M => run_extract (v := .int .i64 (0)) (F.ev rfl) rfl) rfl ?_; clear F a; intro a F
      refine pt_act ?_ rfl pt_no
      refine rl_alloc F M tok30 rfl rfl ?_; clear F M a; intro b52 w a M F
      refine rl_nil <| ⟨Keep Gk51 [.blk b7 [.int .u8 (knN1.kind), .string (str (knN1.tag)), .string (str (knN1.key)), .slice (tak6) (knN1.as.length) (tck6), .string (str (knN1.text)), .slice (kak6) (knN1.kids.length) (kck6)] 30, .blk b3 [.int .u8 (1), .string (str ([97] : List UInt8)), .string (str ([] : List UInt8)), .slice none (0) (0), .string (str ([] : List UInt8)), .slice (av44) (2) (cv44)] 46], M.keep (Gle.refl _) (by simp), fun w h => h.mono (Gle.refl _) (by simp), ?_⟩
      refine pt_act ?_ rfl pt_no
      refine rl_storeA F M tok30 (k := 0) rfl rfl rfl (us := [.int .u8 (knN35.kind), .string (str (knN35.tag)), .string (str (knN35.key)), .slice (tak51) (knN35.as.length) (tck51), .string (str (knN35.text)), .slice (kak51) (knN35.kids.length) (kck51)]) rfl rfl (by simp [Value.oneCell']) (by simp) ?_; clear F M a; intro w a M F
      change Mem w0 Gk51 (.blk b52 [.int .u8 (knN35.kind), .string (str (knN35.tag)), .string (str (knN35.key)), .slice (tak51) (knN35.as.length) (tck51), .string (str (knN35.text)), .slice (kak51) (knN35.kids.length) (kck51)] 30 :: .row (.slice (av1) (1) (cv1)) (1) (csr) 46 6 :: .blk b7 [.int .u8 (knN1.kind), .string (str (knN1.tag)), .string (str (knN1.key)), .slice (tak6) (knN1.as.length) (tck6), .string (str (knN1.text)), .slice (kak6) (knN1.kids.length) (kck6)] 30 :: .blk b3 [.int .u8 (1), .string (str ([97] : List UInt8)), .string (str ([] : List UInt8)), .slice none (0) (0), .string (str ([] : List UInt8)), .slice (av44) (2) (cv44)] 46 :: L) _ at M
      refine rl_nil <| ⟨Keep Gk51 [.blk b7 [.int .u8 (knN1.kind), .string (str (knN1.tag)), .string (str (knN1.key)), .slice (tak6) (knN1.as.length) (tck6), .string (str (knN1.text)), .slice (kak6) (knN1.kids.length) (kck6)] 30, .blk b3 [.int .u8 (1), .string (str ([97] : List UInt8)), .string (str ([] : List UInt8)), .slice none (0) (0), .string (str ([] : List UInt8)), .slice (av44) (2) (cv44)] 46], M.keep (Gle.refl _) (by simp), fun w h => h.mono (Gle.refl _) (by simp), ?_⟩
      refine pt_run F (fun w M => run_assign (F.ev rfl)) rfl ?_; clear F a; intro a F
      refine pt_fin <| q_tn <| wp_seq <| w_tree (.run 0 (.run 1 (.run 2 (.run 3 (.act 4 (.run 5 (.run 6 (.run 7 (.act 8 (.act 9 (.run 10 .fin) .no) .no)))) (.act 8 (.act 4 (.run 5 (.run 6 (.run 7 (.act 9 (.run 10 .fin) .no)))) .no) .no)))))) (Keep Gk51 [.blk b52 [.int .u8 (knN35.kind), .string (str (knN35.tag)), .string (str (knN35.key)), .slice (tak51) (knN35.as.length) (tck51), .string (str (knN35.text)), .slice (kak51) (knN35.kids.length) (kck51)] 30, .blk b7 [.int .u8 (knN1.kind), .string (str (knN1.tag)), .string (str (knN1.key)), .slice (tak6) (knN1.as.length) (tck6), .string (str (knN1.text)), .slice (kak6) (knN1.kids.length) (kck6)] 30, .blk b3 [.int .u8 (1), .string (str ([97] : List UInt8)), .string (str ([] : List UInt8)), .slice none (0) (0), .string (str ([] : List UInt8)), .slice (av44) (2) (cv44)] 46]) rfl (by kernel_rfl) (fun c a d v w h => by cases d <;> exact h) ((M.drew _).keep (Gle.refl _) (by simp)) ?_
      replace M := M.drew (w.drawn + 1)
      refine pt_run F (fun w M => run_loadA tok46 rfl (F.ev rfl) (cs := [.int .u8 (1), .string (str ([97] : List UInt8)), .string (str ([] : List UInt8)), .slice none (0) (0), .string (str ([] : List UInt8)), .slice (av44) (2) (cv44)]) rfl (M.cellsL (k := 2) rfl rfl)) rfl ?_; clear F a; intro a F
      refine pt_run F (fun w M => run_move (F.ev rfl)) rfl ?_; clear F a; intro a F
      obtain ⟨as54, cs54, Is54, hms54, hcs54, Ss54⟩ := Sz49.partT (8) (by omega)
      refine pt_run F (fun w M => run_sliceI tok49.k tok9 Is54 (F.ev rfl) (h := 8) (kl := .i64) (zl := 0) rfl ⟨(F.ev rfl), by omega⟩ (by omega) (by omega)) rfl ?_; clear F a; intro a F
      refine pt_run F (fun w M => run_buildS (cs := [.int .u64 (1), .int .u8 (0), .string (str ([] : List UInt8)), .slice (as54) (8 - 0) (cs54)]) (ps := [(0, .int .u64 (1)), (3, .slice (as54) (8 - 0) (cs54))]) tok51.k rfl tok51 (F.evp rfl) rfl) rfl ?_; clear F a; intro a F
      refine pt_act ?_ rfl ?_
      · skip
        refine rl_call F ent22 rfl rfl (trender_at (p := knT2) (x := knI8) (most := 34) (e := 14) (nn := zeroN) M ⟨by decide, by decide⟩ ⟨by decide, by decide, by decide⟩ RdSl.nil Sz46 (by decide) Ss54 ⟨by decide, by decide⟩ knR34 knR34N) ?_; clear F M a; rintro _ Gk55 w a hGk55 M ⟨tak55, tck55, kak55, kck55, rfl, hkk55, hlk55, SAk55, SKk55⟩ F
        replace Sz13 := Sz13.mono mono_rdP hGk55
        replace Sz16 := Sz16.mono mono_rdSlot hGk55
        replace Sz19 := Sz19.mono mono_rdSlot hGk55
        replace Sz22 := Sz22.mono mono_rdSlot hGk55
        replace Sz25 := Sz25.mono mono_rdP hGk55
        replace Er := Er.mono mono_rdP hGk55
        replace Sz40 := Sz40.mono mono_rdP hGk55
        replace Sz43 := Sz43.mono mono_rdP hGk55
        replace Sz46 := Sz46.mono mono_rdP hGk55
        replace Sz49 := Sz49.mono mono_rdStr hGk55
        replace Ss50 := Ss50.mono mono_rdStr hGk55
        replace SAk51 := SAk51.mono mono_rdAttr hGk55
        replace SKk51 := SKk51.mono mono_rdN hGk55
        replace Ss54 := Ss54.mono mono_rdStr hGk55
        refine rl_nil <| ⟨Keep Gk55 [.blk b52 [.int .u8 (knN35.kind), .string (str (knN35.tag)), .string (str (knN35.key)), .slice (tak51) (knN35.as.length) (tck51), .string (str (knN35.text)), .slice (kak51) (knN35.kids.length) (kck51)] 30, .blk b7 [.int .u8 (knN1.kind), .string (str (knN1.tag)), .string (str (knN1.key)), .slice (tak6) (knN1.as.length) (tck6), .string (str (knN1.text)), .slice (kak6) (knN1.kids.length) (kck6)] 30, .blk b3 [.int .u8 (1), .string (str ([97] : List UInt8)), .string (str ([] : List UInt8)), .slice none (0) (0), .string (str ([] : List UInt8)), .slice (av44) (2) (cv44)] 46], M.keep (Gle.refl _) (by simp), fun w h => h.mono hGk55 (by simp), ?_⟩
        refine pt_run F (fun w M => run_move (F.ev rfl)) rfl ?_; clear F a; intro a F
        refine pt_run F (fun w M => run_extract (v := .agg #[.int .u8 (zeroN.kind), .string (str (zeroN.tag)), .string (str (zeroN.key)), .slice (tak55) (zeroN.as.length) (tck55), .string (str (zeroN.text)), .slice (kak55) (zeroN.kids.length) (kck55)]) (F.ev rfl) rfl) rfl ?_; clear F a; intro a F
        refine pt_run F (fun w M => run_extract (v := .int .i64 (14)) (F.ev rfl) rfl) rfl ?_; clear F a; intro a F
        refine pt_act ?_ rfl pt_no
        refine rl_alloc F M tok30 rfl rfl ?_; clear F M a; intro b56 w a M F
        refine rl_nil <| ⟨Keep Gk55 [.blk b52 [.int .u8 (knN35.kind), .string (str (knN35.tag)), .string (str (knN35.key)), .slice (tak51) (knN35.as.length) (tck51), .string (str (knN35.text)), .slice (kak51) (knN35.kids.length) (kck51)] 30, .blk b7 [.int .u8 (knN1.kind), .string (str (knN1.tag)), .string (str (knN1.key)), .slice (tak6) (knN1.as.length) (tck6), .string (str (knN1.text)), .slice (kak6) (knN1.kids.length) (kck6)] 30, .blk b3 [.int .u8 (1), .string (str ([97] : List UInt8)), .string (str ([] : List UInt8)), .slice none (0) (0), .string (str ([] : List UInt8)), .slice (av44) (2) (cv44)] 46], M.keep (Gle.refl _) (by simp), fun w h => h.mono (Gle.refl _) (by simp), ?_⟩
        refine pt_act ?_ rfl pt_no
        refine rl_storeA F M tok30 (k := 0) rfl rfl rfl (us := [.int .u8 (zeroN.kind), .string (str (zeroN.tag)), .string (str (zeroN.key)), .slice (tak55) (zeroN.as.length) (tck55), .string (str (zeroN.text)), .slice (kak55) (zeroN.kids.length) (kck55)]) rfl rfl (by simp [Value.oneCell']) (by simp) ?_; clear F M a; intro w a M F
        change Mem w0 Gk55 (.blk b56 [.int .u8 (zeroN.kind), .string (str (zeroN.tag)), .string (str (zeroN.key)), .slice (tak55) (zeroN.as.length) (tck55), .string (str (zeroN.text)), .slice (kak55) (zeroN.kids.length) (kck55)] 30 :: .blk b52 [.int .u8 (knN35.kind), .string (str (knN35.tag)), .string (str (knN35.key)), .slice (tak51) (knN35.as.length) (tck51), .string (str (knN35.text)), .slice (kak51) (knN35.kids.length) (kck51)] 30 :: .row (.slice (av1) (1) (cv1)) (1) (csr) 46 6 :: .blk b7 [.int .u8 (knN1.kind), .string (str (knN1.tag)), .string (str (knN1.key)), .slice (tak6) (knN1.as.length) (tck6), .string (str (knN1.text)), .slice (kak6) (knN1.kids.length) (kck6)] 30 :: .blk b3 [.int .u8 (1), .string (str ([97] : List UInt8)), .string (str ([] : List UInt8)), .slice none (0) (0), .string (str ([] : List UInt8)), .slice (av44) (2) (cv44)] 46 :: L) _ at M
        refine rl_nil <| ⟨Keep Gk55 [.blk b52 [.int .u8 (knN35.kind), .string (str (knN35.tag)), .string (str (knN35.key)), .slice (tak51) (knN35.as.length) (tck51), .string (str (knN35.text)), .slice (kak51) (knN35.kids.length) (kck51)] 30, .blk b7 [.int .u8 (knN1.kind), .string (str (knN1.tag)), .string (str (knN1.key)), .slice (tak6) (knN1.as.length) (tck6), .string (str (knN1.text)), .slice (kak6) (knN1.kids.length) (kck6)] 30, .blk b3 [.int .u8 (1), .string (str ([97] : List UInt8)), .string (str ([] : List UInt8)), .slice none (0) (0), .string (str ([] : List UInt8)), .slice (av44) (2) (cv44)] 46], M.keep (Gle.refl _) (by simp), fun w h => h.mono (Gle.refl _) (by simp), ?_⟩
        refine pt_run F (fun w M => run_assign (F.ev rfl)) rfl ?_; clear F a; intro a F
        refine pt_fin <| q_tn <| wp_seq <| w_reg <| rl_run F (run_loadA tok46 rfl (F.ev rfl) (cs := [.int .u8 (1), .string (str ([97] : List UInt8)), .string (str ([] : List UInt8)), .slice none (0) (0), .string (str ([] : List UInt8)), .slice (av44) (2) (cv44)]) rfl (M.cellsL (k := 4) rfl rfl)) rfl ?_; clear F a; intro a F
        refine rl_run F (run_move (F.ev rfl)) rfl ?_; clear F a; intro a F
        refine rl_run F (run_buildS (cs := [.int .u64 (1), .int .u8 (0), .string (str ([] : List UInt8)), .slice (av47) (9) (cv47)]) (ps := [(0, .int .u64 (1)), (3, .slice (av47) (9) (cv47))]) tok51.k rfl tok51 (F.evp rfl) rfl) rfl ?_; clear F a; intro a F
        refine rl_call F ent22 rfl rfl (trender_at (p := knT2) (x := knI9) (most := 64) (e := 6) (nn := zeroN) M ⟨by decide, by decide⟩ ⟨by decide, by decide, by decide⟩ RdSl.nil Sz46 (by decide) Sz49 ⟨by decide, by decide⟩ knR9 knR9N) ?_; clear F M a; rintro _ Gk58 w a hGk58 M ⟨tak58, tck58, kak58, kck58, rfl, hkk58, hlk58, SAk58, SKk58⟩ F
        replace Sz13 := Sz13.mono mono_rdP hGk58
        replace Sz16 := Sz16.mono mono_rdSlot hGk58
        replace Sz19 := Sz19.mono mono_rdSlot hGk58
        replace Sz22 := Sz22.mono mono_rdSlot hGk58
        replace Sz25 := Sz25.mono mono_rdP hGk58
        replace Er := Er.mono mono_rdP hGk58
        replace Sz40 := Sz40.mono mono_rdP hGk58
        replace Sz43 := Sz43.mono mono_rdP hGk58
        replace Sz46 := Sz46.mono mono_rdP hGk58
        replace Sz49 := Sz49.mono mono_rdStr hGk58
        replace Ss50 := Ss50.mono mono_rdStr hGk58
        replace SAk51 := SAk51.mono mono_rdAttr hGk58
        replace SKk51 := SKk51.mono mono_rdN hGk58
        replace Ss54 := Ss54.mono mono_rdStr hGk58
        replace SAk55 := SAk55.mono mono_rdAttr hGk58
        replace SKk55 := SKk55.mono mono_rdN hGk58
        refine rl_run F (run_move (F.ev rfl)) rfl ?_; clear F a; intro a F
        refine rl_run F (run_extract (v := .agg #[.int .u8 (zeroN.kind), .string (str (zeroN.tag)), .string (str (zeroN.key)), .slice (tak58) (zeroN.as.length) (tck58), .string (str (zeroN.text)), .slice (kak58) (zeroN.kids.length) (kck58)]) (F.ev rfl) rfl) rfl ?_; clear F a; intro a F
        refine rl_run F (run_extract (v := .int .i64 (6)) (F.ev rfl) rfl) rfl ?_; clear F a; intro a F
        refine rl_alloc F M tok30 rfl rfl ?_; clear F M a; intro b59 w a M F
        refine rl_storeA F M tok30 (k := 0) rfl rfl rfl (us := [.int .u8 (zeroN.kind), .string (str (zeroN.tag)), .string (str (zeroN.key)), .slice (tak58) (zeroN.as.length) (tck58), .string (str (zeroN.text)), .slice (kak58) (zeroN.kids.length) (kck58)]) rfl rfl (by simp [Value.oneCell']) (by simp) ?_; clear F M a; intro w a M F
        change Mem w0 Gk58 (.blk b59 [.int .u8 (zeroN.kind), .string (str (zeroN.tag)), .string (str (zeroN.key)), .slice (tak58) (zeroN.as.length) (tck58), .string (str (zeroN.text)), .slice (kak58) (zeroN.kids.length) (kck58)] 30 :: .blk b56 [.int .u8 (zeroN.kind), .string (str (zeroN.tag)), .string (str (zeroN.key)), .slice (tak55) (zeroN.as.length) (tck55), .string (str (zeroN.text)), .slice (kak55) (zeroN.kids.length) (kck55)] 30 :: .blk b52 [.int .u8 (knN35.kind), .string (str (knN35.tag)), .string (str (knN35.key)), .slice (tak51) (knN35.as.length) (tck51), .string (str (knN35.text)), .slice (kak51) (knN35.kids.length) (kck51)] 30 :: .row (.slice (av1) (1) (cv1)) (1) (csr) 46 6 :: .blk b7 [.int .u8 (knN1.kind), .string (str (knN1.tag)), .string (str (knN1.key)), .slice (tak6) (knN1.as.length) (tck6), .string (str (knN1.text)), .slice (kak6) (knN1.kids.length) (kck6)] 30 :: .blk b3 [.int .u8 (1), .string (str ([97] : List UInt8)), .string (str ([] : List UInt8)), .slice none (0) (0), .string (str ([] : List UInt8)), .slice (av44) (2) (cv44)] 46 :: L) _ at M
        refine rl_run F (run_assign (F.ev rfl)) rfl ?_; clear F a; intro a F
        refine rl_nil <| q_tn <| wp_seq <| w_reg <| rl_run F (run_loadA tok46 rfl (F.ev rfl) (cs := [.int .u8 (1), .string (str ([97] : List UInt8)), .string (str ([] : List UInt8)), .slice none (0) (0), .string (str ([] : List UInt8)), .slice (av44) (2) (cv44)]) rfl (M.cellsL (k := 5) rfl rfl)) rfl ?_; clear F a; intro a F
        refine rl_callS F ent24 rfl rfl (tnodes_spec (x := knT2) (m := 8) M ⟨by decide, by decide⟩ ⟨by decide, by decide, by decide⟩ RdSl.nil Sz46) ?_; clear F M a; rintro _ w a M rfl F
        rw [knNd8a, knNd8b] at F
        refine rl_run F (run_move (F.ev rfl)) rfl ?_; clear F a; intro a F
        refine rl_run F (run_extract (v := .int .i64 (35)) (F.ev rfl) rfl) rfl ?_; clear F a; intro a F
        refine rl_run F (run_extract (v := .int .i64 (0)) (F.ev rfl) rfl) rfl ?_; clear F a; intro a F
        iterate 2 (refine rl_run F (run_assign (F.ev rfl)) rfl ?_; clear F a; intro a F)
        refine rl_nil <| q_tn <| wp_seq <| w_reg <| rl_run F (run_loadA tok46 rfl (F.ev rfl) (cs := [.int .u8 (1), .string (str ([97] : List UInt8)), .string (str ([] : List UInt8)), .slice none (0) (0), .string (str ([] : List UInt8)), .slice (av44) (2) (cv44)]) rfl (M.cellsL (k := 5) rfl rfl)) rfl ?_; clear F a; intro a F
        refine rl_callS F ent24 rfl rfl (tnodes_spec (x := knT2) (m := 9) M ⟨by decide, by decide⟩ ⟨by decide, by decide, by decide⟩ RdSl.nil Sz46) ?_; clear F M a; rintro _ w a M rfl F
        rw [knNd9a, knNd9b] at F
        refine rl_run F (run_move (F.ev rfl)) rfl ?_; clear F a; intro a F
        refine rl_run F (run_extract (v := .int .i64 (0)) (F.ev rfl) rfl) rfl ?_; clear F a; intro a F
        refine rl_run F (run_extract (v := .int .i64 (1)) (F.ev rfl) rfl) rfl ?_; clear F a; intro a F
        iterate 2 (refine rl_run F (run_assign (F.ev rfl)) rfl ?_; clear F a; intro a F)
        refine rl_nil <| q_tn <| wp_seq <| w_reg <| rl_makeE (rd := rdRaw) (Z := ([.int .u8 (0), .string (str ([] : List UInt8)), .string (str ([] : List UInt8)), .slice none (0) (0), .string (str ([] : List UInt8)), .slice none (0) (0)] : List Value)) F M tok44.k tok46 rfl (by decide) rfl rfl (l := 1) (by omega) rfl (by omega) (by show 104 * _ ≤ _; omega) (by omega) (by simp [ti46, Value.cells, Value.oneCell']) (rfl) rfl ?_; clear F M a; intro bv61 csv61 w a M Ev61 F
        refine rl_run F (run_assign (F.ev rfl)) rfl ?_; clear F a; intro a F
        refine rl_nil <| q_tn <| wp_seq <| w_reg ?_
        iterate 2 (refine rl_run F (run_move (F.ev rfl)) rfl ?_; clear F a; intro a F)
        refine rl_run F (run_buildS (cs := [.int .u8 (1), .string (str ([97] : List UInt8)), .string (str ([] : List UInt8)), .slice none (0) (0), .string (str ([] : List UInt8)), .slice (some ⟨bv61, 0, none⟩) (1) (1)]) (ps := [(0, .int .u8 (1)), (1, .string (str ([97] : List UInt8))), (5, .slice (some ⟨bv61, 0, none⟩) (1) (1))]) tok46.k rfl tok46 (F.evp rfl) rfl) rfl ?_; clear F a; intro a F
        obtain ⟨Xe62, hXe62⟩ := get_of_lt (xs := List.replicate (1) (([.int .u8 (0), .string (str ([] : List UInt8)), .string (str ([] : List UInt8)), .slice none (0) (0), .string (str ([] : List UInt8)), .slice none (0) (0)] : List Value))) (i := 0) (by exact Nat.one_pos)
        obtain ⟨be62, _, Ie62, hme62, _, Ae62, hTe62⟩ := M.atRow (k := 0) rfl (by decide) Ev61 hXe62
        refine rl_run F (run_indexI tok44.k tok46 (F.ev rfl) (F.ev rfl) (by omega) Ie62) rfl ?_; clear F a; intro a F
        refine rl_storeEl F M tok46 (k := 0) rfl rfl Ev61 Ie62 (lt_of_get hXe62) rfl rfl (us := [.int .u8 (1), .string (str ([97] : List UInt8)), .string (str ([] : List UInt8)), .slice none (0) (0), .string (str ([] : List UInt8)), .slice (some ⟨bv61, 0, none⟩) (1) (1)]) rfl rfl (by simp [Value.oneCell']) (X' := ([.int .u8 (1), .string (str ([97] : List UInt8)), .string (str ([] : List UInt8)), .slice none (0) (0), .string (str ([] : List UInt8)), .slice (some ⟨bv61, 0, none⟩) (1) (1)] : List Value)) (rfl) ?_; clear F M a; intro csu63 w a M Eu63 F
        refine rl_nil <| q_tn <| wp_seq ?_
        have Eq9 : Els rdRaw 6 Gk58 csu63 [[.int .u8 (1), .string (str ([97] : List UInt8)), .string (str ([] : List UInt8)), .slice none (0) (0), .string (str ([] : List UInt8)), .slice (some ⟨bv61, 0, none⟩) (1) (1)]] := Eu63
        obtain ⟨hnz64, Gz64, az64, cz64, hGz64, hez64, Sz64, M⟩ := M.freeze_row mono_rdRaw (k := 0) rfl Eq9 (by decide)
        clear hez64 az64 cz64
        replace Sz13 := Sz13.mono mono_rdP hGz64
        replace Sz16 := Sz16.mono mono_rdSlot hGz64
        replace Sz19 := Sz19.mono mono_rdSlot hGz64
        replace Sz22 := Sz22.mono mono_rdSlot hGz64
        replace Sz25 := Sz25.mono mono_rdP hGz64
        replace Er := Er.mono mono_rdP hGz64
        replace Sz40 := Sz40.mono mono_rdP hGz64
        replace Sz43 := Sz43.mono mono_rdP hGz64
        replace Sz46 := Sz46.mono mono_rdP hGz64
        replace Sz49 := Sz49.mono mono_rdStr hGz64
        replace Ss50 := Ss50.mono mono_rdStr hGz64
        replace SAk51 := SAk51.mono mono_rdAttr hGz64
        replace SKk51 := SKk51.mono mono_rdN hGz64
        replace Ss54 := Ss54.mono mono_rdStr hGz64
        replace SAk55 := SAk55.mono mono_rdAttr hGz64
        replace SKk55 := SKk55.mono mono_rdN hGz64
        replace SAk58 := SAk58.mono mono_rdAttr hGz64
        replace SKk58 := SKk58.mono mono_rdN hGz64
        replace Eu63 := Eu63.mono mono_rdRaw hGz64
        clear hnz64
        replace Sz64 := raw_cyc (ca := some ⟨bv61, 0, none⟩) (cc := 1) Sz64
        refine w_reg <| rl_run F (run_move (F.ev rfl)) rfl ?_; clear F a; intro a F
        refine rl_run F (run_eqi (F.ev rfl) (F.ev rfl)) rfl ?_; clear F a; intro a F
        refine rl_run F (run_move (F.ev rfl)) rfl ?_; clear F a; intro a F
        refine rl_guard_t F rfl rfl rfl (decide_eq_true (by decide)) ?_
        refine rl_run F (run_loadA tok30 rfl (F.ev rfl) (cs := [.int .u8 (knN35.kind), .string (str (knN35.tag)), .string (str (knN35.key)), .slice (tak51) (knN35.as.length) (tck51), .string (str (knN35.text)), .slice (kak51) (knN35.kids.length) (kck51)]) rfl (M.cellsL (k := 2) rfl rfl)) rfl ?_; clear F a; intro a F
        refine rl_guard_t F rfl rfl rfl (decide_eq_true (by decide)) ?_
        refine rl_callS F ent17 rfl rfl (ncount_spec (x := knN35) M hkk51 hlk51 SAk51 SKk51) ?_; clear F M a; rintro _ w a M rfl F
        rw [knC35] at F
        refine rl_guard_t F rfl rfl rfl (decide_eq_true (by decide)) ?_
        refine rl_run F (run_eqi (F.ev rfl) (F.ev rfl)) rfl ?_; clear F a; intro a F
        refine rl_run F (run_pick_t (F.ev rfl) (decide_eq_true (by decide)) (F.ev rfl)) rfl ?_; clear F a; intro a F
        refine rl_run F (run_move (F.ev rfl)) rfl ?_; clear F a; intro a F
        refine rl_guard_t F rfl rfl rfl (decide_eq_true (by decide)) ?_
        refine rl_run F (run_move (F.ev rfl)) rfl ?_; clear F a; intro a F
        refine rl_guard_t F rfl rfl rfl (decide_eq_true (by decide)) ?_
        refine rl_run F (run_eqi (F.ev rfl) (F.ev rfl)) rfl ?_; clear F a; intro a F
        refine rl_run F (run_pick_t (F.ev rfl) (decide_eq_true (by decide)) (F.ev rfl)) rfl ?_; clear F a; intro a F
        refine rl_run F (run_move (F.ev rfl)) rfl ?_; clear F a; intro a F
        refine rl_guard_t F rfl rfl rfl (decide_eq_true (by decide)) ?_
        refine rl_run F (run_move (F.ev rfl)) rfl ?_; clear F a; intro a F
        refine rl_guard_t F rfl rfl rfl (decide_eq_true (by decide)) ?_
        refine rl_run F (run_eqi (F.ev rfl) (F.ev rfl)) rfl ?_; clear F a; intro a F
        refine rl_run F (run_pick_t (F.ev rfl) (decide_eq_true (by decide)) (F.ev rfl)) rfl ?_; clear F a; intro a F
        refine rl_run F (run_move (F.ev rfl)) rfl ?_; clear F a; intro a F
        refine rl_guard_t F rfl rfl rfl (decide_eq_true (by decide)) ?_
        refine rl_run F (run_move (F.ev rfl)) rfl ?_; clear F a; intro a F
        refine rl_guard_t F rfl rfl rfl (decide_eq_true (by decide)) ?_
        refine rl_run F (run_eqi (F.ev rfl) (F.ev rfl)) rfl ?_; clear F a; intro a F
        refine rl_run F (run_pick_t (F.ev rfl) (decide_eq_true (by decide)) (F.ev rfl)) rfl ?_; clear F a; intro a F
        refine rl_run F (run_move (F.ev rfl)) rfl ?_; clear F a; intro a F
        refine rl_guard_t F rfl rfl rfl (decide_eq_true (by decide)) ?_
        refine rl_run F (run_move (F.ev rfl)) rfl ?_; clear F a; intro a F
        refine rl_guard_t F rfl rfl rfl (decide_eq_true (by decide)) ?_
        refine rl_run F (run_eqi (F.ev rfl) (F.ev rfl)) rfl ?_; clear F a; intro a F
        refine rl_run F (run_pick_t (F.ev rfl) (decide_eq_true (by decide)) (F.ev rfl)) rfl ?_; clear F a; intro a F
        refine rl_run F (run_move (F.ev rfl)) rfl ?_; clear F a; intro a F
        refine rl_guard_t F rfl rfl rfl (decide_eq_true (by decide)) ?_
        refine rl_run F (run_move (F.ev rfl)) rfl ?_; clear F a; intro a F
        refine rl_guard_t F rfl rfl rfl (decide_eq_true (by decide)) ?_
        refine rl_run F (run_eqi (F.ev rfl) (F.ev rfl)) rfl ?_; clear F a; intro a F
        refine rl_run F (run_pick_t (F.ev rfl) (decide_eq_true (by decide)) (F.ev rfl)) rfl ?_; clear F a; intro a F
        refine rl_run F (run_move (F.ev rfl)) rfl ?_; clear F a; intro a F
        refine rl_guard_t F rfl rfl rfl (decide_eq_true (by decide)) ?_
        refine rl_run F (run_move (F.ev rfl)) rfl ?_; clear F a; intro a F
        refine rl_guard_t F rfl rfl rfl (decide_eq_true (by decide)) ?_
        obtain ⟨Xe65, hXe65⟩ := get_of_lt (xs := [()]) (i := 0) (by exact Nat.one_pos)
        obtain ⟨be65, oe65, _, Ie65, _, Ae65, hTe65⟩ := Sz64.at hXe65
        obtain rfl := cyc_open hTe65
        refine rl_run F (run_indexI tok44.k tok46 (F.ev rfl) (F.ev rfl) (by omega) Ie65) rfl ?_; clear F a; intro a F
        refine rl_guard_t F rfl rfl rfl (decide_eq_true (by decide)) ?_
        refine rl_run F (run_loadA tok46 rfl (F.ev rfl) (cs := [.int .u8 (1), .string (str ([97] : List UInt8)), .string (str ([] : List UInt8)), .slice none (0) (0), .string (str ([] : List UInt8)), .slice (some ⟨bv61, 0, none⟩) (1) (1)]) rfl (M.cellsA Ae65 0 (by omega) rfl)) rfl ?_; clear F a; intro a F
        refine rl_guard_t F rfl rfl rfl (decide_eq_true (by decide)) ?_
        refine rl_callS F ent26 rfl rfl (cyccheck_spec M Sz64) ?_; clear F M a; rintro _ w a M rfl F
        refine rl_guard_t F rfl rfl rfl (decide_eq_true (by decide)) ?_
        refine rl_run F (run_eqi (F.ev rfl) (F.ev rfl)) rfl ?_; clear F a; intro a F
        refine rl_run F (run_pick_t (F.ev rfl) (decide_eq_true (by decide)) (F.ev rfl)) rfl ?_; clear F a; intro a F
        refine rl_run F (run_move (F.ev rfl)) rfl ?_; clear F a; intro a F
        refine rl_guard_t F rfl rfl rfl (decide_eq_true (by decide)) ?_
        refine rl_callS F ent28 rfl rfl (lives_spec M) ?_; clear F M a; rintro _ w a M rfl F
        refine rl_run F (run_pick_t (F.ev rfl) (decide_eq_true (by decide)) (F.ev rfl)) rfl ?_; clear F a; intro a F
        refine rl_run F (run_assign (F.ev rfl)) rfl ?_; clear F a; intro a F
        refine rl_nil <| q_tn <| wp_ret <| fin1 F rfl rfl ?_
        exact ⟨_, ((((((((((((((hGt10.trans hGz13).trans hGz16).trans hGz19).trans hGz22).trans hGz25).trans hG26).trans hGz40).trans hGz43).trans hGz46).trans hGz49).trans hGk51).trans hGk55).trans hGk58).trans hGz64), M.weaken (.cons _ (.cons _ (.cons _ (.cons _ (.cons _ (.cons _ (List.Sublist.refl _))))))), by rfl⟩
      refine pt_act ?_ rfl ?_
      · skip
        refine rl_alloc F M tok30 rfl rfl ?_; clear F M a; intro b66 w a M F
        refine rl_nil <| ⟨Keep Gk51 [.blk b52 [.int .u8 (knN35.kind), .string (str (knN35.tag)), .string (str (knN35.key)), .slice (tak51) (knN35.as.length) (tck51), .string (str (knN35.text)), .slice (kak51) (knN35.kids.length) (kck51)] 30, .blk b7 [.int .u8 (knN1.kind), .string (str (knN1.tag)), .string (str (knN1.key)), .slice (tak6) (knN1.as.length) (tck6), .string (str (knN1.text)), .slice (kak6) (knN1.kids.length) (kck6)] 30, .blk b3 [.int .u8 (1), .string (str ([97] : List UInt8)), .string (str ([] : List UInt8)), .slice none (0) (0), .string (str ([] : List UInt8)), .slice (av44) (2) (cv44)] 46], M.keep (Gle.refl _) (by simp), fun w h => h.mono (Gle.refl _) (by simp), ?_⟩
        refine pt_act ?_ rfl pt_no
        refine rl_call F ent22 rfl rfl (trender_at (p := knT2) (x := knI8) (most := 34) (e := 14) (nn := zeroN) M ⟨by decide, by decide⟩ ⟨by decide, by decide, by decide⟩ RdSl.nil Sz46 (by decide) Ss54 ⟨by decide, by decide⟩ knR34 knR34N) ?_; clear F M a; rintro _ Gk68 w a hGk68 M ⟨tak68, tck68, kak68, kck68, rfl, hkk68, hlk68, SAk68, SKk68⟩ F
        replace Sz13 := Sz13.mono mono_rdP hGk68
        replace Sz16 := Sz16.mono mono_rdSlot hGk68
        replace Sz19 := Sz19.mono mono_rdSlot hGk68
        replace Sz22 := Sz22.mono mono_rdSlot hGk68
        replace Sz25 := Sz25.mono mono_rdP hGk68
        replace Er := Er.mono mono_rdP hGk68
        replace Sz40 := Sz40.mono mono_rdP hGk68
        replace Sz43 := Sz43.mono mono_rdP hGk68
        replace Sz46 := Sz46.mono mono_rdP hGk68
        replace Sz49 := Sz49.mono mono_rdStr hGk68
        replace Ss50 := Ss50.mono mono_rdStr hGk68
        replace SAk51 := SAk51.mono mono_rdAttr hGk68
        replace SKk51 := SKk51.mono mono_rdN hGk68
        replace Ss54 := Ss54.mono mono_rdStr hGk68
        refine rl_nil <| ⟨Keep Gk68 [.blk b52 [.int .u8 (knN35.kind), .string (str (knN35.tag)), .string (str (knN35.key)), .slice (tak51) (knN35.as.length) (tck51), .string (str (knN35.text)), .slice (kak51) (knN35.kids.length) (kck51)] 30, .blk b7 [.int .u8 (knN1.kind), .string (str (knN1.tag)), .string (str (knN1.key)), .slice (tak6) (knN1.as.length) (tck6), .string (str (knN1.text)), .slice (kak6) (knN1.kids.length) (kck6)] 30, .blk b3 [.int .u8 (1), .string (str ([97] : List UInt8)), .string (str ([] : List UInt8)), .slice none (0) (0), .string (str ([] : List UInt8)), .slice (av44) (2) (cv44)] 46], M.keep (Gle.refl _) (by simp), fun w h => h.mono hGk68 (by simp), ?_⟩
        refine pt_run F (fun w M => run_move (F.ev rfl)) rfl ?_; clear F a; intro a F
        refine pt_run F (fun w M => run_extract (v := .agg #[.int .u8 (zeroN.kind), .string (str (zeroN.tag)), .string (str (zeroN.key)), .slice (tak68) (zeroN.as.length) (tck68), .string (str (zeroN.text)), .slice (kak68) (zeroN.kids.length) (kck68)]) (F.ev rfl) rfl) rfl ?_; clear F a; intro a F
        refine pt_run F (fun w M => run_extract (v := .int .i64 (14)) (F.ev rfl) rfl) rfl ?_; clear F a; intro a F
        refine pt_act ?_ rfl pt_no
        refine rl_storeA F M tok30 (k := 0) rfl rfl rfl (us := [.int .u8 (zeroN.kind), .string (str (zeroN.tag)), .string (str (zeroN.key)), .slice (tak68) (zeroN.as.length) (tck68), .string (str (zeroN.text)), .slice (kak68) (zeroN.kids.length) (kck68)]) rfl rfl (by simp [Value.oneCell']) (by simp) ?_; clear F M a; intro w a M F
        change Mem w0 Gk68 (.blk b66 [.int .u8 (zeroN.kind), .string (str (zeroN.tag)), .string (str (zeroN.key)), .slice (tak68) (zeroN.as.length) (tck68), .string (str (zeroN.text)), .slice (kak68) (zeroN.kids.length) (kck68)] 30 :: .blk b52 [.int .u8 (knN35.kind), .string (str (knN35.tag)), .string (str (knN35.key)), .slice (tak51) (knN35.as.length) (tck51), .string (str (knN35.text)), .slice (kak51) (knN35.kids.length) (kck51)] 30 :: .row (.slice (av1) (1) (cv1)) (1) (csr) 46 6 :: .blk b7 [.int .u8 (knN1.kind), .string (str (knN1.tag)), .string (str (knN1.key)), .slice (tak6) (knN1.as.length) (tck6), .string (str (knN1.text)), .slice (kak6) (knN1.kids.length) (kck6)] 30 :: .blk b3 [.int .u8 (1), .string (str ([97] : List UInt8)), .string (str ([] : List UInt8)), .slice none (0) (0), .string (str ([] : List UInt8)), .slice (av44) (2) (cv44)] 46 :: L) _ at M
        refine rl_nil <| ⟨Keep Gk68 [.blk b52 [.int .u8 (knN35.kind), .string (str (knN35.tag)), .string (str (knN35.key)), .slice (tak51) (knN35.as.length) (tck51), .string (str (knN35.text)), .slice (kak51) (knN35.kids.length) (kck51)] 30, .blk b7 [.int .u8 (knN1.kind), .string (str (knN1.tag)), .string (str (knN1.key)), .slice (tak6) (knN1.as.length) (tck6), .string (str (knN1.text)), .slice (kak6) (knN1.kids.length) (kck6)] 30, .blk b3 [.int .u8 (1), .string (str ([97] : List UInt8)), .string (str ([] : List UInt8)), .slice none (0) (0), .string (str ([] : List UInt8)), .slice (av44) (2) (cv44)] 46], M.keep (Gle.refl _) (by simp), fun w h => h.mono (Gle.refl _) (by simp), ?_⟩
        refine pt_run F (fun w M => run_assign (F.ev rfl)) rfl ?_; clear F a; intro a F
        refine pt_fin <| q_tn <| wp_seq <| w_reg <| rl_run F (run_loadA tok46 rfl (F.ev rfl) (cs := [.int .u8 (1), .string (str ([97] : List UInt8)), .string (str ([] : List UInt8)), .slice none (0) (0), .string (str ([] : List UInt8)), .slice (av44) (2) (cv44)]) rfl (M.cellsL (k := 4) rfl rfl)) rfl ?_; clear F a; intro a F
        refine rl_run F (run_move (F.ev rfl)) rfl ?_; clear F a; intro a F
        refine rl_run F (run_buildS (cs := [.int .u64 (1), .int .u8 (0), .string (str ([] : List UInt8)), .slice (av47) (9) (cv47)]) (ps := [(0, .int .u64 (1)), (3, .slice (av47) (9) (cv47))]) tok51.k rfl tok51 (F.evp rfl) rfl) rfl ?_; clear F a; intro a F
        refine rl_call F ent22 rfl rfl (trender_at (p := knT2) (x := knI9) (most := 64) (e := 6) (nn := zeroN) M ⟨by decide, by decide⟩ ⟨by decide, by decide, by decide⟩ RdSl.nil Sz46 (by decide) Sz49 ⟨by decide, by decide⟩ knR9 knR9N) ?_; clear F M a; rintro _ Gk69 w a hGk69 M ⟨tak69, tck69, kak69, kck69, rfl, hkk69, hlk69, SAk69, SKk69⟩ F
        replace Sz13 := Sz13.mono mono_rdP hGk69
        replace Sz16 := Sz16.mono mono_rdSlot hGk69
        replace Sz19 := Sz19.mono mono_rdSlot hGk69
        replace Sz22 := Sz22.mono mono_rdSlot hGk69
        replace Sz25 := Sz25.mono mono_rdP hGk69
        replace Er := Er.mono mono_rdP hGk69
        replace Sz40 := Sz40.mono mono_rdP hGk69
        replace Sz43 := Sz43.mono mono_rdP hGk69
        replace Sz46 := Sz46.mono mono_rdP hGk69
        replace Sz49 := Sz49.mono mono_rdStr hGk69
        replace Ss50 := Ss50.mono mono_rdStr hGk69
        replace SAk51 := SAk51.mono mono_rdAttr hGk69
        replace SKk51 := SKk51.mono mono_rdN hGk69
        replace Ss54 := Ss54.mono mono_rdStr hGk69
        replace SAk68 := SAk68.mono mono_rdAttr hGk69
        replace SKk68 := SKk68.mono mono_rdN hGk69
        refine rl_run F (run_move (F.ev rfl)) rfl ?_; clear F a; intro a F
        refine rl_run F (run_extract (v := .agg #[.int .u8 (zeroN.kind), .string (str (zeroN.tag)), .string (str (zeroN.key)), .slice (tak69) (zeroN.as.length) (tck69), .string (str (zeroN.text)), .slice (kak69) (zeroN.kids.length) (kck69)]) (F.ev rfl) rfl) rfl ?_; clear F a; intro a F
        refine rl_run F (run_extract (v := .int .i64 (6)) (F.ev rfl) rfl) rfl ?_; clear F a; intro a F
        refine rl_alloc F M tok30 rfl rfl ?_; clear F M a; intro b70 w a M F
        refine rl_storeA F M tok30 (k := 0) rfl rfl rfl (us := [.int .u8 (zeroN.kind), .string (str (zeroN.tag)), .string (str (zeroN.key)), .slice (tak69) (zeroN.as.length) (tck69), .string (str (zeroN.text)), .slice (kak69) (zeroN.kids.length) (kck69)]) rfl rfl (by simp [Value.oneCell']) (by simp) ?_; clear F M a; intro w a M F
        change Mem w0 Gk69 (.blk b70 [.int .u8 (zeroN.kind), .string (str (zeroN.tag)), .string (str (zeroN.key)), .slice (tak69) (zeroN.as.length) (tck69), .string (str (zeroN.text)), .slice (kak69) (zeroN.kids.length) (kck69)] 30 :: .blk b66 [.int .u8 (zeroN.kind), .string (str (zeroN.tag)), .string (str (zeroN.key)), .slice (tak68) (zeroN.as.length) (tck68), .string (str (zeroN.text)), .slice (kak68) (zeroN.kids.length) (kck68)] 30 :: .blk b52 [.int .u8 (knN35.kind), .string (str (knN35.tag)), .string (str (knN35.key)), .slice (tak51) (knN35.as.length) (tck51), .string (str (knN35.text)), .slice (kak51) (knN35.kids.length) (kck51)] 30 :: .row (.slice (av1) (1) (cv1)) (1) (csr) 46 6 :: .blk b7 [.int .u8 (knN1.kind), .string (str (knN1.tag)), .string (str (knN1.key)), .slice (tak6) (knN1.as.length) (tck6), .string (str (knN1.text)), .slice (kak6) (knN1.kids.length) (kck6)] 30 :: .blk b3 [.int .u8 (1), .string (str ([97] : List UInt8)), .string (str ([] : List UInt8)), .slice none (0) (0), .string (str ([] : List UInt8)), .slice (av44) (2) (cv44)] 46 :: L) _ at M
        refine rl_run F (run_assign (F.ev rfl)) rfl ?_; clear F a; intro a F
        refine rl_nil <| q_tn <| wp_seq <| w_reg <| rl_run F (run_loadA tok46 rfl (F.ev rfl) (cs := [.int .u8 (1), .string (str ([97] : List UInt8)), .string (str ([] : List UInt8)), .slice none (0) (0), .string (str ([] : List UInt8)), .slice (av44) (2) (cv44)]) rfl (M.cellsL (k := 5) rfl rfl)) rfl ?_; clear F a; intro a F
        refine rl_callS F ent24 rfl rfl (tnodes_spec (x := knT2) (m := 8) M ⟨by decide, by decide⟩ ⟨by decide, by decide, by decide⟩ RdSl.nil Sz46) ?_; clear F M a; rintro _ w a M rfl F
        rw [knNd8a, knNd8b] at F
        refine rl_run F (run_move (F.ev rfl)) rfl ?_; clear F a; intro a F
        refine rl_run F (run_extract (v := .int .i64 (35)) (F.ev rfl) rfl) rfl ?_; clear F a; intro a F
        refine rl_run F (run_extract (v := .int .i64 (0)) (F.ev rfl) rfl) rfl ?_; clear F a; intro a F
        iterate 2 (refine rl_run F (run_assign (F.ev rfl)) rfl ?_; clear F a; intro a F)
        refine rl_nil <| q_tn <| wp_seq <| w_reg <| rl_run F (run_loadA tok46 rfl (F.ev rfl) (cs := [.int .u8 (1), .string (str ([97] : List UInt8)), .string (str ([] : List UInt8)), .slice none (0) (0), .string (str ([] : List UInt8)), .slice (av44) (2) (cv44)]) rfl (M.cellsL (k := 5) rfl rfl)) rfl ?_; clear F a; intro a F
        refine rl_callS F ent24 rfl rfl (tnodes_spec (x := knT2) (m := 9) M ⟨by decide, by decide⟩ ⟨by decide, by decide, by decide⟩ RdSl.nil Sz46) ?_; clear F M a; rintro _ w a M rfl F
        rw [knNd9a, knNd9b] at F
        refine rl_run F (run_move (F.ev rfl)) rfl ?_; clear F a; intro a F
        refine rl_run F (run_extract (v := .int .i64 (0)) (F.ev rfl) rfl) rfl ?_; clear F a; intro a F
        refine rl_run F (run_extract (v := .int .i64 (1)) (F.ev rfl) rfl) rfl ?_; clear F a; intro a F
        iterate 2 (refine rl_run F (run_assign (F.ev rfl)) rfl ?_; clear F a; intro a F)
        refine rl_nil <| q_tn <| wp_seq <| w_reg <| rl_makeE (rd := rdRaw) (Z := ([.int .u8 (0), .string (str ([] : List UInt8)), .string (str ([] : List UInt8)), .slice none (0) (0), .string (str ([] : List UInt8)), .slice none (0) (0)] : List Value)) F M tok44.k tok46 rfl (by decide) rfl rfl (l := 1) (by omega) rfl (by omega) (by show 104 * _ ≤ _; omega) (by omega) (by simp [ti46, Value.cells, Value.oneCell']) (rfl) rfl ?_; clear F M a; intro bv72 csv72 w a M Ev72 F
        refine rl_run F (run_assign (F.ev rfl)) rfl ?_; clear F a; intro a F
        refine rl_nil <| q_tn <| wp_seq <| w_reg ?_
        iterate 2 (refine rl_run F (run_move (F.ev rfl)) rfl ?_; clear F a; intro a F)
        refine rl_run F (run_buildS (cs := [.int .u8 (1), .string (str ([97] : List UInt8)), .string (str ([] : List UInt8)), .slice none (0) (0), .string (str ([] : List UInt8)), .slice (some ⟨bv72, 0, none⟩) (1) (1)]) (ps := [(0, .int .u8 (1)), (1, .string (str ([97] : List UInt8))), (5, .slice (some ⟨bv72, 0, none⟩) (1) (1))]) tok46.k rfl tok46 (F.evp rfl) rfl) rfl ?_; clear F a; intro a F
        obtain ⟨Xe73, hXe73⟩ := get_of_lt (xs := List.replicate (1) (([.int .u8 (0), .string (str ([] : List UInt8)), .string (str ([] : List UInt8)), .slice none (0) (0), .string (str ([] : List UInt8)), .slice none (0) (0)] : List Value))) (i := 0) (by exact Nat.one_pos)
        obtain ⟨be73, _, Ie73, hme73, _, Ae73, hTe73⟩ := M.atRow (k := 0) rfl (by decide) Ev72 hXe73
        refine rl_run F (run_indexI tok44.k tok46 (F.ev rfl) (F.ev rfl) (by omega) Ie73) rfl ?_; clear F a; intro a F
        refine rl_storeEl F M tok46 (k := 0) rfl rfl Ev72 Ie73 (lt_of_get hXe73) rfl rfl (us := [.int .u8 (1), .string (str ([97] : List UInt8)), .string (str ([] : List UInt8)), .slice none (0) (0), .string (str ([] : List UInt8)), .slice (some ⟨bv72, 0, none⟩) (1) (1)]) rfl rfl (by simp [Value.oneCell']) (X' := ([.int .u8 (1), .string (str ([97] : List UInt8)), .string (str ([] : List UInt8)), .slice none (0) (0), .string (str ([] : List UInt8)), .slice (some ⟨bv72, 0, none⟩) (1) (1)] : List Value)) (rfl) ?_; clear F M a; intro csu74 w a M Eu74 F
        refine rl_nil <| q_tn <| wp_seq ?_
        have Eq9 : Els rdRaw 6 Gk69 csu74 [[.int .u8 (1), .string (str ([97] : List UInt8)), .string (str ([] : List UInt8)), .slice none (0) (0), .string (str ([] : List UInt8)), .slice (some ⟨bv72, 0, none⟩) (1) (1)]] := Eu74
        obtain ⟨hnz75, Gz75, az75, cz75, hGz75, hez75, Sz75, M⟩ := M.freeze_row mono_rdRaw (k := 0) rfl Eq9 (by decide)
        clear hez75 az75 cz75
        replace Sz13 := Sz13.mono mono_rdP hGz75
        replace Sz16 := Sz16.mono mono_rdSlot hGz75
        replace Sz19 := Sz19.mono mono_rdSlot hGz75
        replace Sz22 := Sz22.mono mono_rdSlot hGz75
        replace Sz25 := Sz25.mono mono_rdP hGz75
        replace Er := Er.mono mono_rdP hGz75
        replace Sz40 := Sz40.mono mono_rdP hGz75
        replace Sz43 := Sz43.mono mono_rdP hGz75
        replace Sz46 := Sz46.mono mono_rdP hGz75
        replace Sz49 := Sz49.mono mono_rdStr hGz75
        replace Ss50 := Ss50.mono mono_rdStr hGz75
        replace SAk51 := SAk51.mono mono_rdAttr hGz75
        replace SKk51 := SKk51.mono mono_rdN hGz75
        replace Ss54 := Ss54.mono mono_rdStr hGz75
        replace SAk68 := SAk68.mono mono_rdAttr hGz75
        replace SKk68 := SKk68.mono mono_rdN hGz75
        replace SAk69 := SAk69.mono mono_rdAttr hGz75
        replace SKk69 := SKk69.mono mono_rdN hGz75
        replace Eu74 := Eu74.mono mono_rdRaw hGz75
        clear hnz75
        replace Sz75 := raw_cyc (ca := some ⟨bv72, 0, none⟩) (cc := 1) Sz75
        refine w_reg <| rl_run F (run_move (F.ev rfl)) rfl ?_; clear F a; intro a F
        refine rl_run F (run_eqi (F.ev rfl) (F.ev rfl)) rfl ?_; clear F a; intro a F
        refine rl_run F (run_move (F.ev rfl)) rfl ?_; clear F a; intro a F
        refine rl_guard_t F rfl rfl rfl (decide_eq_true (by decide)) ?_
        refine rl_run F (run_loadA tok30 rfl (F.ev rfl) (cs := [.int .u8 (knN35.kind), .string (str (knN35.tag)), .string (str (knN35.key)), .slice (tak51) (knN35.as.length) (tck51), .string (str (knN35.text)), .slice (kak51) (knN35.kids.length) (kck51)]) rfl (M.cellsL (k := 2) rfl rfl)) rfl ?_; clear F a; intro a F
        refine rl_guard_t F rfl rfl rfl (decide_eq_true (by decide)) ?_
        refine rl_callS F ent17 rfl rfl (ncount_spec (x := knN35) M hkk51 hlk51 SAk51 SKk51) ?_; clear F M a; rintro _ w a M rfl F
        rw [knC35] at F
        refine rl_guard_t F rfl rfl rfl (decide_eq_true (by decide)) ?_
        refine rl_run F (run_eqi (F.ev rfl) (F.ev rfl)) rfl ?_; clear F a; intro a F
        refine rl_run F (run_pick_t (F.ev rfl) (decide_eq_true (by decide)) (F.ev rfl)) rfl ?_; clear F a; intro a F
        refine rl_run F (run_move (F.ev rfl)) rfl ?_; clear F a; intro a F
        refine rl_guard_t F rfl rfl rfl (decide_eq_true (by decide)) ?_
        refine rl_run F (run_move (F.ev rfl)) rfl ?_; clear F a; intro a F
        refine rl_guard_t F rfl rfl rfl (decide_eq_true (by decide)) ?_
        refine rl_run F (run_eqi (F.ev rfl) (F.ev rfl)) rfl ?_; clear F a; intro a F
        refine rl_run F (run_pick_t (F.ev rfl) (decide_eq_true (by decide)) (F.ev rfl)) rfl ?_; clear F a; intro a F
        refine rl_run F (run_move (F.ev rfl)) rfl ?_; clear F a; intro a F
        refine rl_guard_t F rfl rfl rfl (decide_eq_true (by decide)) ?_
        refine rl_run F (run_move (F.ev rfl)) rfl ?_; clear F a; intro a F
        refine rl_guard_t F rfl rfl rfl (decide_eq_true (by decide)) ?_
        refine rl_run F (run_eqi (F.ev rfl) (F.ev rfl)) rfl ?_; clear F a; intro a F
        refine rl_run F (run_pick_t (F.ev rfl) (decide_eq_true (by decide)) (F.ev rfl)) rfl ?_; clear F a; intro a F
        refine rl_run F (run_move (F.ev rfl)) rfl ?_; clear F a; intro a F
        refine rl_guard_t F rfl rfl rfl (decide_eq_true (by decide)) ?_
        refine rl_run F (run_move (F.ev rfl)) rfl ?_; clear F a; intro a F
        refine rl_guard_t F rfl rfl rfl (decide_eq_true (by decide)) ?_
        refine rl_run F (run_eqi (F.ev rfl) (F.ev rfl)) rfl ?_; clear F a; intro a F
        refine rl_run F (run_pick_t (F.ev rfl) (decide_eq_true (by decide)) (F.ev rfl)) rfl ?_; clear F a; intro a F
        refine rl_run F (run_move (F.ev rfl)) rfl ?_; clear F a; intro a F
        refine rl_guard_t F rfl rfl rfl (decide_eq_true (by decide)) ?_
        refine rl_run F (run_move (F.ev rfl)) rfl ?_; clear F a; intro a F
        refine rl_guard_t F rfl rfl rfl (decide_eq_true (by decide)) ?_
        refine rl_run F (run_eqi (F.ev rfl) (F.ev rfl)) rfl ?_; clear F a; intro a F
        refine rl_run F (run_pick_t (F.ev rfl) (decide_eq_true (by decide)) (F.ev rfl)) rfl ?_; clear F a; intro a F
        refine rl_run F (run_move (F.ev rfl)) rfl ?_; clear F a; intro a F
        refine rl_guard_t F rfl rfl rfl (decide_eq_true (by decide)) ?_
        refine rl_run F (run_move (F.ev rfl)) rfl ?_; clear F a; intro a F
        refine rl_guard_t F rfl rfl rfl (decide_eq_true (by decide)) ?_
        refine rl_run F (run_eqi (F.ev rfl) (F.ev rfl)) rfl ?_; clear F a; intro a F
        refine rl_run F (run_pick_t (F.ev rfl) (decide_eq_true (by decide)) (F.ev rfl)) rfl ?_; clear F a; intro a F
        refine rl_run F (run_move (F.ev rfl)) rfl ?_; clear F a; intro a F
        refine rl_guard_t F rfl rfl rfl (decide_eq_true (by decide)) ?_
        refine rl_run F (run_move (F.ev rfl)) rfl ?_; clear F a; intro a F
        refine rl_guard_t F rfl rfl rfl (decide_eq_true (by decide)) ?_
        obtain ⟨Xe76, hXe76⟩ := get_of_lt (xs := [()]) (i := 0) (by exact Nat.one_pos)
        obtain ⟨be76, oe76, _, Ie76, _, Ae76, hTe76⟩ := Sz75.at hXe76
        obtain rfl := cyc_open hTe76
        refine rl_run F (run_indexI tok44.k tok46 (F.ev rfl) (F.ev rfl) (by omega) Ie76) rfl ?_; clear F a; intro a F
        refine rl_guard_t F rfl rfl rfl (decide_eq_true (by decide)) ?_
        refine rl_run F (run_loadA tok46 rfl (F.ev rfl) (cs := [.int .u8 (1), .string (str ([97] : List UInt8)), .string (str ([] : List UInt8)), .slice none (0) (0), .string (str ([] : List UInt8)), .slice (some ⟨bv72, 0, none⟩) (1) (1)]) rfl (M.cellsA Ae76 0 (by omega) rfl)) rfl ?_; clear F a; intro a F
        refine rl_guard_t F rfl rfl rfl (decide_eq_true (by decide)) ?_
        refine rl_callS F ent26 rfl rfl (cyccheck_spec M Sz75) ?_; clear F M a; rintro _ w a M rfl F
        refine rl_guard_t F rfl rfl rfl (decide_eq_true (by decide)) ?_
        refine rl_run F (run_eqi (F.ev rfl) (F.ev rfl)) rfl ?_; clear F a; intro a F
        refine rl_run F (run_pick_t (F.ev rfl) (decide_eq_true (by decide)) (F.ev rfl)) rfl ?_; clear F a; intro a F
        refine rl_run F (run_move (F.ev rfl)) rfl ?_; clear F a; intro a F
        refine rl_guard_t F rfl rfl rfl (decide_eq_true (by decide)) ?_
        refine rl_callS F ent28 rfl rfl (lives_spec M) ?_; clear F M a; rintro _ w a M rfl F
        refine rl_run F (run_pick_t (F.ev rfl) (decide_eq_true (by decide)) (F.ev rfl)) rfl ?_; clear F a; intro a F
        refine rl_run F (run_assign (F.ev rfl)) rfl ?_; clear F a; intro a F
        refine rl_nil <| q_tn <| wp_ret <| fin1 F rfl rfl ?_
        exact ⟨_, ((((((((((((((hGt10.trans hGz13).trans hGz16).trans hGz19).trans hGz22).trans hGz25).trans hG26).trans hGz40).trans hGz43).trans hGz46).trans hGz49).trans hGk51).trans hGk68).trans hGk69).trans hGz75), M.weaken (.cons _ (.cons _ (.cons _ (.cons _ (.cons _ (.cons _ (List.Sublist.refl _))))))), by rfl⟩
      exact pt_no
    refine pt_act ?_ rfl ?_
    · skip
      refine rl_alloc F M tok30 rfl rfl ?_; clear F M a; intro b77 w a M F
      refine rl_nil <| ⟨Keep Gz49 [.blk b7 [.int .u8 (knN1.kind), .string (str (knN1.tag)), .string (str (knN1.key)), .slice (tak6) (knN1.as.length) (tck6), .string (str (knN1.text)), .slice (kak6) (knN1.kids.length) (kck6)] 30, .blk b3 [.int .u8 (1), .string (str ([97] : List UInt8)), .string (str ([] : List UInt8)), .slice none (0) (0), .string (str ([] : List UInt8)), .slice (av44) (2) (cv44)] 46], M.keep (Gle.refl _) (by simp), fun w h => h.mono (Gle.refl _) (by simp), ?_⟩
      refine pt_act ?_ rfl pt_no
      refine rl_call F ent22 rfl rfl (trender_at (p := knT2) (x := knI8) (most := 35) (e := 0) (nn := knN35) M ⟨by decide, by decide⟩ ⟨by decide, by decide, by decide⟩ RdSl.nil Sz46 (by decide) Ss50 ⟨by decide, by decide⟩ knR35 knRN35) ?_; clear F M a; rintro _ Gk79 w a hGk79 M ⟨tak79, tck79, kak79, kck79, rfl, hkk79, hlk79, SAk79, SKk79⟩ F
      replace Sz13 := Sz13.mono mono_rdP hGk79
      replace Sz16 := Sz16.mono mono_rdSlot hGk79
      replace Sz19 := Sz19.mono mono_rdSlot hGk79
      replace Sz22 := Sz22.mono mono_rdSlot hGk79
      replace Sz25 := Sz25.mono mono_rdP hGk79
      replace Er := Er.mono mono_rdP hGk79
      replace Sz40 := Sz40.mono mono_rdP hGk79
      replace Sz43 := Sz43.mono mono_rdP hGk79
      replace Sz46 := Sz46.mono mono_rdP hGk79
      replace Sz49 := Sz49.mono mono_rdStr hGk79
      replace Ss50 := Ss50.mono mono_rdStr hGk79
      refine rl_nil <| ⟨Keep Gk79 [.blk b7 [.int .u8 (knN1.kind), .string (str (knN1.tag)), .string (str (knN1.key)), .slice (tak6) (knN1.as.length) (tck6), .string (str (knN1.text)), .slice (kak6) (knN1.kids.length) (kck6)] 30, .blk b3 [.int .u8 (1), .string (str ([97] : List UInt8)), .string (str ([] : List UInt8)), .slice none (0) (0), .string (str ([] : List UInt8)), .slice (av44) (2) (cv44)] 46], M.keep (Gle.refl _) (by simp), fun w h => h.mono hGk79 (by simp), ?_⟩
      refine pt_run F (fun w M => run_move (F.ev rfl)) rfl ?_; clear F a; intro a F
      refine pt_run F (fun w M => run_extract (v := .agg #[.int .u8 (knN35.kind), .string (str (knN35.tag)), .string (str (knN35.key)), .slice (tak79) (knN35.as.length) (tck79), .string (str (knN35.text)), .slice (kak79) (knN35.kids.length) (kck79)]) (F.ev rfl) rfl) rfl ?_; clear F a; intro a F
      refine pt_run F (fun w M => run_extract (v := .int .i64 (0)) (F.ev rfl) rfl) rfl ?_; clear F a; intro a F
      refine pt_act ?_ rfl pt_no
      refine rl_storeA F M tok30 (k := 0) rfl rfl rfl (us := [.int .u8 (knN35.kind), .string (str (knN35.tag)), .string (str (knN35.key)), .slice (tak79) (knN35.as.length) (tck79), .string (str (knN35.text)), .slice (kak79) (knN35.kids.length) (kck79)]) rfl rfl (by simp [Value.oneCell']) (by simp) ?_; clear F M a; intro w a M F
      change Mem w0 Gk79 (.blk b77 [.int .u8 (knN35.kind), .string (str (knN35.tag)), .string (str (knN35.key)), .slice (tak79) (knN35.as.length) (tck79), .string (str (knN35.text)), .slice (kak79) (knN35.kids.length) (kck79)] 30 :: .row (.slice (av1) (1) (cv1)) (1) (csr) 46 6 :: .blk b7 [.int .u8 (knN1.kind), .string (str (knN1.tag)), .string (str (knN1.key)), .slice (tak6) (knN1.as.length) (tck6), .string (str (knN1.text)), .slice (kak6) (knN1.kids.length) (kck6)] 30 :: .blk b3 [.int .u8 (1), .string (str ([97] : List UInt8)), .string (str ([] : List UInt8)), .slice none (0) (0), .string (str ([] : List UInt8)), .slice (av44) (2) (cv44)] 46 :: L) _ at M
      refine rl_nil <| ⟨Keep Gk79 [.blk b7 [.int .u8 (knN1.kind), .string (str (knN1.tag)), .string (str (knN1.key)), .slice (tak6) (knN1.as.length) (tck6), .string (str (knN1.text)), .slice (kak6) (knN1.kids.length) (kck6)] 30, .blk b3 [.int .u8 (1), .string (str ([97] : List UInt8)), .string (str ([] : List UInt8)), .slice none (0) (0), .string (str ([] : List UInt8)), .slice (av44) (2) (cv44)] 46], M.keep (Gle.refl _) (by simp), fun w h => h.mono (Gle.refl _) (by simp), ?_⟩
      refine pt_run F (fun w M => run_assign (F.ev rfl)) rfl ?_; clear F a; intro a F
      refine pt_fin <| q_tn <| wp_seq <| w_tree (.run 0 (.run 1 (.run 2 (.run 3 (.act 4 (.run 5 (.run 6 (.run 7 (.act 8 (.act 9 (.run 10 .fin) .no) .no)))) (.act 8 (.act 4 (.run 5 (.run 6 (.run 7 (.act 9 (.run 10 .fin) .no)))) .no) .no)))))) (Keep Gk79 [.blk b77 [.int .u8 (knN35.kind), .string (str (knN35.tag)), .string (str (knN35.key)), .slice (tak79) (knN35.as.length) (tck79), .string (str (knN35.text)), .slice (kak79) (knN35.kids.length) (kck79)] 30, .blk b7 [.int .u8 (knN1.kind), .string (str (knN1.tag)), .string (str (knN1.key)), .slice (tak6) (knN1.as.length) (tck6), .string (str (knN1.text)), .slice (kak6) (knN1.kids.length) (kck6)] 30, .blk b3 [.int .u8 (1), .string (str ([97] : List UInt8)), .string (str ([] : List UInt8)), .slice none (0) (0), .string (str ([] : List UInt8)), .slice (av44) (2) (cv44)] 46]) rfl (by kernel_rfl) (fun c a d v w h => by cases d <;> exact h) ((M.drew _).keep (Gle.refl _) (by simp)) ?_
      replace M := M.drew (w.drawn + 1)
      refine pt_run F (fun w M => run_loadA tok46 rfl (F.ev rfl) (cs := [.int .u8 (1), .string (str ([97] : List UInt8)), .string (str ([] : List UInt8)), .slice none (0) (0), .string (str ([] : List UInt8)), .slice (av44) (2) (cv44)]) rfl (M.cellsL (k := 2) rfl rfl)) rfl ?_; clear F a; intro a F
      refine pt_run F (fun w M => run_move (F.ev rfl)) rfl ?_; clear F a; intro a F
      obtain ⟨as80, cs80, Is80, hms80, hcs80, Ss80⟩ := Sz49.partT (8) (by omega)
      refine pt_run F (fun w M => run_sliceI tok49.k tok9 Is80 (F.ev rfl) (h := 8) (kl := .i64) (zl := 0) rfl ⟨(F.ev rfl), by omega⟩ (by omega) (by omega)) rfl ?_; clear F a; intro a F
      refine pt_run F (fun w M => run_buildS (cs := [.int .u64 (1), .int .u8 (0), .string (str ([] : List UInt8)), .slice (as80) (8 - 0) (cs80)]) (ps := [(0, .int .u64 (1)), (3, .slice (as80) (8 - 0) (cs80))]) tok51.k rfl tok51 (F.evp rfl) rfl) rfl ?_; clear F a; intro a F
      refine pt_act ?_ rfl ?_
      · skip
        refine rl_call F ent22 rfl rfl (trender_at (p := knT2) (x := knI8) (most := 34) (e := 14) (nn := zeroN) M ⟨by decide, by decide⟩ ⟨by decide, by decide, by decide⟩ RdSl.nil Sz46 (by decide) Ss80 ⟨by decide, by decide⟩ knR34 knR34N) ?_; clear F M a; rintro _ Gk81 w a hGk81 M ⟨tak81, tck81, kak81, kck81, rfl, hkk81, hlk81, SAk81, SKk81⟩ F
        replace Sz13 := Sz13.mono mono_rdP hGk81
        replace Sz16 := Sz16.mono mono_rdSlot hGk81
        replace Sz19 := Sz19.mono mono_rdSlot hGk81
        replace Sz22 := Sz22.mono mono_rdSlot hGk81
        replace Sz25 := Sz25.mono mono_rdP hGk81
        replace Er := Er.mono mono_rdP hGk81
        replace Sz40 := Sz40.mono mono_rdP hGk81
        replace Sz43 := Sz43.mono mono_rdP hGk81
        replace Sz46 := Sz46.mono mono_rdP hGk81
        replace Sz49 := Sz49.mono mono_rdStr hGk81
        replace Ss50 := Ss50.mono mono_rdStr hGk81
        replace SAk79 := SAk79.mono mono_rdAttr hGk81
        replace SKk79 := SKk79.mono mono_rdN hGk81
        replace Ss80 := Ss80.mono mono_rdStr hGk81
        refine rl_nil <| ⟨Keep Gk81 [.blk b77 [.int .u8 (knN35.kind), .string (str (knN35.tag)), .string (str (knN35.key)), .slice (tak79) (knN35.as.length) (tck79), .string (str (knN35.text)), .slice (kak79) (knN35.kids.length) (kck79)] 30, .blk b7 [.int .u8 (knN1.kind), .string (str (knN1.tag)), .string (str (knN1.key)), .slice (tak6) (knN1.as.length) (tck6), .string (str (knN1.text)), .slice (kak6) (knN1.kids.length) (kck6)] 30, .blk b3 [.int .u8 (1), .string (str ([97] : List UInt8)), .string (str ([] : List UInt8)), .slice none (0) (0), .string (str ([] : List UInt8)), .slice (av44) (2) (cv44)] 46], M.keep (Gle.refl _) (by simp), fun w h => h.mono hGk81 (by simp), ?_⟩
        refine pt_run F (fun w M => run_move (F.ev rfl)) rfl ?_; clear F a; intro a F
        refine pt_run F (fun w M => run_extract (v := .agg #[.int .u8 (zeroN.kind), .string (str (zeroN.tag)), .string (str (zeroN.key)), .slice (tak81) (zeroN.as.length) (tck81), .string (str (zeroN.text)), .slice (kak81) (zeroN.kids.length) (kck81)]) (F.ev rfl) rfl) rfl ?_; clear F a; intro a F
        refine pt_run F (fun w M => run_extract (v := .int .i64 (14)) (F.ev rfl) rfl) rfl ?_; clear F a; intro a F
        refine pt_act ?_ rfl pt_no
        refine rl_alloc F M tok30 rfl rfl ?_; clear F M a; intro b82 w a M F
        refine rl_nil <| ⟨Keep Gk81 [.blk b77 [.int .u8 (knN35.kind), .string (str (knN35.tag)), .string (str (knN35.key)), .slice (tak79) (knN35.as.length) (tck79), .string (str (knN35.text)), .slice (kak79) (knN35.kids.length) (kck79)] 30, .blk b7 [.int .u8 (knN1.kind), .string (str (knN1.tag)), .string (str (knN1.key)), .slice (tak6) (knN1.as.length) (tck6), .string (str (knN1.text)), .slice (kak6) (knN1.kids.length) (kck6)] 30, .blk b3 [.int .u8 (1), .string (str ([97] : List UInt8)), .string (str ([] : List UInt8)), .slice none (0) (0), .string (str ([] : List UInt8)), .slice (av44) (2) (cv44)] 46], M.keep (Gle.refl _) (by simp), fun w h => h.mono (Gle.refl _) (by simp), ?_⟩
        refine pt_act ?_ rfl pt_no
        refine rl_storeA F M tok30 (k := 0) rfl rfl rfl (us := [.int .u8 (zeroN.kind), .string (str (zeroN.tag)), .string (str (zeroN.key)), .slice (tak81) (zeroN.as.length) (tck81), .string (str (zeroN.text)), .slice (kak81) (zeroN.kids.length) (kck81)]) rfl rfl (by simp [Value.oneCell']) (by simp) ?_; clear F M a; intro w a M F
        change Mem w0 Gk81 (.blk b82 [.int .u8 (zeroN.kind), .string (str (zeroN.tag)), .string (str (zeroN.key)), .slice (tak81) (zeroN.as.length) (tck81), .string (str (zeroN.text)), .slice (kak81) (zeroN.kids.length) (kck81)] 30 :: .blk b77 [.int .u8 (knN35.kind), .string (str (knN35.tag)), .string (str (knN35.key)), .slice (tak79) (knN35.as.length) (tck79), .string (str (knN35.text)), .slice (kak79) (knN35.kids.length) (kck79)] 30 :: .row (.slice (av1) (1) (cv1)) (1) (csr) 46 6 :: .blk b7 [.int .u8 (knN1.kind), .string (str (knN1.tag)), .string (str (knN1.key)), .slice (tak6) (knN1.as.length) (tck6), .string (str (knN1.text)), .slice (kak6) (knN1.kids.length) (kck6)] 30 :: .blk b3 [.int .u8 (1), .string (str ([97] : List UInt8)), .string (str ([] : List UInt8)), .slice none (0) (0), .string (str ([] : List UInt8)), .slice (av44) (2) (cv44)] 46 :: L) _ at M
        refine rl_nil <| ⟨Keep Gk81 [.blk b77 [.int .u8 (knN35.kind), .string (str (knN35.tag)), .string (str (knN35.key)), .slice (tak79) (knN35.as.length) (tck79), .string (str (knN35.text)), .slice (kak79) (knN35.kids.length) (kck79)] 30, .blk b7 [.int .u8 (knN1.kind), .string (str (knN1.tag)), .string (str (knN1.key)), .slice (tak6) (knN1.as.length) (tck6), .string (str (knN1.text)), .slice (kak6) (knN1.kids.length) (kck6)] 30, .blk b3 [.int .u8 (1), .string (str ([97] : List UInt8)), .string (str ([] : List UInt8)), .slice none (0) (0), .string (str ([] : List UInt8)), .slice (av44) (2) (cv44)] 46], M.keep (Gle.refl _) (by simp), fun w h => h.mono (Gle.refl _) (by simp), ?_⟩
        refine pt_run F (fun w M => run_assign (F.ev rfl)) rfl ?_; clear F a; intro a F
        refine pt_fin <| q_tn <| wp_seq <| w_reg <| rl_run F (run_loadA tok46 rfl (F.ev rfl) (cs := [.int .u8 (1), .string (str ([97] : List UInt8)), .string (str ([] : List UInt8)), .slice none (0) (0), .string (str ([] : List UInt8)), .slice (av44) (2) (cv44)]) rfl (M.cellsL (k := 4) rfl rfl)) rfl ?_; clear F a; intro a F
        refine rl_run F (run_move (F.ev rfl)) rfl ?_; clear F a; intro a F
        refine rl_run F (run_buildS (cs := [.int .u64 (1), .int .u8 (0), .string (str ([] : List UInt8)), .slice (av47) (9) (cv47)]) (ps := [(0, .int .u64 (1)), (3, .slice (av47) (9) (cv47))]) tok51.k rfl tok51 (F.evp rfl) rfl) rfl ?_; clear F a; intro a F
        refine rl_call F ent22 rfl rfl (trender_at (p := knT2) (x := knI9) (most := 64) (e := 6) (nn := zeroN) M ⟨by decide, by decide⟩ ⟨by decide, by decide, by decide⟩ RdSl.nil Sz46 (by decide) Sz49 ⟨by decide, by decide⟩ knR9 knR9N) ?_; clear F M a; rintro _ Gk84 w a hGk84 M ⟨tak84, tck84, kak84, kck84, rfl, hkk84, hlk84, SAk84, SKk84⟩ F
        replace Sz13 := Sz13.mono mono_rdP hGk84
        replace Sz16 := Sz16.mono mono_rdSlot hGk84
        replace Sz19 := Sz19.mono mono_rdSlot hGk84
        replace Sz22 := Sz22.mono mono_rdSlot hGk84
        replace Sz25 := Sz25.mono mono_rdP hGk84
        replace Er := Er.mono mono_rdP hGk84
        replace Sz40 := Sz40.mono mono_rdP hGk84
        replace Sz43 := Sz43.mono mono_rdP hGk84
        replace Sz46 := Sz46.mono mono_rdP hGk84
        replace Sz49 := Sz49.mono mono_rdStr hGk84
        replace Ss50 := Ss50.mono mono_rdStr hGk84
        replace SAk79 := SAk79.mono mono_rdAttr hGk84
        replace SKk79 := SKk79.mono mono_rdN hGk84
        replace Ss80 := Ss80.mono mono_rdStr hGk84
        replace SAk81 := SAk81.mono mono_rdAttr hGk84
        replace SKk81 := SKk81.mono mono_rdN hGk84
        refine rl_run F (run_move (F.ev rfl)) rfl ?_; clear F a; intro a F
        refine rl_run F (run_extract (v := .agg #[.int .u8 (zeroN.kind), .string (str (zeroN.tag)), .string (str (zeroN.key)), .slice (tak84) (zeroN.as.length) (tck84), .string (str (zeroN.text)), .slice (kak84) (zeroN.kids.length) (kck84)]) (F.ev rfl) rfl) rfl ?_; clear F a; intro a F
        refine rl_run F (run_extract (v := .int .i64 (6)) (F.ev rfl) rfl) rfl ?_; clear F a; intro a F
        refine rl_alloc F M tok30 rfl rfl ?_; clear F M a; intro b85 w a M F
        refine rl_storeA F M tok30 (k := 0) rfl rfl rfl (us := [.int .u8 (zeroN.kind), .string (str (zeroN.tag)), .string (str (zeroN.key)), .slice (tak84) (zeroN.as.length) (tck84), .string (str (zeroN.text)), .slice (kak84) (zeroN.kids.length) (kck84)]) rfl rfl (by simp [Value.oneCell']) (by simp) ?_; clear F M a; intro w a M F
        change Mem w0 Gk84 (.blk b85 [.int .u8 (zeroN.kind), .string (str (zeroN.tag)), .string (str (zeroN.key)), .slice (tak84) (zeroN.as.length) (tck84), .string (str (zeroN.text)), .slice (kak84) (zeroN.kids.length) (kck84)] 30 :: .blk b82 [.int .u8 (zeroN.kind), .string (str (zeroN.tag)), .string (str (zeroN.key)), .slice (tak81) (zeroN.as.length) (tck81), .string (str (zeroN.text)), .slice (kak81) (zeroN.kids.length) (kck81)] 30 :: .blk b77 [.int .u8 (knN35.kind), .string (str (knN35.tag)), .string (str (knN35.key)), .slice (tak79) (knN35.as.length) (tck79), .string (str (knN35.text)), .slice (kak79) (knN35.kids.length) (kck79)] 30 :: .row (.slice (av1) (1) (cv1)) (1) (csr) 46 6 :: .blk b7 [.int .u8 (knN1.kind), .string (str (knN1.tag)), .string (str (knN1.key)), .slice (tak6) (knN1.as.length) (tck6), .string (str (knN1.text)), .slice (kak6) (knN1.kids.length) (kck6)] 30 :: .blk b3 [.int .u8 (1), .string (str ([97] : List UInt8)), .string (str ([] : List UInt8)), .slice none (0) (0), .string (str ([] : List UInt8)), .slice (av44) (2) (cv44)] 46 :: L) _ at M
        refine rl_run F (run_assign (F.ev rfl)) rfl ?_; clear F a; intro a F
        refine rl_nil <| q_tn <| wp_seq <| w_reg <| rl_run F (run_loadA tok46 rfl (F.ev rfl) (cs := [.int .u8 (1), .string (str ([97] : List UInt8)), .string (str ([] : List UInt8)), .slice none (0) (0), .string (str ([] : List UInt8)), .slice (av44) (2) (cv44)]) rfl (M.cellsL (k := 5) rfl rfl)) rfl ?_; clear F a; intro a F
        refine rl_callS F ent24 rfl rfl (tnodes_spec (x := knT2) (m := 8) M ⟨by decide, by decide⟩ ⟨by decide, by decide, by decide⟩ RdSl.nil Sz46) ?_; clear F M a; rintro _ w a M rfl F
        rw [knNd8a, knNd8b] at F
        refine rl_run F (run_move (F.ev rfl)) rfl ?_; clear F a; intro a F
        refine rl_run F (run_extract (v := .int .i64 (35)) (F.ev rfl) rfl) rfl ?_; clear F a; intro a F
        refine rl_run F (run_extract (v := .int .i64 (0)) (F.ev rfl) rfl) rfl ?_; clear F a; intro a F
        iterate 2 (refine rl_run F (run_assign (F.ev rfl)) rfl ?_; clear F a; intro a F)
        refine rl_nil <| q_tn <| wp_seq <| w_reg <| rl_run F (run_loadA tok46 rfl (F.ev rfl) (cs := [.int .u8 (1), .string (str ([97] : List UInt8)), .string (str ([] : List UInt8)), .slice none (0) (0), .string (str ([] : List UInt8)), .slice (av44) (2) (cv44)]) rfl (M.cellsL (k := 5) rfl rfl)) rfl ?_; clear F a; intro a F
        refine rl_callS F ent24 rfl rfl (tnodes_spec (x := knT2) (m := 9) M ⟨by decide, by decide⟩ ⟨by decide, by decide, by decide⟩ RdSl.nil Sz46) ?_; clear F M a; rintro _ w a M rfl F
        rw [knNd9a, knNd9b] at F
        refine rl_run F (run_move (F.ev rfl)) rfl ?_; clear F a; intro a F
        refine rl_run F (run_extract (v := .int .i64 (0)) (F.ev rfl) rfl) rfl ?_; clear F a; intro a F
        refine rl_run F (run_extract (v := .int .i64 (1)) (F.ev rfl) rfl) rfl ?_; clear F a; intro a F
        iterate 2 (refine rl_run F (run_assign (F.ev rfl)) rfl ?_; clear F a; intro a F)
        refine rl_nil <| q_tn <| wp_seq <| w_reg <| rl_makeE (rd := rdRaw) (Z := ([.int .u8 (0), .string (str ([] : List UInt8)), .string (str ([] : List UInt8)), .slice none (0) (0), .string (str ([] : List UInt8)), .slice none (0) (0)] : List Value)) F M tok44.k tok46 rfl (by decide) rfl rfl (l := 1) (by omega) rfl (by omega) (by show 104 * _ ≤ _; omega) (by omega) (by simp [ti46, Value.cells, Value.oneCell']) (rfl) rfl ?_; clear F M a; intro bv87 csv87 w a M Ev87 F
        refine rl_run F (run_assign (F.ev rfl)) rfl ?_; clear F a; intro a F
        refine rl_nil <| q_tn <| wp_seq <| w_reg ?_
        iterate 2 (refine rl_run F (run_move (F.ev rfl)) rfl ?_; clear F a; intro a F)
        refine rl_run F (run_buildS (cs := [.int .u8 (1), .string (str ([97] : List UInt8)), .string (str ([] : List UInt8)), .slice none (0) (0), .string (str ([] : List UInt8)), .slice (some ⟨bv87, 0, none⟩) (1) (1)]) (ps := [(0, .int .u8 (1)), (1, .string (str ([97] : List UInt8))), (5, .slice (some ⟨bv87, 0, none⟩) (1) (1))]) tok46.k rfl tok46 (F.evp rfl) rfl) rfl ?_; clear F a; intro a F
        obtain ⟨Xe88, hXe88⟩ := get_of_lt (xs := List.replicate (1) (([.int .u8 (0), .string (str ([] : List UInt8)), .string (str ([] : List UInt8)), .slice none (0) (0), .string (str ([] : List UInt8)), .slice none (0) (0)] : List Value))) (i := 0) (by exact Nat.one_pos)
        obtain ⟨be88, _, Ie88, hme88, _, Ae88, hTe88⟩ := M.atRow (k := 0) rfl (by decide) Ev87 hXe88
        refine rl_run F (run_indexI tok44.k tok46 (F.ev rfl) (F.ev rfl) (by omega) Ie88) rfl ?_; clear F a; intro a F
        refine rl_storeEl F M tok46 (k := 0) rfl rfl Ev87 Ie88 (lt_of_get hXe88) rfl rfl (us := [.int .u8 (1), .string (str ([97] : List UInt8)), .string (str ([] : List UInt8)), .slice none (0) (0), .string (str ([] : List UInt8)), .slice (some ⟨bv87, 0, none⟩) (1) (1)]) rfl rfl (by simp [Value.oneCell']) (X' := ([.int .u8 (1), .string (str ([97] : List UInt8)), .string (str ([] : List UInt8)), .slice none (0) (0), .string (str ([] : List UInt8)), .slice (some ⟨bv87, 0, none⟩) (1) (1)] : List Value)) (rfl) ?_; clear F M a; intro csu89 w a M Eu89 F
        refine rl_nil <| q_tn <| wp_seq ?_
        have Eq9 : Els rdRaw 6 Gk84 csu89 [[.int .u8 (1), .string (str ([97] : List UInt8)), .string (str ([] : List UInt8)), .slice none (0) (0), .string (str ([] : List UInt8)), .slice (some ⟨bv87, 0, none⟩) (1) (1)]] := Eu89
        obtain ⟨hnz90, Gz90, az90, cz90, hGz90, hez90, Sz90, M⟩ := M.freeze_row mono_rdRaw (k := 0) rfl Eq9 (by decide)
        clear hez90 az90 cz90
        replace Sz13 := Sz13.mono mono_rdP hGz90
        replace Sz16 := Sz16.mono mono_rdSlot hGz90
        replace Sz19 := Sz19.mono mono_rdSlot hGz90
        replace Sz22 := Sz22.mono mono_rdSlot hGz90
        replace Sz25 := Sz25.mono mono_rdP hGz90
        replace Er := Er.mono mono_rdP hGz90
        replace Sz40 := Sz40.mono mono_rdP hGz90
        replace Sz43 := Sz43.mono mono_rdP hGz90
        replace Sz46 := Sz46.mono mono_rdP hGz90
        replace Sz49 := Sz49.mono mono_rdStr hGz90
        replace Ss50 := Ss50.mono mono_rdStr hGz90
        replace SAk79 := SAk79.mono mono_rdAttr hGz90
        replace SKk79 := SKk79.mono mono_rdN hGz90
        replace Ss80 := Ss80.mono mono_rdStr hGz90
        replace SAk81 := SAk81.mono mono_rdAttr hGz90
        replace SKk81 := SKk81.mono mono_rdN hGz90
        replace SAk84 := SAk84.mono mono_rdAttr hGz90
        replace SKk84 := SKk84.mono mono_rdN hGz90
        replace Eu89 := Eu89.mono mono_rdRaw hGz90
        clear hnz90
        replace Sz90 := raw_cyc (ca := some ⟨bv87, 0, none⟩) (cc := 1) Sz90
        refine w_reg <| rl_run F (run_move (F.ev rfl)) rfl ?_; clear F a; intro a F
        refine rl_run F (run_eqi (F.ev rfl) (F.ev rfl)) rfl ?_; clear F a; intro a F
        refine rl_run F (run_move (F.ev rfl)) rfl ?_; clear F a; intro a F
        refine rl_guard_t F rfl rfl rfl (decide_eq_true (by decide)) ?_
        refine rl_run F (run_loadA tok30 rfl (F.ev rfl) (cs := [.int .u8 (knN35.kind), .string (str (knN35.tag)), .string (str (knN35.key)), .slice (tak79) (knN35.as.length) (tck79), .string (str (knN35.text)), .slice (kak79) (knN35.kids.length) (kck79)]) rfl (M.cellsL (k := 2) rfl rfl)) rfl ?_; clear F a; intro a F
        refine rl_guard_t F rfl rfl rfl (decide_eq_true (by decide)) ?_
        refine rl_callS F ent17 rfl rfl (ncount_spec (x := knN35) M hkk79 hlk79 SAk79 SKk79) ?_; clear F M a; rintro _ w a M rfl F
        rw [knC35] at F
        refine rl_guard_t F rfl rfl rfl (decide_eq_true (by decide)) ?_
        refine rl_run F (run_eqi (F.ev rfl) (F.ev rfl)) rfl ?_; clear F a; intro a F
        refine rl_run F (run_pick_t (F.ev rfl) (decide_eq_true (by decide)) (F.ev rfl)) rfl ?_; clear F a; intro a F
        refine rl_run F (run_move (F.ev rfl)) rfl ?_; clear F a; intro a F
        refine rl_guard_t F rfl rfl rfl (decide_eq_true (by decide)) ?_
        refine rl_run F (run_move (F.ev rfl)) rfl ?_; clear F a; intro a F
        refine rl_guard_t F rfl rfl rfl (decide_eq_true (by decide)) ?_
        refine rl_run F (run_eqi (F.ev rfl) (F.ev rfl)) rfl ?_; clear F a; intro a F
        refine rl_run F (run_pick_t (F.ev rfl) (decide_eq_true (by decide)) (F.ev rfl)) rfl ?_; clear F a; intro a F
        refine rl_run F (run_move (F.ev rfl)) rfl ?_; clear F a; intro a F
        refine rl_guard_t F rfl rfl rfl (decide_eq_true (by decide)) ?_
        refine rl_run F (run_move (F.ev rfl)) rfl ?_; clear F a; intro a F
        refine rl_guard_t F rfl rfl rfl (decide_eq_true (by decide)) ?_
        refine rl_run F (run_eqi (F.ev rfl) (F.ev rfl)) rfl ?_; clear F a; intro a F
        refine rl_run F (run_pick_t (F.ev rfl) (decide_eq_true (by decide)) (F.ev rfl)) rfl ?_; clear F a; intro a F
        refine rl_run F (run_move (F.ev rfl)) rfl ?_; clear F a; intro a F
        refine rl_guard_t F rfl rfl rfl (decide_eq_true (by decide)) ?_
        refine rl_run F (run_move (F.ev rfl)) rfl ?_; clear F a; intro a F
        refine rl_guard_t F rfl rfl rfl (decide_eq_true (by decide)) ?_
        refine rl_run F (run_eqi (F.ev rfl) (F.ev rfl)) rfl ?_; clear F a; intro a F
        refine rl_run F (run_pick_t (F.ev rfl) (decide_eq_true (by decide)) (F.ev rfl)) rfl ?_; clear F a; intro a F
        refine rl_run F (run_move (F.ev rfl)) rfl ?_; clear F a; intro a F
        refine rl_guard_t F rfl rfl rfl (decide_eq_true (by decide)) ?_
        refine rl_run F (run_move (F.ev rfl)) rfl ?_; clear F a; intro a F
        refine rl_guard_t F rfl rfl rfl (decide_eq_true (by decide)) ?_
        refine rl_run F (run_eqi (F.ev rfl) (F.ev rfl)) rfl ?_; clear F a; intro a F
        refine rl_run F (run_pick_t (F.ev rfl) (decide_eq_true (by decide)) (F.ev rfl)) rfl ?_; clear F a; intro a F
        refine rl_run F (run_move (F.ev rfl)) rfl ?_; clear F a; intro a F
        refine rl_guard_t F rfl rfl rfl (decide_eq_true (by decide)) ?_
        refine rl_run F (run_move (F.ev rfl)) rfl ?_; clear F a; intro a F
        refine rl_guard_t F rfl rfl rfl (decide_eq_true (by decide)) ?_
        refine rl_run F (run_eqi (F.ev rfl) (F.ev rfl)) rfl ?_; clear F a; intro a F
        refine rl_run F (run_pick_t (F.ev rfl) (decide_eq_true (by decide)) (F.ev rfl)) rfl ?_; clear F a; intro a F
        refine rl_run F (run_move (F.ev rfl)) rfl ?_; clear F a; intro a F
        refine rl_guard_t F rfl rfl rfl (decide_eq_true (by decide)) ?_
        refine rl_run F (run_move (F.ev rfl)) rfl ?_; clear F a; intro a F
        refine rl_guard_t F rfl rfl rfl (decide_eq_true (by decide)) ?_
        obtain ⟨Xe91, hXe91⟩ := get_of_lt (xs := [()]) (i := 0) (by exact Nat.one_pos)
        obtain ⟨be91, oe91, _, Ie91, _, Ae91, hTe91⟩ := Sz90.at hXe91
        obtain rfl := cyc_open hTe91
        refine rl_run F (run_indexI tok44.k tok46 (F.ev rfl) (F.ev rfl) (by omega) Ie91) rfl ?_; clear F a; intro a F
        refine rl_guard_t F rfl rfl rfl (decide_eq_true (by decide)) ?_
        refine rl_run F (run_loadA tok46 rfl (F.ev rfl) (cs := [.int .u8 (1), .string (str ([97] : List UInt8)), .string (str ([] : List UInt8)), .slice none (0) (0), .string (str ([] : List UInt8)), .slice (some ⟨bv87, 0, none⟩) (1) (1)]) rfl (M.cellsA Ae91 0 (by omega) rfl)) rfl ?_; clear F a; intro a F
        refine rl_guard_t F rfl rfl rfl (decide_eq_true (by decide)) ?_
        refine rl_callS F ent26 rfl rfl (cyccheck_spec M Sz90) ?_; clear F M a; rintro _ w a M rfl F
        refine rl_guard_t F rfl rfl rfl (decide_eq_true (by decide)) ?_
        refine rl_run F (run_eqi (F.ev rfl) (F.ev rfl)) rfl ?_; clear F a; intro a F
        refine rl_run F (run_pick_t (F.ev rfl) (decide_eq_true (by decide)) (F.ev rfl)) rfl ?_; clear F a; intro a F
        refine rl_run F (run_move (F.ev rfl)) rfl ?_; clear F a; intro a F
        refine rl_guard_t F rfl rfl rfl (decide_eq_true (by decide)) ?_
        refine rl_callS F ent28 rfl rfl (lives_spec M) ?_; clear F M a; rintro _ w a M rfl F
        refine rl_run F (run_pick_t (F.ev rfl) (decide_eq_true (by decide)) (F.ev rfl)) rfl ?_; clear F a; intro a F
        refine rl_run F (run_assign (F.ev rfl)) rfl ?_; clear F a; intro a F
        refine rl_nil <| q_tn <| wp_ret <| fin1 F rfl rfl ?_
        exact ⟨_, ((((((((((((((hGt10.trans hGz13).trans hGz16).trans hGz19).trans hGz22).trans hGz25).trans hG26).trans hGz40).trans hGz43).trans hGz46).trans hGz49).trans hGk79).trans hGk81).trans hGk84).trans hGz90), M.weaken (.cons _ (.cons _ (.cons _ (.cons _ (.cons _ (.cons _ (List.Sublist.refl _))))))), by rfl⟩
      refine pt_act ?_ rfl ?_
      · skip
        refine rl_alloc F M tok30 rfl rfl ?_; clear F M a; intro b92 w a M F
        refine rl_nil <| ⟨Keep Gk79 [.blk b77 [.int .u8 (knN35.kind), .string (str (knN35.tag)), .string (str (knN35.key)), .slice (tak79) (knN35.as.length) (tck79), .string (str (knN35.text)), .slice (kak79) (knN35.kids.length) (kck79)] 30, .blk b7 [.int .u8 (knN1.kind), .string (str (knN1.tag)), .string (str (knN1.key)), .slice (tak6) (knN1.as.length) (tck6), .string (str (knN1.text)), .slice (kak6) (knN1.kids.length) (kck6)] 30, .blk b3 [.int .u8 (1), .string (str ([97] : List UInt8)), .string (str ([] : List UInt8)), .slice none (0) (0), .string (str ([] : List UInt8)), .slice (av44) (2) (cv44)] 46], M.keep (Gle.refl _) (by simp), fun w h => h.mono (Gle.refl _) (by simp), ?_⟩
        refine pt_act ?_ rfl pt_no
        refine rl_call F ent22 rfl rfl (trender_at (p := knT2) (x := knI8) (most := 34) (e := 14) (nn := zeroN) M ⟨by decide, by decide⟩ ⟨by decide, by decide, by decide⟩ RdSl.nil Sz46 (by decide) Ss80 ⟨by decide, by decide⟩ knR34 knR34N) ?_; clear F M a; rintro _ Gk94 w a hGk94 M ⟨tak94, tck94, kak94, kck94, rfl, hkk94, hlk94, SAk94, SKk94⟩ F
        replace Sz13 := Sz13.mono mono_rdP hGk94
        replace Sz16 := Sz16.mono mono_rdSlot hGk94
        replace Sz19 := Sz19.mono mono_rdSlot hGk94
        replace Sz22 := Sz22.mono mono_rdSlot hGk94
        replace Sz25 := Sz25.mono mono_rdP hGk94
        replace Er := Er.mono mono_rdP hGk94
        replace Sz40 := Sz40.mono mono_rdP hGk94
        replace Sz43 := Sz43.mono mono_rdP hGk94
        replace Sz46 := Sz46.mono mono_rdP hGk94
        replace Sz49 := Sz49.mono mono_rdStr hGk94
        replace Ss50 := Ss50.mono mono_rdStr hGk94
        replace SAk79 := SAk79.mono mono_rdAttr hGk94
        replace SKk79 := SKk79.mono mono_rdN hGk94
        replace Ss80 := Ss80.mono mono_rdStr hGk94
        refine rl_nil <| ⟨Keep Gk94 [.blk b77 [.int .u8 (knN35.kind), .string (str (knN35.tag)), .string (str (knN35.key)), .slice (tak79) (knN35.as.length) (tck79), .string (str (knN35.text)), .slice (kak79) (knN35.kids.length) (kck79)] 30, .blk b7 [.int .u8 (knN1.kind), .string (str (knN1.tag)), .string (str (knN1.key)), .slice (tak6) (knN1.as.length) (tck6), .string (str (knN1.text)), .slice (kak6) (knN1.kids.length) (kck6)] 30, .blk b3 [.int .u8 (1), .string (str ([97] : List UInt8)), .string (str ([] : List UInt8)), .slice none (0) (0), .string (str ([] : List UInt8)), .slice (av44) (2) (cv44)] 46], M.keep (Gle.refl _) (by simp), fun w h => h.mono hGk94 (by simp), ?_⟩
        refine pt_run F (fun w M => run_move (F.ev rfl)) rfl ?_; clear F a; intro a F
        refine pt_run F (fun w M => run_extract (v := .agg #[.int .u8 (zeroN.kind), .string (str (zeroN.tag)), .string (str (zeroN.key)), .slice (tak94) (zeroN.as.length) (tck94), .string (str (zeroN.text)), .slice (kak94) (zeroN.kids.length) (kck94)]) (F.ev rfl) rfl) rfl ?_; clear F a; intro a F
        refine pt_run F (fun w M => run_extract (v := .int .i64 (14)) (F.ev rfl) rfl) rfl ?_; clear F a; intro a F
        refine pt_act ?_ rfl pt_no
        refine rl_storeA F M tok30 (k := 0) rfl rfl rfl (us := [.int .u8 (zeroN.kind), .string (str (zeroN.tag)), .string (str (zeroN.key)), .slice (tak94) (zeroN.as.length) (tck94), .string (str (zeroN.text)), .slice (kak94) (zeroN.kids.length) (kck94)]) rfl rfl (by simp [Value.oneCell']) (by simp) ?_; clear F M a; intro w a M F
        change Mem w0 Gk94 (.blk b92 [.int .u8 (zeroN.kind), .string (str (zeroN.tag)), .string (str (zeroN.key)), .slice (tak94) (zeroN.as.length) (tck94), .string (str (zeroN.text)), .slice (kak94) (zeroN.kids.length) (kck94)] 30 :: .blk b77 [.int .u8 (knN35.kind), .string (str (knN35.tag)), .string (str (knN35.key)), .slice (tak79) (knN35.as.length) (tck79), .string (str (knN35.text)), .slice (kak79) (knN35.kids.length) (kck79)] 30 :: .row (.slice (av1) (1) (cv1)) (1) (csr) 46 6 :: .blk b7 [.int .u8 (knN1.kind), .string (str (knN1.tag)), .string (str (knN1.key)), .slice (tak6) (knN1.as.length) (tck6), .string (str (knN1.text)), .slice (kak6) (knN1.kids.length) (kck6)] 30 :: .blk b3 [.int .u8 (1), .string (str ([97] : List UInt8)), .string (str ([] : List UInt8)), .slice none (0) (0), .string (str ([] : List UInt8)), .slice (av44) (2) (cv44)] 46 :: L) _ at M
        refine rl_nil <| ⟨Keep Gk94 [.blk b77 [.int .u8 (knN35.kind), .string (str (knN35.tag)), .string (str (knN35.key)), .slice (tak79) (knN35.as.length) (tck79), .string (str (knN35.text)), .slice (kak79) (knN35.kids.length) (kck79)] 30, .blk b7 [.int .u8 (knN1.kind), .string (str (knN1.tag)), .string (str (knN1.key)), .slice (tak6) (knN1.as.length) (tck6), .string (str (knN1.text)), .slice (kak6) (knN1.kids.length) (kck6)] 30, .blk b3 [.int .u8 (1), .string (str ([97] : List UInt8)), .string (str ([] : List UInt8)), .slice none (0) (0), .string (str ([] : List UInt8)), .slice (av44) (2) (cv44)] 46], M.keep (Gle.refl _) (by simp), fun w h => h.mono (Gle.refl _) (by simp), ?_⟩
        refine pt_run F (fun w M => run_assign (F.ev rfl)) rfl ?_; clear F a; intro a F
        refine pt_fin <| q_tn <| wp_seq <| w_reg <| rl_run F (run_loadA tok46 rfl (F.ev rfl) (cs := [.int .u8 (1), .string (str ([97] : List UInt8)), .string (str ([] : List UInt8)), .slice none (0) (0), .string (str ([] : List UInt8)), .slice (av44) (2) (cv44)]) rfl (M.cellsL (k := 4) rfl rfl)) rfl ?_; clear F a; intro a F
        refine rl_run F (run_move (F.ev rfl)) rfl ?_; clear F a; intro a F
        refine rl_run F (run_buildS (cs := [.int .u64 (1), .int .u8 (0), .string (str ([] : List UInt8)), .slice (av47) (9) (cv47)]) (ps := [(0, .int .u64 (1)), (3, .slice (av47) (9) (cv47))]) tok51.k rfl tok51 (F.evp rfl) rfl) rfl ?_; clear F a; intro a F
        refine rl_call F ent22 rfl rfl (trender_at (p := knT2) (x := knI9) (most := 64) (e := 6) (nn := zeroN) M ⟨by decide, by decide⟩ ⟨by decide, by decide, by decide⟩ RdSl.nil Sz46 (by decide) Sz49 ⟨by decide, by decide⟩ knR9 knR9N) ?_; clear F M a; rintro _ Gk95 w a hGk95 M ⟨tak95, tck95, kak95, kck95, rfl, hkk95, hlk95, SAk95, SKk95⟩ F
        replace Sz13 := Sz13.mono mono_rdP hGk95
        replace Sz16 := Sz16.mono mono_rdSlot hGk95
        replace Sz19 := Sz19.mono mono_rdSlot hGk95
        replace Sz22 := Sz22.mono mono_rdSlot hGk95
        replace Sz25 := Sz25.mono mono_rdP hGk95
        replace Er := Er.mono mono_rdP hGk95
        replace Sz40 := Sz40.mono mono_rdP hGk95
        replace Sz43 := Sz43.mono mono_rdP hGk95
        replace Sz46 := Sz46.mono mono_rdP hGk95
        replace Sz49 := Sz49.mono mono_rdStr hGk95
        replace Ss50 := Ss50.mono mono_rdStr hGk95
        replace SAk79 := SAk79.mono mono_rdAttr hGk95
        replace SKk79 := SKk79.mono mono_rdN hGk95
        replace Ss80 := Ss80.mono mono_rdStr hGk95
        replace SAk94 := SAk94.mono mono_rdAttr hGk95
        replace SKk94 := SKk94.mono mono_rdN hGk95
        refine rl_run F (run_move (F.ev rfl)) rfl ?_; clear F a; intro a F
        refine rl_run F (run_extract (v := .agg #[.int .u8 (zeroN.kind), .string (str (zeroN.tag)), .string (str (zeroN.key)), .slice (tak95) (zeroN.as.length) (tck95), .string (str (zeroN.text)), .slice (kak95) (zeroN.kids.length) (kck95)]) (F.ev rfl) rfl) rfl ?_; clear F a; intro a F
        refine rl_run F (run_extract (v := .int .i64 (6)) (F.ev rfl) rfl) rfl ?_; clear F a; intro a F
        refine rl_alloc F M tok30 rfl rfl ?_; clear F M a; intro b96 w a M F
        refine rl_storeA F M tok30 (k := 0) rfl rfl rfl (us := [.int .u8 (zeroN.kind), .string (str (zeroN.tag)), .string (str (zeroN.key)), .slice (tak95) (zeroN.as.length) (tck95), .string (str (zeroN.text)), .slice (kak95) (zeroN.kids.length) (kck95)]) rfl rfl (by simp [Value.oneCell']) (by simp) ?_; clear F M a; intro w a M F
        change Mem w0 Gk95 (.blk b96 [.int .u8 (zeroN.kind), .string (str (zeroN.tag)), .string (str (zeroN.key)), .slice (tak95) (zeroN.as.length) (tck95), .string (str (zeroN.text)), .slice (kak95) (zeroN.kids.length) (kck95)] 30 :: .blk b92 [.int .u8 (zeroN.kind), .string (str (zeroN.tag)), .string (str (zeroN.key)), .slice (tak94) (zeroN.as.length) (tck94), .string (str (zeroN.text)), .slice (kak94) (zeroN.kids.length) (kck94)] 30 :: .blk b77 [.int .u8 (knN35.kind), .string (str (knN35.tag)), .string (str (knN35.key)), .slice (tak79) (knN35.as.length) (tck79), .string (str (knN35.text)), .slice (kak79) (knN35.kids.length) (kck79)] 30 :: .row (.slice (av1) (1) (cv1)) (1) (csr) 46 6 :: .blk b7 [.int .u8 (knN1.kind), .string (str (knN1.tag)), .string (str (knN1.key)), .slice (tak6) (knN1.as.length) (tck6), .string (str (knN1.text)), .slice (kak6) (knN1.kids.length) (kck6)] 30 :: .blk b3 [.int .u8 (1), .string (str ([97] : List UInt8)), .string (str ([] : List UInt8)), .slice none (0) (0), .string (str ([] : List UInt8)), .slice (av44) (2) (cv44)] 46 :: L) _ at M
        refine rl_run F (run_assign (F.ev rfl)) rfl ?_; clear F a; intro a F
        refine rl_nil <| q_tn <| wp_seq <| w_reg <| rl_run F (run_loadA tok46 rfl (F.ev rfl) (cs := [.int .u8 (1), .string (str ([97] : List UInt8)), .string (str ([] : List UInt8)), .slice none (0) (0), .string (str ([] : List UInt8)), .slice (av44) (2) (cv44)]) rfl (M.cellsL (k := 5) rfl rfl)) rfl ?_; clear F a; intro a F
        refine rl_callS F ent24 rfl rfl (tnodes_spec (x := knT2) (m := 8) M ⟨by decide, by decide⟩ ⟨by decide, by decide, by decide⟩ RdSl.nil Sz46) ?_; clear F M a; rintro _ w a M rfl F
        rw [knNd8a, knNd8b] at F
        refine rl_run F (run_move (F.ev rfl)) rfl ?_; clear F a; intro a F
        refine rl_run F (run_extract (v := .int .i64 (35)) (F.ev rfl) rfl) rfl ?_; clear F a; intro a F
        refine rl_run F (run_extract (v := .int .i64 (0)) (F.ev rfl) rfl) rfl ?_; clear F a; intro a F
        iterate 2 (refine rl_run F (run_assign (F.ev rfl)) rfl ?_; clear F a; intro a F)
        refine rl_nil <| q_tn <| wp_seq <| w_reg <| rl_run F (run_loadA tok46 rfl (F.ev rfl) (cs := [.int .u8 (1), .string (str ([97] : List UInt8)), .string (str ([] : List UInt8)), .slice none (0) (0), .string (str ([] : List UInt8)), .slice (av44) (2) (cv44)]) rfl (M.cellsL (k := 5) rfl rfl)) rfl ?_; clear F a; intro a F
        refine rl_callS F ent24 rfl rfl (tnodes_spec (x := knT2) (m := 9) M ⟨by decide, by decide⟩ ⟨by decide, by decide, by decide⟩ RdSl.nil Sz46) ?_; clear F M a; rintro _ w a M rfl F
        rw [knNd9a, knNd9b] at F
        refine rl_run F (run_move (F.ev rfl)) rfl ?_; clear F a; intro a F
        refine rl_run F (run_extract (v := .int .i64 (0)) (F.ev rfl) rfl) rfl ?_; clear F a; intro a F
        refine rl_run F (run_extract (v := .int .i64 (1)) (F.ev rfl) rfl) rfl ?_; clear F a; intro a F
        iterate 2 (refine rl_run F (run_assign (F.ev rfl)) rfl ?_; clear F a; intro a F)
        refine rl_nil <| q_tn <| wp_seq <| w_reg <| rl_makeE (rd := rdRaw) (Z := ([.int .u8 (0), .string (str ([] : List UInt8)), .string (str ([] : List UInt8)), .slice none (0) (0), .string (str ([] : List UInt8)), .slice none (0) (0)] : List Value)) F M tok44.k tok46 rfl (by decide) rfl rfl (l := 1) (by omega) rfl (by omega) (by show 104 * _ ≤ _; omega) (by omega) (by simp [ti46, Value.cells, Value.oneCell']) (rfl) rfl ?_; clear F M a; intro bv98 csv98 w a M Ev98 F
        refine rl_run F (run_assign (F.ev rfl)) rfl ?_; clear F a; intro a F
        refine rl_nil <| q_tn <| wp_seq <| w_reg ?_
        iterate 2 (refine rl_run F (run_move (F.ev rfl)) rfl ?_; clear F a; intro a F)
        refine rl_run F (run_buildS (cs := [.int .u8 (1), .string (str ([97] : List UInt8)), .string (str ([] : List UInt8)), .slice none (0) (0), .string (str ([] : List UInt8)), .slice (some ⟨bv98, 0, none⟩) (1) (1)]) (ps := [(0, .int .u8 (1)), (1, .string (str ([97] : List UInt8))), (5, .slice (some ⟨bv98, 0, none⟩) (1) (1))]) tok46.k rfl tok46 (F.evp rfl) rfl) rfl ?_; clear F a; intro a F
        obtain ⟨Xe99, hXe99⟩ := get_of_lt (xs := List.replicate (1) (([.int .u8 (0), .string (str ([] : List UInt8)), .string (str ([] : List UInt8)), .slice none (0) (0), .string (str ([] : List UInt8)), .slice none (0) (0)] : List Value))) (i := 0) (by exact Nat.one_pos)
        obtain ⟨be99, _, Ie99, hme99, _, Ae99, hTe99⟩ := M.atRow (k := 0) rfl (by decide) Ev98 hXe99
        refine rl_run F (run_indexI tok44.k tok46 (F.ev rfl) (F.ev rfl) (by omega) Ie99) rfl ?_; clear F a; intro a F
        refine rl_storeEl F M tok46 (k := 0) rfl rfl Ev98 Ie99 (lt_of_get hXe99) rfl rfl (us := [.int .u8 (1), .string (str ([97] : List UInt8)), .string (str ([] : List UInt8)), .slice none (0) (0), .string (str ([] : List UInt8)), .slice (some ⟨bv98, 0, none⟩) (1) (1)]) rfl rfl (by simp [Value.oneCell']) (X' := ([.int .u8 (1), .string (str ([97] : List UInt8)), .string (str ([] : List UInt8)), .slice none (0) (0), .string (str ([] : List UInt8)), .slice (some ⟨bv98, 0, none⟩) (1) (1)] : List Value)) (rfl) ?_; clear F M a; intro csu100 w a M Eu100 F
        refine rl_nil <| q_tn <| wp_seq ?_
        have Eq9 : Els rdRaw 6 Gk95 csu100 [[.int .u8 (1), .string (str ([97] : List UInt8)), .string (str ([] : List UInt8)), .slice none (0) (0), .string (str ([] : List UInt8)), .slice (some ⟨bv98, 0, none⟩) (1) (1)]] := Eu100
        obtain ⟨hnz101, Gz101, az101, cz101, hGz101, hez101, Sz101, M⟩ := M.freeze_row mono_rdRaw (k := 0) rfl Eq9 (by decide)
        clear hez101 az101 cz101
        replace Sz13 := Sz13.mono mono_rdP hGz101
        replace Sz16 := Sz16.mono mono_rdSlot hGz101
        replace Sz19 := Sz19.mono mono_rdSlot hGz101
        replace Sz22 := Sz22.mono mono_rdSlot hGz101
        replace Sz25 := Sz25.mono mono_rdP hGz101
        replace Er := Er.mono mono_rdP hGz101
        replace Sz40 := Sz40.mono mono_rdP hGz101
        replace Sz43 := Sz43.mono mono_rdP hGz101
        replace Sz46 := Sz46.mono mono_rdP hGz101
        replace Sz49 := Sz49.mono mono_rdStr hGz101
        replace Ss50 := Ss50.mono mono_rdStr hGz101
        replace SAk79 := SAk79.mono mono_rdAttr hGz101
        replace SKk79 := SKk79.mono mono_rdN hGz101
        replace Ss80 := Ss80.mono mono_rdStr hGz101
        replace SAk94 := SAk94.mono mono_rdAttr hGz101
        replace SKk94 := SKk94.mono mono_rdN hGz101
        replace SAk95 := SAk95.mono mono_rdAttr hGz101
        replace SKk95 := SKk95.mono mono_rdN hGz101
        replace Eu100 := Eu100.mono mono_rdRaw hGz101
        clear hnz101
        replace Sz101 := raw_cyc (ca := some ⟨bv98, 0, none⟩) (cc := 1) Sz101
        refine w_reg <| rl_run F (run_move (F.ev rfl)) rfl ?_; clear F a; intro a F
        refine rl_run F (run_eqi (F.ev rfl) (F.ev rfl)) rfl ?_; clear F a; intro a F
        refine rl_run F (run_move (F.ev rfl)) rfl ?_; clear F a; intro a F
        refine rl_guard_t F rfl rfl rfl (decide_eq_true (by decide)) ?_
        refine rl_run F (run_loadA tok30 rfl (F.ev rfl) (cs := [.int .u8 (knN35.kind), .string (str (knN35.tag)), .string (str (knN35.key)), .slice (tak79) (knN35.as.length) (tck79), .string (str (knN35.text)), .slice (kak79) (knN35.kids.length) (kck79)]) rfl (M.cellsL (k := 2) rfl rfl)) rfl ?_; clear F a; intro a F
        refine rl_guard_t F rfl rfl rfl (decide_eq_true (by decide)) ?_
        refine rl_callS F ent17 rfl rfl (ncount_spec (x := knN35) M hkk79 hlk79 SAk79 SKk79) ?_; clear F M a; rintro _ w a M rfl F
        rw [knC35] at F
        refine rl_guard_t F rfl rfl rfl (decide_eq_true (by decide)) ?_
        refine rl_run F (run_eqi (F.ev rfl) (F.ev rfl)) rfl ?_; clear F a; intro a F
        refine rl_run F (run_pick_t (F.ev rfl) (decide_eq_true (by decide)) (F.ev rfl)) rfl ?_; clear F a; intro a F
        refine rl_run F (run_move (F.ev rfl)) rfl ?_; clear F a; intro a F
        refine rl_guard_t F rfl rfl rfl (decide_eq_true (by decide)) ?_
        refine rl_run F (run_move (F.ev rfl)) rfl ?_; clear F a; intro a F
        refine rl_guard_t F rfl rfl rfl (decide_eq_true (by decide)) ?_
        refine rl_run F (run_eqi (F.ev rfl) (F.ev rfl)) rfl ?_; clear F a; intro a F
        refine rl_run F (run_pick_t (F.ev rfl) (decide_eq_true (by decide)) (F.ev rfl)) rfl ?_; clear F a; intro a F
        refine rl_run F (run_move (F.ev rfl)) rfl ?_; clear F a; intro a F
        refine rl_guard_t F rfl rfl rfl (decide_eq_true (by decide)) ?_
        refine rl_run F (run_move (F.ev rfl)) rfl ?_; clear F a; intro a F
        refine rl_guard_t F rfl rfl rfl (decide_eq_true (by decide)) ?_
        refine rl_run F (run_eqi (F.ev rfl) (F.ev rfl)) rfl ?_; clear F a; intro a F
        refine rl_run F (run_pick_t (F.ev rfl) (decide_eq_true (by decide)) (F.ev rfl)) rfl ?_; clear F a; intro a F
        refine rl_run F (run_move (F.ev rfl)) rfl ?_; clear F a; intro a F
        refine rl_guard_t F rfl rfl rfl (decide_eq_true (by decide)) ?_
        refine rl_run F (run_move (F.ev rfl)) rfl ?_; clear F a; intro a F
        refine rl_guard_t F rfl rfl rfl (decide_eq_true (by decide)) ?_
        refine rl_run F (run_eqi (F.ev rfl) (F.ev rfl)) rfl ?_; clear F a; intro a F
        refine rl_run F (run_pick_t (F.ev rfl) (decide_eq_true (by decide)) (F.ev rfl)) rfl ?_; clear F a; intro a F
        refine rl_run F (run_move (F.ev rfl)) rfl ?_; clear F a; intro a F
        refine rl_guard_t F rfl rfl rfl (decide_eq_true (by decide)) ?_
        refine rl_run F (run_move (F.ev rfl)) rfl ?_; clear F a; intro a F
        refine rl_guard_t F rfl rfl rfl (decide_eq_true (by decide)) ?_
        refine rl_run F (run_eqi (F.ev rfl) (F.ev rfl)) rfl ?_; clear F a; intro a F
        refine rl_run F (run_pick_t (F.ev rfl) (decide_eq_true (by decide)) (F.ev rfl)) rfl ?_; clear F a; intro a F
        refine rl_run F (run_move (F.ev rfl)) rfl ?_; clear F a; intro a F
        refine rl_guard_t F rfl rfl rfl (decide_eq_true (by decide)) ?_
        refine rl_run F (run_move (F.ev rfl)) rfl ?_; clear F a; intro a F
        refine rl_guard_t F rfl rfl rfl (decide_eq_true (by decide)) ?_
        refine rl_run F (run_eqi (F.ev rfl) (F.ev rfl)) rfl ?_; clear F a; intro a F
        refine rl_run F (run_pick_t (F.ev rfl) (decide_eq_true (by decide)) (F.ev rfl)) rfl ?_; clear F a; intro a F
        refine rl_run F (run_move (F.ev rfl)) rfl ?_; clear F a; intro a F
        refine rl_guard_t F rfl rfl rfl (decide_eq_true (by decide)) ?_
        refine rl_run F (run_move (F.ev rfl)) rfl ?_; clear F a; intro a F
        refine rl_guard_t F rfl rfl rfl (decide_eq_true (by decide)) ?_
        obtain ⟨Xe102, hXe102⟩ := get_of_lt (xs := [()]) (i := 0) (by exact Nat.one_pos)
        obtain ⟨be102, oe102, _, Ie102, _, Ae102, hTe102⟩ := Sz101.at hXe102
        obtain rfl := cyc_open hTe102
        refine rl_run F (run_indexI tok44.k tok46 (F.ev rfl) (F.ev rfl) (by omega) Ie102) rfl ?_; clear F a; intro a F
        refine rl_guard_t F rfl rfl rfl (decide_eq_true (by decide)) ?_
        refine rl_run F (run_loadA tok46 rfl (F.ev rfl) (cs := [.int .u8 (1), .string (str ([97] : List UInt8)), .string (str ([] : List UInt8)), .slice none (0) (0), .string (str ([] : List UInt8)), .slice (some ⟨bv98, 0, none⟩) (1) (1)]) rfl (M.cellsA Ae102 0 (by omega) rfl)) rfl ?_; clear F a; intro a F
        refine rl_guard_t F rfl rfl rfl (decide_eq_true (by decide)) ?_
        refine rl_callS F ent26 rfl rfl (cyccheck_spec M Sz101) ?_; clear F M a; rintro _ w a M rfl F
        refine rl_guard_t F rfl rfl rfl (decide_eq_true (by decide)) ?_
        refine rl_run F (run_eqi (F.ev rfl) (F.ev rfl)) rfl ?_; clear F a; intro a F
        refine rl_run F (run_pick_t (F.ev rfl) (decide_eq_true (by decide)) (F.ev rfl)) rfl ?_; clear F a; intro a F
        refine rl_run F (run_move (F.ev rfl)) rfl ?_; clear F a; intro a F
        refine rl_guard_t F rfl rfl rfl (decide_eq_true (by decide)) ?_
        refine rl_callS F ent28 rfl rfl (lives_spec M) ?_; clear F M a; rintro _ w a M rfl F
        refine rl_run F (run_pick_t (F.ev rfl) (decide_eq_true (by decide)) (F.ev rfl)) rfl ?_; clear F a; intro a F
        refine rl_run F (run_assign (F.ev rfl)) rfl ?_; clear F a; intro a F
        refine rl_nil <| q_tn <| wp_ret <| fin1 F rfl rfl ?_
        exact ⟨_, ((((((((((((((hGt10.trans hGz13).trans hGz16).trans hGz19).trans hGz22).trans hGz25).trans hG26).trans hGz40).trans hGz43).trans hGz46).trans hGz49).trans hGk79).trans hGk94).trans hGk95).trans hGz101), M.weaken (.cons _ (.cons _ (.cons _ (.cons _ (.cons _ (.cons _ (List.Sublist.refl _))))))), by rfl⟩
      exact pt_no
    exact pt_no
theorem known_spec {w0 w : World} {G : Ghost} {L : List Res} (M : Mem w0 G L w) : Calls Tryz.prog 8 #[] w (RetS w0 G L fun v => v = .bool true) := Ret.plain M (known_ret M)
end Go.Proofs.YtlnehkjmmegkhaaGreat
