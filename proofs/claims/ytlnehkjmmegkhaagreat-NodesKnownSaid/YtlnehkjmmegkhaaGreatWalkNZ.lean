/- The walks, part NZ. -/
import Derived.Test.YtlnehkjmmegkhaaGreatWalkNY
namespace Go.Proofs.YtlnehkjmmegkhaaGreat
open Go Go.Y Go.Proofs
set_option linter.unusedSimpArgs false
set_option linter.unusedVariables false
theorem words12_spec {w0 w : World} {G : Ghost} {L : List Res} (M : Mem w0 G L w) {s : List UInt8} : Calls Tryz.prog 44 #[.string (str s)] w (RetS w0 G L fun v => v = .agg #[.int .u8 2, .string (str ([] : List UInt8)), .string (str ([] : List UInt8)), .slice none 0 0, .string (str s), .slice none 0 0]) := by
 refine calls_start (vs := [_]) Tryz.func44 rfl (n := 5) rfl rfl ?_
 intro a F
 refine wp_seq <| w_reg <| rl_alloc F M tok30 rfl rfl ?_; clear F M a; intro b1 w a M F
 refine rl_nil <| q_tn <| wp_seq <| w_reg <| rl_run F (run_move (F.ev rfl)) rfl ?_; clear F a; intro a F
 refine rl_run F (run_buildS (cs := [.int .u8 (2), .string (str ([] : List UInt8)), .string (str ([] : List UInt8)), .slice none (0) (0), .string (str (s)), .slice none (0) (0)]) (ps := [(0, .int .u8 (2)), (4, .string (str (s)))]) tok30.k rfl tok30 (F.evp rfl) rfl) rfl ?_; clear F a; intro a F
 refine rl_storeA F M tok30 (k := 0) rfl rfl rfl (us := [.int .u8 (2), .string (str ([] : List UInt8)), .string (str ([] : List UInt8)), .slice none (0) (0), .string (str (s)), .slice none (0) (0)]) rfl rfl (by simp [Value.oneCell']) (by simp) ?_; clear F M a; intro w a M F
 change Mem w0 G (.blk b1 [.int .u8 (2), .string (str ([] : List UInt8)), .string (str ([] : List UInt8)), .slice none (0) (0), .string (str (s)), .slice none (0) (0)] 30 :: L) _ at M
 refine rl_nil <| q_tn <| wp_ret <| fin_c F M (k := 0) rfl rfl tok30 rfl rfl rfl ?_
 exact ⟨M.weaken (.cons _ (List.Sublist.refl _)), rfl⟩
theorem tag12_spec {w0 w : World} {G : Ghost} {L : List Res} (M : Mem w0 G L w) {s : List UInt8} : Calls Tryz.prog 45 #[.string (str s)] w (RetS w0 G L fun v => v = .agg #[.int .u8 1, .string (str s), .string (str ([] : List UInt8)), .slice none 0 0, .string (str ([] : List UInt8)), .slice none 0 0]) := by
 refine calls_start (vs := [_]) Tryz.func45 rfl (n := 5) rfl rfl ?_
 intro a F
 refine wp_seq <| w_reg <| rl_alloc F M tok30 rfl rfl ?_; clear F M a; intro b1 w a M F
 refine rl_nil <| q_tn <| wp_seq <| w_reg <| rl_run F (run_move (F.ev rfl)) rfl ?_; clear F a; intro a F
 refine rl_run F (run_buildS (cs := [.int .u8 (1), .string (str (s)), .string (str ([] : List UInt8)), .slice none (0) (0), .string (str ([] : List UInt8)), .slice none (0) (0)]) (ps := [(0, .int .u8 (1)), (1, .string (str (s)))]) tok30.k rfl tok30 (F.evp rfl) rfl) rfl ?_; clear F a; intro a F
 refine rl_storeA F M tok30 (k := 0) rfl rfl rfl (us := [.int .u8 (1), .string (str (s)), .string (str ([] : List UInt8)), .slice none (0) (0), .string (str ([] : List UInt8)), .slice none (0) (0)]) rfl rfl (by simp [Value.oneCell']) (by simp) ?_; clear F M a; intro w a M F
 change Mem w0 G (.blk b1 [.int .u8 (1), .string (str (s)), .string (str ([] : List UInt8)), .slice none (0) (0), .string (str ([] : List UInt8)), .slice none (0) (0)] 30 :: L) _ at M
 refine rl_nil <| q_tn <| wp_ret <| fin_c F M (k := 0) rfl rfl tok30 rfl rfl rfl ?_
 exact ⟨M.weaken (.cons _ (List.Sublist.refl _)), rfl⟩
def knL : List UInt8 := [48, 49, 50, 51, 52, 53, 54, 55, 56, 57, 97, 98, 99, 100, 101, 102, 103, 104, 105, 106, 107, 108, 109, 110, 111, 112, 113, 114, 115, 116, 117, 118, 119, 120, 121, 122, 48, 49, 50, 51, 52, 53, 54, 55, 56, 57, 97, 98, 99, 100, 101, 102, 103, 104, 105, 106, 107, 108, 109, 110, 111, 112, 113, 114, 115]
def kn64 : List UInt8 := (knL.take 64).drop 0
def kn16 : List UInt8 := (knL.take 16).drop 0
def kn17 : List UInt8 := (knL.take 17).drop 0
def knAt (i : Nat) : AttrD := ⟨(knL.take (i + 1)).drop i, []⟩
def knAs (i : Nat) : List AttrD := (List.range i).map knAt
theorem knAs_succ (i : Nat) : knAs (i + 1) = knAs i ++ [knAt i] := by simp [knAs, List.range_succ]
theorem knAs_len (i : Nat) : (knAs i).length = i := by simp [knAs]
def knWs (i : Nat) : List NT := List.replicate i (.mk 2 [] [] [] [] [] : NT)
theorem knWs_succ (i : Nat) : knWs (i + 1) = knWs i ++ [(.mk 2 [] [] [] [] [] : NT)] := by simp [knWs, List.replicate_succ']
theorem knWs_len (i : Nat) : (knWs i).length = i := by simp [knWs]
def kbN : NT := .mk 1 [97] [] [] [] ((knWs 17).take 16)
def knBs (i : Nat) : List NT := List.replicate i kbN
theorem knBs_succ (i : Nat) : knBs (i + 1) = knBs i ++ [kbN] := by simp [knBs, List.replicate_succ']
def knDn : Nat → NT
 | 0 => .mk 1 [97] [] [] [] []
 | j + 1 => .mk 1 [97] [] [] [] [knDn j]
theorem kv1 : chkF (.mk 2 [] [] [] kn64 [] : NT) = 0 := chkF_yes (by decide)
theorem kv2 : chkF (.mk 2 [] [] [] knL [] : NT) = 14 := chkF_no (by decide)
theorem kv3 : chkF (.mk 1 kn16 [] [] [] [] : NT) = 0 := chkF_yes (by decide)
theorem kv4 : chkF (.mk 1 kn17 [] [] [] [] : NT) = 14 := chkF_no (by decide)
theorem kv5 : chkF (.mk 1 [] [] [] [] [] : NT) = 14 := chkF_no (by decide)
theorem kv6 : chkF (.mk 1 [97] [] (knAs 9) [] [] : NT) = 14 := chkF_no (by decide)
theorem kv7 : chkF (.mk 1 [97] [] [] [] (knWs 17) : NT) = 14 := chkF_no (by decide)
theorem kv8 : chkF (.mk 1 [97] [] ((knAs 9).take 8) [] [] : NT) = 0 := chkF_yes (by decide)
theorem kbN_ok : Valid kbN := by decide
theorem kv9 : chkF kbN = 0 := chkF_yes kbN_ok
set_option maxRecDepth 20000 in
theorem kcN_ok : Valid (.mk 1 [97] [] [] [] (knBs 3 ++ knWs 12) : NT) := by decide
set_option maxRecDepth 20000 in
theorem kv10 : cntF (.mk 1 [97] [] [] [] (knBs 3 ++ knWs 12) : NT) = 64 := by rw [cntF, if_pos kcN_ok]; rfl
set_option maxRecDepth 20000 in
theorem kv11 : depF (.mk 1 [97] [] [] [] (knBs 3 ++ knWs 12) : NT) = 3 := by rw [depF, if_pos kcN_ok]; rfl
set_option maxRecDepth 20000 in
theorem kv12 : chkF (.mk 1 [97] [] [] [] (knBs 3 ++ knWs 12 ++ [(.mk 2 [] [] [] [] [] : NT)]) : NT) = 14 := chkF_no (by decide)
theorem kdN_ok : Valid (knDn 5) := by decide
theorem kv13 : depF (knDn 5) = 6 := by rw [depF, if_pos kdN_ok]; rfl
theorem kvT : textN (knDn 5) = [60, 97, 62, 60, 97, 62, 60, 97, 62, 60, 97, 62, 60, 97, 62, 60, 97, 47, 62, 60, 47, 97, 62, 60, 47, 97, 62, 60, 47, 97, 62, 60, 47, 97, 62, 60, 47, 97, 62] := by rfl
theorem kvP : parR [60, 97, 62, 60, 97, 62, 60, 97, 62, 60, 97, 62, 60, 97, 62, 60, 97, 62, 60, 97, 47, 62, 60, 47, 97, 62, 60, 47, 97, 62, 60, 47, 97, 62, 60, 47, 97, 62, 60, 47, 97, 62, 60, 47, 97, 62] = (zeroN, 18, 14) := parR_err (e := (18, 14)) (by decide) (by rfl)
theorem kb_k : inKind .u8 kbN.kind := ⟨by decide, by decide⟩
theorem kb_l : (kbN.tag.length ≤ 9223372036854775807 ∧ kbN.key.length ≤ 9223372036854775807 ∧ kbN.text.length ≤ 9223372036854775807) := ⟨by decide, by decide, by decide⟩
theorem kd_kl (j : Nat) : inKind .u8 (knDn j).kind ∧ ((knDn j).tag.length ≤ 9223372036854775807 ∧ (knDn j).key.length ≤ 9223372036854775807 ∧ (knDn j).text.length ≤ 9223372036854775807) := by cases j <;> exact ⟨⟨by show (0 : Int) ≤ 1; decide, by show (1 : Int) ≤ 255; decide⟩, by show 1 ≤ _; decide, Nat.zero_le _, Nat.zero_le _⟩
/-- The cells themselves. -/
def rdRaw : Rd (List Value) := fun _ cs x => cs = x
theorem mono_rdRaw : Mono rdRaw := fun _ _ _ _ _ h => h
theorem raw_cyn {ca : Option Addr} {cc : Nat} {G : Ghost} {v : Value} (S : RdSl rdRaw 6 G v [[.int .u8 (1), .string (str ([97] : List UInt8)), .string (str ([] : List UInt8)), .slice none (0) (0), .string (str ([] : List UInt8)), .slice (ca) (1) (cc)]]) : RdSl (rdCyn ca cc) 6 G v [()] := by
 obtain ⟨a, c, h1, h2, h3, h4⟩ := S
 refine ⟨a, c, h1, h2, h3, ?_⟩
 rcases h4 with h4 | ⟨b, o, h5, h6⟩
 ·cases h4.2
 ·refine Or.inr ⟨b, o, h5, fun i x hx => ?_⟩
  have hi : i < 1 := lt_of_get hx
  obtain ⟨cs, h7, h10, h8, h9⟩ := h6 i [.int .u8 (1), .string (str ([97] : List UInt8)), .string (str ([] : List UInt8)), .slice none (0) (0), .string (str ([] : List UInt8)), .slice (ca) (1) (cc)] (by rw [show i = 0 by omega]; rfl)
  exact ⟨cs, h7, h10, h8, h9⟩
set_option maxRecDepth 4000 in
set_option maxHeartbeats 2000000 in
theorem nknown_ret {w0 w : World} {G : Ghost} {L : List Res} (M : Mem w0 G L w) : Calls Tryz.prog 10 #[] w (Ret w0 G L fun _ v => v = .bool true) := by
 refine calls_start (vs := []) Tryz.func10 rfl (n := 208) rfl rfl ?_
 intro a F
 refine wp_seq <| w_reg <| rl_run F (run_assign (F.ev rfl)) rfl ?_; clear F a; intro a F
 refine rl_nil <| q_tn <| wp_seq <| w_reg <| rl_run F (run_assign (F.ev rfl)) rfl ?_; clear F a; intro a F
 refine rl_nil <| q_tn ?_
 iterate 2 (refine wp_seq ?_)
 change Fits 208 _ ((1, .string (str knL)) :: _) at F
 have hkl9 : knL.length = 65 := rfl
 have hkl8 : kn64.length = 64 := rfl
 have hkl7 : kn16.length = 16 := rfl
 have hkl6 : kn17.length = 17 := rfl
 refine w_reg <| rl_run F (run_move (F.ev rfl)) rfl ?_; clear F a; intro a F
 refine rl_run F (run_strSlice (a := 0) (b := 64) (ka := .i64) (za := 0) tok9.k (F.ev rfl) rfl ⟨(F.ev rfl), by omega⟩ (by decide) (by decide)) rfl ?_; clear F a; intro a F
 have hsl1 : (knL.take (64)).drop (0) = kn64 := rfl
 rw [hsl1] at F
 refine rl_callS F ent44 rfl rfl (words12_spec (s := (kn64)) M) ?_; clear F M a; rintro _ w a M rfl F
 refine rl_callS F ent30 rfl rfl (ncheck_spec (x := (.mk 2 ([] : List UInt8) ([] : List UInt8) [] (kn64) [] : NT)) M ⟨by show (0 : Int) ≤ 2; omega, by show 2 ≤ (255 : Int); omega⟩ ⟨by first | exact Nat.zero_le _ | assumption | (simp only [Tr.tag, Tr.key, Tr.text]; omega), by first | exact Nat.zero_le _ | assumption | (simp only [Tr.tag, Tr.key, Tr.text]; omega), by first | exact Nat.zero_le _ | assumption | (simp only [Tr.tag, Tr.key, Tr.text]; omega)⟩ RdSl.nil RdSl.nil) ?_; clear F M a; rintro _ w a M rfl F
 rw [kv1] at F
 refine rl_run F (run_nei (F.ev rfl) (F.ev rfl)) rfl ?_; clear F a; intro a F
 refine rl_run F (run_move (F.ev rfl)) rfl ?_; clear F a; intro a F
 refine rl_guard_t F rfl rfl rfl (not_f (decide_eq_true (by decide))) ?_
 refine rl_run F (run_move (F.ev rfl)) rfl ?_; clear F a; intro a F
 refine rl_guard_t F rfl rfl rfl (not_f (decide_eq_true (by decide))) ?_
 refine rl_callS F ent44 rfl rfl (words12_spec (s := (knL)) M) ?_; clear F M a; rintro _ w a M rfl F
 refine rl_guard_t F rfl rfl rfl (not_f (decide_eq_true (by decide))) ?_
 refine rl_callS F ent30 rfl rfl (ncheck_spec (x := (.mk 2 ([] : List UInt8) ([] : List UInt8) [] (knL) [] : NT)) M ⟨by show (0 : Int) ≤ 2; omega, by show 2 ≤ (255 : Int); omega⟩ ⟨by first | exact Nat.zero_le _ | assumption | (simp only [Tr.tag, Tr.key, Tr.text]; omega), by first | exact Nat.zero_le _ | assumption | (simp only [Tr.tag, Tr.key, Tr.text]; omega), by first | exact Nat.zero_le _ | assumption | (simp only [Tr.tag, Tr.key, Tr.text]; omega)⟩ RdSl.nil RdSl.nil) ?_; clear F M a; rintro _ w a M rfl F
 rw [kv2] at F
 refine rl_guard_t F rfl rfl rfl (not_f (decide_eq_true (by decide))) ?_
 refine rl_run F (run_nei (F.ev rfl) (F.ev rfl)) rfl ?_; clear F a; intro a F
 refine rl_run F (run_pick_f (F.ev rfl) (not_f (decide_eq_true (by decide))) (F.ev rfl)) rfl ?_; clear F a; intro a F
 refine rl_run F (run_move (F.ev rfl)) rfl ?_; clear F a; intro a F
 refine rl_guard_t F rfl rfl rfl (not_f (decide_eq_true (by decide))) ?_
 refine rl_run F (run_move (F.ev rfl)) rfl ?_; clear F a; intro a F
 refine rl_guard_t F rfl rfl rfl (not_f (decide_eq_true (by decide))) ?_
 refine rl_run F (run_strSlice (a := 0) (b := 16) (ka := .i64) (za := 0) tok9.k (F.ev rfl) rfl ⟨(F.ev rfl), by omega⟩ (by decide) (by decide)) rfl ?_; clear F a; intro a F
 have hsl2 : (knL.take (16)).drop (0) = kn16 := rfl
 rw [hsl2] at F
 refine rl_guard_t F rfl rfl rfl (not_f (decide_eq_true (by decide))) ?_
 refine rl_callS F ent45 rfl rfl (tag12_spec (s := (kn16)) M) ?_; clear F M a; rintro _ w a M rfl F
 refine rl_guard_t F rfl rfl rfl (not_f (decide_eq_true (by decide))) ?_
 refine rl_callS F ent30 rfl rfl (ncheck_spec (x := (.mk 1 (kn16) ([] : List UInt8) [] ([] : List UInt8) [] : NT)) M ⟨by show (0 : Int) ≤ 1; omega, by show 1 ≤ (255 : Int); omega⟩ ⟨by first | exact Nat.zero_le _ | assumption | (simp only [Tr.tag, Tr.key, Tr.text]; omega), by first | exact Nat.zero_le _ | assumption | (simp only [Tr.tag, Tr.key, Tr.text]; omega), by first | exact Nat.zero_le _ | assumption | (simp only [Tr.tag, Tr.key, Tr.text]; omega)⟩ RdSl.nil RdSl.nil) ?_; clear F M a; rintro _ w a M rfl F
 rw [kv3] at F
 refine rl_guard_t F rfl rfl rfl (not_f (decide_eq_true (by decide))) ?_
 refine rl_run F (run_nei (F.ev rfl) (F.ev rfl)) rfl ?_; clear F a; intro a F
 refine rl_run F (run_pick_f (F.ev rfl) (not_f (decide_eq_true (by decide))) (F.ev rfl)) rfl ?_; clear F a; intro a F
 refine rl_run F (run_move (F.ev rfl)) rfl ?_; clear F a; intro a F
 refine rl_guard_t F rfl rfl rfl (not_f (decide_eq_true (by decide))) ?_
 refine rl_run F (run_move (F.ev rfl)) rfl ?_; clear F a; intro a F
 refine rl_guard_t F rfl rfl rfl (not_f (decide_eq_true (by decide))) ?_
 refine rl_run F (run_strSlice (a := 0) (b := 17) (ka := .i64) (za := 0) tok9.k (F.ev rfl) rfl ⟨(F.ev rfl), by omega⟩ (by decide) (by decide)) rfl ?_; clear F a; intro a F
 have hsl3 : (knL.take (17)).drop (0) = kn17 := rfl
 rw [hsl3] at F
 refine rl_guard_t F rfl rfl rfl (not_f (decide_eq_true (by decide))) ?_
 refine rl_callS F ent45 rfl rfl (tag12_spec (s := (kn17)) M) ?_; clear F M a; rintro _ w a M rfl F
 refine rl_guard_t F rfl rfl rfl (not_f (decide_eq_true (by decide))) ?_
 refine rl_callS F ent30 rfl rfl (ncheck_spec (x := (.mk 1 (kn17) ([] : List UInt8) [] ([] : List UInt8) [] : NT)) M ⟨by show (0 : Int) ≤ 1; omega, by show 1 ≤ (255 : Int); omega⟩ ⟨by first | exact Nat.zero_le _ | assumption | (simp only [Tr.tag, Tr.key, Tr.text]; omega), by first | exact Nat.zero_le _ | assumption | (simp only [Tr.tag, Tr.key, Tr.text]; omega), by first | exact Nat.zero_le _ | assumption | (simp only [Tr.tag, Tr.key, Tr.text]; omega)⟩ RdSl.nil RdSl.nil) ?_; clear F M a; rintro _ w a M rfl F
 rw [kv4] at F
 refine rl_guard_t F rfl rfl rfl (not_f (decide_eq_true (by decide))) ?_
 refine rl_run F (run_nei (F.ev rfl) (F.ev rfl)) rfl ?_; clear F a; intro a F
 refine rl_run F (run_pick_f (F.ev rfl) (not_f (decide_eq_true (by decide))) (F.ev rfl)) rfl ?_; clear F a; intro a F
 refine rl_run F (run_move (F.ev rfl)) rfl ?_; clear F a; intro a F
 refine rl_guard_t F rfl rfl rfl (not_f (decide_eq_true (by decide))) ?_
 refine rl_callS F ent45 rfl rfl (tag12_spec (s := ([] : List UInt8)) M) ?_; clear F M a; rintro _ w a M rfl F
 refine rl_guard_t F rfl rfl rfl (not_f (decide_eq_true (by decide))) ?_
 refine rl_callS F ent30 rfl rfl (ncheck_spec (x := (.mk 1 ([] : List UInt8) ([] : List UInt8) [] ([] : List UInt8) [] : NT)) M ⟨by show (0 : Int) ≤ 1; omega, by show 1 ≤ (255 : Int); omega⟩ ⟨by first | exact Nat.zero_le _ | assumption | (simp only [Tr.tag, Tr.key, Tr.text]; omega), by first | exact Nat.zero_le _ | assumption | (simp only [Tr.tag, Tr.key, Tr.text]; omega), by first | exact Nat.zero_le _ | assumption | (simp only [Tr.tag, Tr.key, Tr.text]; omega)⟩ RdSl.nil RdSl.nil) ?_; clear F M a; rintro _ w a M rfl F
 rw [kv5] at F
 refine rl_guard_t F rfl rfl rfl (not_f (decide_eq_true (by decide))) ?_
 refine rl_run F (run_nei (F.ev rfl) (F.ev rfl)) rfl ?_; clear F a; intro a F
 refine rl_run F (run_pick_f (F.ev rfl) (not_f (decide_eq_true (by decide))) (F.ev rfl)) rfl ?_; clear F a; intro a F
 refine rl_nil <| q_tn <| w_cond_f F rfl (not_f (decide_eq_true (by decide))) ?_
 refine wp_skip <| q_tn <| wp_seq <| w_reg ?_
 iterate 2 (refine rl_callS F ent45 rfl rfl (tag12_spec (s := ([97] : List UInt8)) M) ?_; clear F M a; rintro _ w a M rfl F)
 refine rl_alloc F M tok30 rfl rfl ?_; clear F M a; intro b4 w a M F
 refine rl_alloc F M tok30 rfl rfl ?_; clear F M a; intro b6 w a M F
 refine rl_storeA F M tok30 (k := 1) rfl rfl rfl (us := [.int .u8 (1), .string (str (([97] : List UInt8))), .string (str (([] : List UInt8))), .slice none (0) (0), .string (str (([] : List UInt8))), .slice none (0) (0)]) rfl rfl (by simp [Value.oneCell']) (by simp) ?_; clear F M a; intro w a M F
 change Mem w0 G (_ :: .blk b4 [.int .u8 (1), .string (str (([97] : List UInt8))), .string (str (([] : List UInt8))), .slice none (0) (0), .string (str (([] : List UInt8))), .slice none (0) (0)] 30 :: L) _ at M
 refine rl_storeA F M tok30 (k := 0) rfl rfl rfl (us := [.int .u8 (1), .string (str (([97] : List UInt8))), .string (str (([] : List UInt8))), .slice none (0) (0), .string (str (([] : List UInt8))), .slice none (0) (0)]) rfl rfl (by simp [Value.oneCell']) (by simp) ?_; clear F M a; intro w a M F
 change Mem w0 G (.blk b6 [.int .u8 (1), .string (str (([97] : List UInt8))), .string (str (([] : List UInt8))), .slice none (0) (0), .string (str (([] : List UInt8))), .slice none (0) (0)] 30 :: .blk b4 [.int .u8 (1), .string (str (([97] : List UInt8))), .string (str (([] : List UInt8))), .slice none (0) (0), .string (str (([] : List UInt8))), .slice none (0) (0)] 30 :: L) _ at M
 refine rl_nil <| q_tn ?_
 iterate 2 (refine wp_seq ?_)
 refine w_reg <| rl_run F (run_assign (F.ev rfl)) rfl ?_; clear F a; intro a F
 refine rl_nil <| q_tn <| wp_block ?_
 have M := M.nilrow 87 2
 refine w_loopN (fun m a' w' => ∃ (i : Nat), ∃ (aya : Option Addr), ∃ (nya : Nat), ∃ (cya : Nat), ∃ (csya : List Value), m = 9 - i ∧ ∃ G8, Gle G G8 ∧ Fits 208 a' [(0, .bool false), (1, .string (str (knL))), (2, .pointer (some ⟨b4, 0, none⟩)), (3, .pointer (some ⟨b6, 0, none⟩)), (4, .int .i64 (((i : Nat) : Int)))] ∧ Mem w0 G8 (.row (.slice (aya) (nya) (cya)) (nya) (csya) 87 2 :: .blk b6 [.int .u8 (1), .string (str (([97] : List UInt8))), .string (str (([] : List UInt8))), .slice none (0) (0), .string (str (([] : List UInt8))), .slice none (0) (0)] 30 :: .blk b4 [.int .u8 (1), .string (str (([97] : List UInt8))), .string (str (([] : List UInt8))), .slice (aya) (nya) (cya), .string (str (([] : List UInt8))), .slice none (0) (0)] 30 :: L) w' ∧ (i ≤ 9) ∧ (nya = i) ∧ (Els rdAttr 2 G8 csya (knAs i))) _ ⟨0, (none), (0), (0), ([]), rfl, G, Gle.refl _, F.to ⟨rfl, rfl, rfl, rfl, rfl, trivial⟩, M, by omega, rfl, Els.nil⟩ ?_
 clear F M
 rintro m a w ⟨i, aya, nya, cya, csya, rfl, G8, hG8, F, M, hii, hnya, Eya⟩
 iterate 2 (refine wp_seq ?_)
 refine w_reg <| rl_run F (run_move (F.ev rfl)) rfl ?_; clear F a; intro a F
 refine rl_run F (run_lss (F.ev rfl) (F.ev rfl)) rfl ?_; clear F a; intro a F
 refine rl_nil <| q_tn <| w_cond F rfl ?_ ?_
 ·intro hc
  have h9b := hc; clear hc
  have h9 : ((i : Nat) : Int) < 9 := of_decide_eq_true h9b
  refine wp_skip <| q_tn <| wp_seq <| wp_block <| w_plan3 [(.free, 0), (.pure, 1), (.free, 2), (.free, 3), (.free, 4), (.free, 5), (.free, 6), (.free, 7), (.keep, 8), (.keep, 9), (.free, 10), (.chg, 11)] [11] (Keep G8 [.blk b6 [.int .u8 (1), .string (str (([97] : List UInt8))), .string (str (([] : List UInt8))), .slice none (0) (0), .string (str (([] : List UInt8))), .slice none (0) (0)] 30, .blk b4 [.int .u8 (1), .string (str (([97] : List UInt8))), .string (str (([] : List UInt8))), .slice (aya) (nya) (cya), .string (str (([] : List UInt8))), .slice none (0) (0)] 30]) rfl (by kernel_rfl) (fun c a d v w h => by cases d <;> exact h) ((M.drew _).keep (Gle.refl _) (by simp)) ?_
  replace M := M.drew (w.drawn + 1)
  refine pk_free F (fun w _ => run_fieldAddr tok30.k rfl rfl (F.ev rfl)) rfl ?_; clear F a; intro a F
  refine pk_pure F (fun w M => run_load1 (agf tok27 rfl) (F.ev rfl) (M.cellL (k := 1) rfl rfl)) rfl ?_; clear F a; intro a F
  iterate 3 (refine pk_free F (fun w _ => run_move (F.ev rfl)) rfl ?_; clear F a; intro a F)
  refine pk_free F (fun w _ => run_addi (F.ev rfl) (F.ev rfl) (in_i64 (by omega) (by omega))) rfl ?_; clear F a; intro a F
  refine pk_free F (fun w _ => run_strSlice (a := i) (b := i + 1) tok9.k (F.ev rfl) ⟨(F.ev rfl), by omega⟩ ⟨(F.ev rfl), by omega⟩ (by omega) (by omega)) rfl ?_; clear F a; intro a F
  refine pk_free F (fun w _ => run_buildS (cs := [.string (str ((knL.take (i + 1)).drop (i))), .string (str ([] : List UInt8))]) (ps := [(0, .string (str ((knL.take (i + 1)).drop (i))))]) tok87.k rfl tok87 (F.evp rfl) rfl) rfl ?_; clear F a; intro a F
  refine pk_keep ?_ rfl
  refine rl_buildSlice1 F M tok27.k tok87 rfl rfl (cs := [.string (str ((knL.take (i + 1)).drop (i))), .string (str ([] : List UInt8))]) rfl rfl (by simp [Value.oneCell']) (by decide) rfl ?_; clear F M a; intro v10 w a M F
  obtain ⟨av10, cv10, rfl, hlev10, hcmv10, hlv10⟩ := M.row_shape (k := 0) rfl
  refine rl_nil <| ⟨Keep G8 [.blk b6 [.int .u8 (1), .string (str (([97] : List UInt8))), .string (str (([] : List UInt8))), .slice none (0) (0), .string (str (([] : List UInt8))), .slice none (0) (0)] 30, .blk b4 [.int .u8 (1), .string (str (([97] : List UInt8))), .string (str (([] : List UInt8))), .slice (aya) (nya) (cya), .string (str (([] : List UInt8))), .slice none (0) (0)] 30], M.keep (Gle.refl _) (by simp), fun w h => h.mono (Gle.refl _) (by simp), ?_⟩
  have E11 : Els rdAttr 2 G8 [.string (str ((knL.take (i + 1)).drop (i))), .string (str ([] : List UInt8))] [knAt i] := Els.one ⟨rfl, by show ((knL.take (i + 1)).drop i).length ≤ _; rw [List.length_drop, List.length_take]; omega, Nat.zero_le _⟩ rfl
  refine pk_keep ?_ rfl
  refine rl_append_row F M (k := 1) (k2 := 0) rfl rfl tok27.k tok87 rfl rfl (by decide) rfl rfl (by show _ * 32 ≤ _; (try simp only [List.length_drop, List.length_take, List.length_append, List.length_cons, List.length_nil]); omega) (by (try simp only [List.length_drop, List.length_take, List.length_append, List.length_cons, List.length_nil]); omega) rfl ?_; clear F M a; intro v12 w a M F
  have Ev12 := Els.append Eya E11
  obtain ⟨av12, cv12, rfl, hlev12, hcmv12, hlv12⟩ := M.row_shape (k := 1) rfl
  refine rl_nil <| ⟨Keep G8 [.blk b6 [.int .u8 (1), .string (str (([97] : List UInt8))), .string (str (([] : List UInt8))), .slice none (0) (0), .string (str (([] : List UInt8))), .slice none (0) (0)] 30, .blk b4 [.int .u8 (1), .string (str (([97] : List UInt8))), .string (str (([] : List UInt8))), .slice (aya) (nya) (cya), .string (str (([] : List UInt8))), .slice none (0) (0)] 30], M.keep (Gle.refl _) (by simp), fun w h => h.mono (Gle.refl _) (by simp), ?_⟩
  refine pk_free F (fun w _ => run_fieldAddr tok30.k rfl rfl (F.ev rfl)) rfl ?_; clear F a; intro a F
  refine pk_chg ?_ rfl
  refine rl_store1 F M tok27 rfl (k := 3) rfl rfl rfl rfl rfl ?_; clear F M a; intro w a M F
  refine rl_nil ?_
  change Mem w0 G8 (.row (.slice (av10) (1) (cv10)) (1) ([.string (str ((knL.take (i + 1)).drop (i))), .string (str ([] : List UInt8))]) 87 2 :: .row (.slice (av12) (nya + 1) (cv12)) (nya + 1) (csya ++ ([.string (str ((knL.take (i + 1)).drop (i))), .string (str ([] : List UInt8))])) 87 2 :: .blk b6 [.int .u8 (1), .string (str (([97] : List UInt8))), .string (str (([] : List UInt8))), .slice none (0) (0), .string (str (([] : List UInt8))), .slice none (0) (0)] 30 :: .blk b4 [.int .u8 (1), .string (str (([97] : List UInt8))), .string (str (([] : List UInt8))), .slice (av12) (nya + 1) (cv12), .string (str (([] : List UInt8))), .slice none (0) (0)] 30 :: L) _ at M
  refine ⟨Keep G8 [.row (.slice (av10) (1) (cv10)) (1) ([.string (str ((knL.take (i + 1)).drop (i))), .string (str ([] : List UInt8))]) 87 2, .row (.slice (av12) (nya + 1) (cv12)) (nya + 1) (csya ++ ([.string (str ((knL.take (i + 1)).drop (i))), .string (str ([] : List UInt8))])) 87 2, .blk b6 [.int .u8 (1), .string (str (([97] : List UInt8))), .string (str (([] : List UInt8))), .slice none (0) (0), .string (str (([] : List UInt8))), .slice none (0) (0)] 30, .blk b4 [.int .u8 (1), .string (str (([97] : List UInt8))), .string (str (([] : List UInt8))), .slice (av12) (nya + 1) (cv12), .string (str (([] : List UInt8))), .slice none (0) (0)] 30], M.keep (Gle.refl _) (by simp), ?_⟩
  refine pk_nil <| q_bn <| q_tn <| w_reg <| rl_run F (run_move (F.ev rfl)) rfl ?_; clear F a; intro a F
  refine rl_run F (run_addi (F.ev rfl) (F.ev rfl) (in_i64 (by omega) (by omega))) rfl ?_; clear F a; intro a F
  refine rl_run F (run_assign (F.ev rfl)) rfl ?_; clear F a; intro a F
  refine rl_nil <| q_tn ?_
  exact ⟨_, by omega, i + 1, (av12), (nya + 1), (cv12), (csya ++ ([.string (str ((knL.take (i + 1)).drop (i))), .string (str ([] : List UInt8))])), rfl, G8, hG8, F.to ⟨rfl, rfl, rfl, rfl, rfl, trivial⟩, (M.weaken (.cons _ (.cons_cons _ (.cons_cons _ (.cons_cons _ (List.Sublist.refl _)))))), by omega, by omega, by rw [knAs_succ]; exact Ev12⟩
 ·intro hc
  have h13b := hc; clear hc
  have h13 : ¬ (((i : Nat) : Int) < 9) := of_decide_eq_false h13b
  refine wp_exit ?_
  iterate 2 (refine q_te ?_)
  refine q_bh <| q_tn ?_
  iterate 2 (refine wp_seq ?_)
  obtain rfl : i = 9 := by omega
  subst hnya
  have hka9 := knAs_len 9
  obtain ⟨hnz14, Gz14, az14, cz14, hGz14, hez14, Sz14, M⟩ := M.freeze_row mono_rdAttr (k := 0) rfl Eya (by decide)
  clear hez14 az14 cz14
  clear hnz14
  refine w_reg <| rl_run F (run_assign (F.ev rfl)) rfl ?_; clear F a; intro a F
  refine rl_nil <| q_tn <| wp_block ?_
  have M := M.nilrow 30 6
  refine w_loopN (fun m a' w' => ∃ (i : Nat), ∃ (ayb : Option Addr), ∃ (nyb : Nat), ∃ (cyb : Nat), ∃ (csyb : List Value), m = 17 - i ∧ ∃ G15, Gle Gz14 G15 ∧ Fits 208 a' [(0, .bool false), (1, .string (str (knL))), (2, .pointer (some ⟨b4, 0, none⟩)), (3, .pointer (some ⟨b6, 0, none⟩)), (5, .int .i64 (((i : Nat) : Int)))] ∧ Mem w0 G15 (.row (.slice (ayb) (nyb) (cyb)) (nyb) (csyb) 30 6 :: .blk b6 [.int .u8 (1), .string (str (([97] : List UInt8))), .string (str (([] : List UInt8))), .slice none (0) (0), .string (str (([] : List UInt8))), .slice (ayb) (nyb) (cyb)] 30 :: .blk b4 [.int .u8 (1), .string (str (([97] : List UInt8))), .string (str (([] : List UInt8))), .slice (aya) (9) (cya), .string (str (([] : List UInt8))), .slice none (0) (0)] 30 :: L) w' ∧ (i ≤ 17) ∧ (nyb = i) ∧ (Els rdN 6 G15 csyb (knWs i))) _ ⟨0, (none), (0), (0), ([]), rfl, Gz14, Gle.refl _, F.to ⟨rfl, rfl, rfl, rfl, rfl, trivial⟩, M, by omega, rfl, Els.nil⟩ ?_
  clear F M
  rintro m a w ⟨i, ayb, nyb, cyb, csyb, rfl, G15, hG15, F, M, hii, hnyb, Eyb⟩
  replace Sz14 := Sz14.mono mono_rdAttr hG15
  iterate 2 (refine wp_seq ?_)
  refine w_reg <| rl_run F (run_move (F.ev rfl)) rfl ?_; clear F a; intro a F
  refine rl_run F (run_lss (F.ev rfl) (F.ev rfl)) rfl ?_; clear F a; intro a F
  refine rl_nil <| q_tn <| w_cond F rfl ?_ ?_
  ·intro hc
   have h16b := hc; clear hc
   have h16 : ((i : Nat) : Int) < 17 := of_decide_eq_true h16b
   refine wp_skip <| q_tn <| wp_seq <| wp_block <| w_plan3 [(.free, 0), (.pure, 1), (.keep, 2), (.keep, 3), (.keep, 4), (.free, 5), (.chg, 6)] [6] (Keep G15 [.blk b6 [.int .u8 (1), .string (str (([97] : List UInt8))), .string (str (([] : List UInt8))), .slice none (0) (0), .string (str (([] : List UInt8))), .slice (ayb) (nyb) (cyb)] 30, .blk b4 [.int .u8 (1), .string (str (([97] : List UInt8))), .string (str (([] : List UInt8))), .slice (aya) (9) (cya), .string (str (([] : List UInt8))), .slice none (0) (0)] 30]) rfl (by kernel_rfl) (fun c a d v w h => by cases d <;> exact h) ((M.drew _).keep (Gle.refl _) (by simp)) ?_
   replace M := M.drew (w.drawn + 1)
   refine pk_free F (fun w _ => run_fieldAddr tok30.k rfl rfl (F.ev rfl)) rfl ?_; clear F a; intro a F
   refine pk_pure F (fun w M => run_load1 (agf tok28 rfl) (F.ev rfl) (M.cellL (k := 0) rfl rfl)) rfl ?_; clear F a; intro a F
   refine pk_keep ?_ rfl
   refine rl_callS F ent44 rfl rfl (words12_spec (s := ([] : List UInt8)) M) ?_; clear F M a; rintro _ w a M rfl F
   refine rl_nil <| ⟨Keep G15 [.blk b6 [.int .u8 (1), .string (str (([97] : List UInt8))), .string (str (([] : List UInt8))), .slice none (0) (0), .string (str (([] : List UInt8))), .slice (ayb) (nyb) (cyb)] 30, .blk b4 [.int .u8 (1), .string (str (([97] : List UInt8))), .string (str (([] : List UInt8))), .slice (aya) (9) (cya), .string (str (([] : List UInt8))), .slice none (0) (0)] 30], M.keep (Gle.refl _) (by simp), fun w h => h.mono (Gle.refl _) (by simp), ?_⟩
   refine pk_keep ?_ rfl
   refine rl_buildSlice1 F M tok28.k tok30 rfl rfl (cs := [.int .u8 (2), .string (str (([] : List UInt8))), .string (str (([] : List UInt8))), .slice none (0) (0), .string (str (([] : List UInt8))), .slice none (0) (0)]) rfl rfl (by simp [Value.oneCell']) (by decide) rfl ?_; clear F M a; intro v17 w a M F
   obtain ⟨av17, cv17, rfl, hlev17, hcmv17, hlv17⟩ := M.row_shape (k := 0) rfl
   refine rl_nil <| ⟨Keep G15 [.blk b6 [.int .u8 (1), .string (str (([97] : List UInt8))), .string (str (([] : List UInt8))), .slice none (0) (0), .string (str (([] : List UInt8))), .slice (ayb) (nyb) (cyb)] 30, .blk b4 [.int .u8 (1), .string (str (([97] : List UInt8))), .string (str (([] : List UInt8))), .slice (aya) (9) (cya), .string (str (([] : List UInt8))), .slice none (0) (0)] 30], M.keep (Gle.refl _) (by simp), fun w h => h.mono (Gle.refl _) (by simp), ?_⟩
   have E18 : Els rdN 6 G15 [.int .u8 (2), .string (str (([] : List UInt8))), .string (str (([] : List UInt8))), .slice none (0) (0), .string (str (([] : List UInt8))), .slice none (0) (0)] [(.mk 2 [] [] [] [] [] : NT)] := Els.one (rdT_close (x := ((.mk 2 [] [] [] [] [] : NT) : NT)) ⟨by show (0 : Int) ≤ _; decide, by show _ ≤ (255 : Int); decide⟩ ⟨by show _ ≤ 9223372036854775807; decide, by show _ ≤ 9223372036854775807; decide, by show _ ≤ 9223372036854775807; decide⟩ RdSl.nil RdSl.nil) rfl
   refine pk_keep ?_ rfl
   refine rl_append_row F M (k := 1) (k2 := 0) rfl rfl tok28.k tok30 rfl rfl (by decide) rfl rfl (by show _ * 104 ≤ _; (try simp only [List.length_drop, List.length_take, List.length_append, List.length_cons, List.length_nil]); omega) (by (try simp only [List.length_drop, List.length_take, List.length_append, List.length_cons, List.length_nil]); omega) rfl ?_; clear F M a; intro v19 w a M F
   have Ev19 := Els.append Eyb E18
   obtain ⟨av19, cv19, rfl, hlev19, hcmv19, hlv19⟩ := M.row_shape (k := 1) rfl
   refine rl_nil <| ⟨Keep G15 [.blk b6 [.int .u8 (1), .string (str (([97] : List UInt8))), .string (str (([] : List UInt8))), .slice none (0) (0), .string (str (([] : List UInt8))), .slice (ayb) (nyb) (cyb)] 30, .blk b4 [.int .u8 (1), .string (str (([97] : List UInt8))), .string (str (([] : List UInt8))), .slice (aya) (9) (cya), .string (str (([] : List UInt8))), .slice none (0) (0)] 30], M.keep (Gle.refl _) (by simp), fun w h => h.mono (Gle.refl _) (by simp), ?_⟩
   refine pk_free F (fun w _ => run_fieldAddr tok30.k rfl rfl (F.ev rfl)) rfl ?_; clear F a; intro a F
   refine pk_chg ?_ rfl
   refine rl_store1 F M tok28 rfl (k := 2) rfl rfl rfl rfl rfl ?_; clear F M a; intro w a M F
   refine rl_nil ?_
   change Mem w0 G15 (.row (.slice (av17) (1) (cv17)) (1) ([.int .u8 (2), .string (str (([] : List UInt8))), .string (str (([] : List UInt8))), .slice none (0) (0), .string (str (([] : List UInt8))), .slice none (0) (0)]) 30 6 :: .row (.slice (av19) (nyb + 1) (cv19)) (nyb + 1) (csyb ++ ([.int .u8 (2), .string (str (([] : List UInt8))), .string (str (([] : List UInt8))), .slice none (0) (0), .string (str (([] : List UInt8))), .slice none (0) (0)])) 30 6 :: .blk b6 [.int .u8 (1), .string (str (([97] : List UInt8))), .string (str (([] : List UInt8))), .slice none (0) (0), .string (str (([] : List UInt8))), .slice (av19) (nyb + 1) (cv19)] 30 :: .blk b4 [.int .u8 (1), .string (str (([97] : List UInt8))), .string (str (([] : List UInt8))), .slice (aya) (9) (cya), .string (str (([] : List UInt8))), .slice none (0) (0)] 30 :: L) _ at M
   refine ⟨Keep G15 [.row (.slice (av17) (1) (cv17)) (1) ([.int .u8 (2), .string (str (([] : List UInt8))), .string (str (([] : List UInt8))), .slice none (0) (0), .string (str (([] : List UInt8))), .slice none (0) (0)]) 30 6, .row (.slice (av19) (nyb + 1) (cv19)) (nyb + 1) (csyb ++ ([.int .u8 (2), .string (str (([] : List UInt8))), .string (str (([] : List UInt8))), .slice none (0) (0), .string (str (([] : List UInt8))), .slice none (0) (0)])) 30 6, .blk b6 [.int .u8 (1), .string (str (([97] : List UInt8))), .string (str (([] : List UInt8))), .slice none (0) (0), .string (str (([] : List UInt8))), .slice (av19) (nyb + 1) (cv19)] 30, .blk b4 [.int .u8 (1), .string (str (([97] : List UInt8))), .string (str (([] : List UInt8))), .slice (aya) (9) (cya), .string (str (([] : List UInt8))), .slice none (0) (0)] 30], M.keep (Gle.refl _) (by simp), ?_⟩
   refine pk_nil <| q_bn <| q_tn <| w_reg <| rl_run F (run_move (F.ev rfl)) rfl ?_; clear F a; intro a F
   refine rl_run F (run_addi (F.ev rfl) (F.ev rfl) (in_i64 (by omega) (by omega))) rfl ?_; clear F a; intro a F
   refine rl_run F (run_assign (F.ev rfl)) rfl ?_; clear F a; intro a F
   refine rl_nil <| q_tn ?_
   exact ⟨_, by omega, i + 1, (av19), (nyb + 1), (cv19), (csyb ++ ([.int .u8 (2), .string (str (([] : List UInt8))), .string (str (([] : List UInt8))), .slice none (0) (0), .string (str (([] : List UInt8))), .slice none (0) (0)])), rfl, G15, hG15, F.to ⟨rfl, rfl, rfl, rfl, rfl, trivial⟩, (M.weaken (.cons _ (.cons_cons _ (.cons_cons _ (.cons_cons _ (List.Sublist.refl _)))))), by omega, by omega, by rw [knWs_succ]; exact Ev19⟩
  ·intro hc
   have h20b := hc; clear hc
   have h20 : ¬ (((i : Nat) : Int) < 17) := of_decide_eq_false h20b
   refine wp_exit ?_
   iterate 2 (refine q_te ?_)
   refine q_bh <| q_tn ?_
   iterate 2 (refine wp_seq ?_)
   obtain rfl : i = 17 := by omega
   subst hnyb
   have hkw9 := knWs_len 17
   obtain ⟨hnz21, Gz21, az21, cz21, hGz21, hez21, Sz21, M⟩ := M.freeze_row mono_rdN (k := 0) rfl Eyb (by decide)
   clear hez21 az21 cz21
   replace Sz14 := Sz14.mono mono_rdAttr hGz21
   clear hnz21
   refine w_reg <| rl_run F (run_loadA tok30 rfl (F.ev rfl) (cs := [.int .u8 (1), .string (str (([97] : List UInt8))), .string (str (([] : List UInt8))), .slice (aya) (9) (cya), .string (str (([] : List UInt8))), .slice none (0) (0)]) rfl (M.cellsL (k := 1) rfl rfl)) rfl ?_; clear F a; intro a F
   refine rl_callS F ent30 rfl rfl (ncheck_spec (x := (.mk 1 [97] [] (knAs 9) [] [] : NT)) M ⟨by show (0 : Int) ≤ 1; decide, by show (1 : Int) ≤ 255; decide⟩ ⟨by show 1 ≤ _; decide, Nat.zero_le _, Nat.zero_le _⟩ Sz14 RdSl.nil) ?_; clear F M a; rintro _ w a M rfl F
   rw [kv6] at F
   refine rl_run F (run_nei (F.ev rfl) (F.ev rfl)) rfl ?_; clear F a; intro a F
   refine rl_run F (run_move (F.ev rfl)) rfl ?_; clear F a; intro a F
   refine rl_guard_t F rfl rfl rfl (not_f (decide_eq_true (by decide))) ?_
   refine rl_run F (run_loadA tok30 rfl (F.ev rfl) (cs := [.int .u8 (1), .string (str (([97] : List UInt8))), .string (str (([] : List UInt8))), .slice none (0) (0), .string (str (([] : List UInt8))), .slice (ayb) (17) (cyb)]) rfl (M.cellsL (k := 0) rfl rfl)) rfl ?_; clear F a; intro a F
   refine rl_guard_t F rfl rfl rfl (not_f (decide_eq_true (by decide))) ?_
   refine rl_callS F ent30 rfl rfl (ncheck_spec (x := (.mk 1 [97] [] [] [] (knWs 17) : NT)) M ⟨by show (0 : Int) ≤ 1; decide, by show (1 : Int) ≤ 255; decide⟩ ⟨by show 1 ≤ _; decide, Nat.zero_le _, Nat.zero_le _⟩ RdSl.nil Sz21) ?_; clear F M a; rintro _ w a M rfl F
   rw [kv7] at F
   refine rl_guard_t F rfl rfl rfl (not_f (decide_eq_true (by decide))) ?_
   refine rl_run F (run_nei (F.ev rfl) (F.ev rfl)) rfl ?_; clear F a; intro a F
   refine rl_run F (run_pick_f (F.ev rfl) (not_f (decide_eq_true (by decide))) (F.ev rfl)) rfl ?_; clear F a; intro a F
   refine rl_nil <| q_tn <| w_cond_f F rfl (not_f (decide_eq_true (by decide))) ?_
   refine wp_skip <| q_tn <| wp_seq <| w_plan3 [(.free, 0), (.free, 3), (.pure, 4), (.free, 5), (.keep, 1), (.free, 2), (.free, 6), (.keep, 7), (.free, 8), (.chg, 9)] [9] (Keep Gz21 [.blk b6 [.int .u8 (1), .string (str (([97] : List UInt8))), .string (str (([] : List UInt8))), .slice none (0) (0), .string (str (([] : List UInt8))), .slice (ayb) (17) (cyb)] 30]) rfl (by kernel_rfl) (fun c a d v w h => by cases d <;> exact h) ((M.drew _).keep (Gle.refl _) (by simp)) ?_
   replace M := M.drew (w.drawn + 1)
   iterate 2 (refine pk_free F (fun w _ => run_fieldAddr tok30.k rfl rfl (F.ev rfl)) rfl ?_; clear F a; intro a F)
   refine pk_pure F (fun w M => run_load1 (agf tok28 rfl) (F.ev rfl) (M.cellL (k := 0) rfl rfl)) rfl ?_; clear F a; intro a F
   obtain ⟨as22, cs22, Is22, hms22, hcs22, Ss22⟩ := Sz21.partT (16) (by omega)
   refine pk_free F (fun w _ => run_sliceI tok28.k tok30 Is22 (F.ev rfl) (h := 16) (kl := .i64) (zl := 0) rfl ⟨(F.ev rfl), by omega⟩ (by omega) (by omega)) rfl ?_; clear F a; intro a F
   refine pk_keep ?_ rfl
   refine rl_run F (run_load1 (agf tok27 rfl) (F.ev rfl) (M.cellL (k := 1) rfl rfl)) rfl ?_; clear F a; intro a F
   refine rl_nil <| ⟨Keep Gz21 [.blk b6 [.int .u8 (1), .string (str (([97] : List UInt8))), .string (str (([] : List UInt8))), .slice none (0) (0), .string (str (([] : List UInt8))), .slice (ayb) (17) (cyb)] 30], M.keep (Gle.refl _) (by simp), fun w h => h.mono (Gle.refl _) (by simp), ?_⟩
   obtain ⟨as23, cs23, Is23, hms23, hcs23, Ss23⟩ := Sz14.partT (8) (by omega)
   refine pk_free F (fun w _ => run_sliceI tok27.k tok87 Is23 (F.ev rfl) (h := 8) (kl := .i64) (zl := 0) rfl ⟨(F.ev rfl), by omega⟩ (by omega) (by omega)) rfl ?_; clear F a; intro a F
   refine pk_free F (fun w _ => run_fieldAddr tok30.k rfl rfl (F.ev rfl)) rfl ?_; clear F a; intro a F
   refine pk_keep ?_ rfl
   refine rl_store1 F M tok27 rfl (k := 1) rfl rfl rfl rfl rfl ?_; clear F M a; intro w a M F
   refine rl_nil <| ⟨Keep Gz21 [.blk b6 [.int .u8 (1), .string (str (([97] : List UInt8))), .string (str (([] : List UInt8))), .slice none (0) (0), .string (str (([] : List UInt8))), .slice (ayb) (17) (cyb)] 30], M.keep (Gle.refl _) (by simp), fun w h => h.mono (Gle.refl _) (by simp), ?_⟩
   refine pk_free F (fun w _ => run_fieldAddr tok30.k rfl rfl (F.ev rfl)) rfl ?_; clear F a; intro a F
   refine pk_chg ?_ rfl
   refine rl_store1 F M tok28 rfl (k := 0) rfl rfl rfl rfl rfl ?_; clear F M a; intro w a M F
   refine rl_nil ?_
   change Mem w0 Gz21 (.blk b6 [.int .u8 (1), .string (str (([97] : List UInt8))), .string (str (([] : List UInt8))), .slice none (0) (0), .string (str (([] : List UInt8))), .slice (as22) (16 - 0) (cs22)] 30 :: .blk b4 [.int .u8 (1), .string (str (([97] : List UInt8))), .string (str (([] : List UInt8))), .slice (as23) (8 - 0) (cs23), .string (str (([] : List UInt8))), .slice none (0) (0)] 30 :: L) _ at M
   refine ⟨Keep Gz21 [.blk b6 [.int .u8 (1), .string (str (([97] : List UInt8))), .string (str (([] : List UInt8))), .slice none (0) (0), .string (str (([] : List UInt8))), .slice (as22) (16 - 0) (cs22)] 30, .blk b4 [.int .u8 (1), .string (str (([97] : List UInt8))), .string (str (([] : List UInt8))), .slice (as23) (8 - 0) (cs23), .string (str (([] : List UInt8))), .slice none (0) (0)] 30], M.keep (Gle.refl _) (by simp), ?_⟩
   refine pk_nil <| q_tn <| wp_seq <| w_reg <| rl_callS F ent45 rfl rfl (tag12_spec (s := ([97] : List UInt8)) M) ?_; clear F M a; rintro _ w a M rfl F
   refine rl_alloc F M tok30 rfl rfl ?_; clear F M a; intro b24 w a M F
   refine rl_storeA F M tok30 (k := 0) rfl rfl rfl (us := [.int .u8 (1), .string (str (([97] : List UInt8))), .string (str (([] : List UInt8))), .slice none (0) (0), .string (str (([] : List UInt8))), .slice none (0) (0)]) rfl rfl (by simp [Value.oneCell']) (by simp) ?_; clear F M a; intro w a M F
   change Mem w0 Gz21 (.blk b24 [.int .u8 (1), .string (str (([97] : List UInt8))), .string (str (([] : List UInt8))), .slice none (0) (0), .string (str (([] : List UInt8))), .slice none (0) (0)] 30 :: .blk b6 [.int .u8 (1), .string (str (([97] : List UInt8))), .string (str (([] : List UInt8))), .slice none (0) (0), .string (str (([] : List UInt8))), .slice (as22) (16 - 0) (cs22)] 30 :: .blk b4 [.int .u8 (1), .string (str (([97] : List UInt8))), .string (str (([] : List UInt8))), .slice (as23) (8 - 0) (cs23), .string (str (([] : List UInt8))), .slice none (0) (0)] 30 :: L) _ at M
   refine rl_nil <| q_tn ?_
   iterate 2 (refine wp_seq ?_)
   refine w_reg <| rl_run F (run_assign (F.ev rfl)) rfl ?_; clear F a; intro a F
   refine rl_nil <| q_tn <| wp_block ?_
   have M := M.nilrow 30 6
   refine w_loopN (fun m a' w' => ∃ (i : Nat), ∃ (ayc : Option Addr), ∃ (nyc : Nat), ∃ (cyc : Nat), ∃ (csyc : List Value), m = 3 - i ∧ ∃ G26, Gle Gz21 G26 ∧ Fits 208 a' [(0, .bool false), (1, .string (str (knL))), (2, .pointer (some ⟨b4, 0, none⟩)), (3, .pointer (some ⟨b6, 0, none⟩)), (6, .pointer (some ⟨b24, 0, none⟩)), (7, .int .i64 (((i : Nat) : Int)))] ∧ Mem w0 G26 (.row (.slice (ayc) (nyc) (cyc)) (nyc) (csyc) 30 6 :: .blk b24 [.int .u8 (1), .string (str (([97] : List UInt8))), .string (str (([] : List UInt8))), .slice none (0) (0), .string (str (([] : List UInt8))), .slice (ayc) (nyc) (cyc)] 30 :: .blk b6 [.int .u8 (1), .string (str (([97] : List UInt8))), .string (str (([] : List UInt8))), .slice none (0) (0), .string (str (([] : List UInt8))), .slice (as22) (16 - 0) (cs22)] 30 :: .blk b4 [.int .u8 (1), .string (str (([97] : List UInt8))), .string (str (([] : List UInt8))), .slice (as23) (8 - 0) (cs23), .string (str (([] : List UInt8))), .slice none (0) (0)] 30 :: L) w' ∧ (i ≤ 3) ∧ (nyc = i) ∧ (Els rdN 6 G26 csyc (knBs i))) _ ⟨0, (none), (0), (0), ([]), rfl, Gz21, Gle.refl _, F.to ⟨rfl, rfl, rfl, rfl, rfl, rfl, trivial⟩, M, by omega, rfl, Els.nil⟩ ?_
   clear F M
   rintro m a w ⟨i, ayc, nyc, cyc, csyc, rfl, G26, hG26, F, M, hii, hnyc, Eyc⟩
   replace Sz14 := Sz14.mono mono_rdAttr hG26
   replace Sz21 := Sz21.mono mono_rdN hG26
   replace Ss22 := Ss22.mono mono_rdN hG26
   replace Ss23 := Ss23.mono mono_rdAttr hG26
   iterate 2 (refine wp_seq ?_)
   refine w_reg <| rl_run F (run_move (F.ev rfl)) rfl ?_; clear F a; intro a F
   refine rl_run F (run_lss (F.ev rfl) (F.ev rfl)) rfl ?_; clear F a; intro a F
   refine rl_nil <| q_tn <| w_cond F rfl ?_ ?_
   ·intro hc
    have h27b := hc; clear hc
    have h27 : ((i : Nat) : Int) < 3 := of_decide_eq_true h27b
    refine wp_skip <| q_tn <| wp_seq <| wp_block <| w_reg <| rl_run F (run_fieldAddr tok30.k rfl rfl (F.ev rfl)) rfl ?_; clear F a; intro a F
    refine rl_run F (run_load1 (agf tok28 rfl) (F.ev rfl) (M.cellL (k := 1) rfl rfl)) rfl ?_; clear F a; intro a F
    refine rl_run F (run_loadA tok30 rfl (F.ev rfl) (cs := [.int .u8 (1), .string (str (([97] : List UInt8))), .string (str (([] : List UInt8))), .slice none (0) (0), .string (str (([] : List UInt8))), .slice (as22) (16 - 0) (cs22)]) rfl (M.cellsL (k := 2) rfl rfl)) rfl ?_; clear F a; intro a F
    refine rl_buildSlice1 F M tok28.k tok30 rfl rfl (cs := [.int .u8 (1), .string (str (([97] : List UInt8))), .string (str (([] : List UInt8))), .slice none (0) (0), .string (str (([] : List UInt8))), .slice (as22) (16 - 0) (cs22)]) rfl rfl (by simp [Value.oneCell']) (by decide) rfl ?_; clear F M a; intro v28 w a M F
    obtain ⟨av28, cv28, rfl, hlev28, hcmv28, hlv28⟩ := M.row_shape (k := 0) rfl
    have E29 : Els rdN 6 G26 [.int .u8 (1), .string (str (([97] : List UInt8))), .string (str (([] : List UInt8))), .slice none (0) (0), .string (str (([] : List UInt8))), .slice (as22) (16 - 0) (cs22)] [kbN] := Els.one (rdT_close (x := kbN) kb_k kb_l RdSl.nil Ss22) rfl
    refine rl_append_row F M (k := 1) (k2 := 0) rfl rfl tok28.k tok30 rfl rfl (by decide) rfl rfl (by show _ * 104 ≤ _; (try simp only [List.length_drop, List.length_take, List.length_append, List.length_cons, List.length_nil]); omega) (by (try simp only [List.length_drop, List.length_take, List.length_append, List.length_cons, List.length_nil]); omega) rfl ?_; clear F M a; intro v30 w a M F
    have Ev30 := Els.append Eyc E29
    obtain ⟨av30, cv30, rfl, hlev30, hcmv30, hlv30⟩ := M.row_shape (k := 1) rfl
    refine rl_run F (run_fieldAddr tok30.k rfl rfl (F.ev rfl)) rfl ?_; clear F a; intro a F
    refine rl_store1 F M tok28 rfl (k := 2) rfl rfl rfl rfl rfl ?_; clear F M a; intro w a M F
    refine rl_nil <| q_bn <| q_tn <| w_reg <| rl_run F (run_move (F.ev rfl)) rfl ?_; clear F a; intro a F
    refine rl_run F (run_addi (F.ev rfl) (F.ev rfl) (in_i64 (by omega) (by omega))) rfl ?_; clear F a; intro a F
    refine rl_run F (run_assign (F.ev rfl)) rfl ?_; clear F a; intro a F
    refine rl_nil <| q_tn ?_
    exact ⟨_, by omega, i + 1, (av30), (nyc + 1), (cv30), (csyc ++ ([.int .u8 (1), .string (str (([97] : List UInt8))), .string (str (([] : List UInt8))), .slice none (0) (0), .string (str (([] : List UInt8))), .slice (as22) (16 - 0) (cs22)])), rfl, G26, hG26, F.to ⟨rfl, rfl, rfl, rfl, rfl, rfl, trivial⟩, (M.weaken (.cons _ (.cons_cons _ (.cons_cons _ (.cons_cons _ (.cons_cons _ (List.Sublist.refl _))))))), by omega, by omega, by rw [knBs_succ]; exact Ev30⟩
   ·intro hc
    have h31b := hc; clear hc
    have h31 : ¬ (((i : Nat) : Int) < 3) := of_decide_eq_false h31b
    refine wp_exit ?_
    iterate 2 (refine q_te ?_)
    refine q_bh <| q_tn ?_
    iterate 2 (refine wp_seq ?_)
    obtain rfl : i = 3 := by omega
    subst hnyc
    refine w_reg <| rl_run F (run_assign (F.ev rfl)) rfl ?_; clear F a; intro a F
    refine rl_nil <| q_tn <| wp_block <| w_loopN (fun m a' w' => ∃ (j : Nat), ∃ (ayd : Option Addr), ∃ (nyd : Nat), ∃ (cyd : Nat), ∃ (csyd : List Value), m = 12 - j ∧ ∃ G32, Gle G26 G32 ∧ Fits 208 a' [(0, .bool false), (1, .string (str (knL))), (2, .pointer (some ⟨b4, 0, none⟩)), (3, .pointer (some ⟨b6, 0, none⟩)), (6, .pointer (some ⟨b24, 0, none⟩)), (8, .int .i64 (((j : Nat) : Int)))] ∧ Mem w0 G32 (.row (.slice (ayd) (nyd) (cyd)) (nyd) (csyd) 30 6 :: .blk b24 [.int .u8 (1), .string (str (([97] : List UInt8))), .string (str (([] : List UInt8))), .slice none (0) (0), .string (str (([] : List UInt8))), .slice (ayd) (nyd) (cyd)] 30 :: .blk b6 [.int .u8 (1), .string (str (([97] : List UInt8))), .string (str (([] : List UInt8))), .slice none (0) (0), .string (str (([] : List UInt8))), .slice (as22) (16 - 0) (cs22)] 30 :: .blk b4 [.int .u8 (1), .string (str (([97] : List UInt8))), .string (str (([] : List UInt8))), .slice (as23) (8 - 0) (cs23), .string (str (([] : List UInt8))), .slice none (0) (0)] 30 :: L) w' ∧ (j ≤ 12) ∧ (nyd = 3 + j) ∧ (Els rdN 6 G32 csyd (knBs 3 ++ knWs j))) _ ⟨0, (ayc), (3), (cyc), (csyc), rfl, G26, Gle.refl _, F.to ⟨rfl, rfl, rfl, rfl, rfl, rfl, trivial⟩, M, by omega, by omega, by show Els rdN 6 _ _ (knBs 3 ++ []); rw [List.append_nil]; exact Eyc⟩ ?_
    clear F M
    rintro m a w ⟨j, ayd, nyd, cyd, csyd, rfl, G32, hG32, F, M, hij, hnyd, Eyd⟩
    replace Sz14 := Sz14.mono mono_rdAttr hG32
    replace Sz21 := Sz21.mono mono_rdN hG32
    replace Ss22 := Ss22.mono mono_rdN hG32
    replace Ss23 := Ss23.mono mono_rdAttr hG32
    iterate 2 (refine wp_seq ?_)
    refine w_reg <| rl_run F (run_move (F.ev rfl)) rfl ?_; clear F a; intro a F
    refine rl_run F (run_lss (F.ev rfl) (F.ev rfl)) rfl ?_; clear F a; intro a F
    refine rl_nil <| q_tn <| w_cond F rfl ?_ ?_
    ·intro hc
     have h33b := hc; clear hc
     have h33 : ((j : Nat) : Int) < 12 := of_decide_eq_true h33b
     refine wp_skip <| q_tn <| wp_seq <| wp_block <| w_plan3 [(.free, 0), (.pure, 1), (.keep, 2), (.keep, 3), (.keep, 4), (.free, 5), (.chg, 6)] [6] (Keep G32 [.blk b24 [.int .u8 (1), .string (str (([97] : List UInt8))), .string (str (([] : List UInt8))), .slice none (0) (0), .string (str (([] : List UInt8))), .slice (ayd) (nyd) (cyd)] 30, .blk b6 [.int .u8 (1), .string (str (([97] : List UInt8))), .string (str (([] : List UInt8))), .slice none (0) (0), .string (str (([] : List UInt8))), .slice (as22) (16 - 0) (cs22)] 30, .blk b4 [.int .u8 (1), .string (str (([97] : List UInt8))), .string (str (([] : List UInt8))), .slice (as23) (8 - 0) (cs23), .string (str (([] : List UInt8))), .slice none (0) (0)] 30]) rfl (by kernel_rfl) (fun c a d v w h => by cases d <;> exact h) ((M.drew _).keep (Gle.refl _) (by simp)) ?_
     replace M := M.drew (w.drawn + 1)
     refine pk_free F (fun w _ => run_fieldAddr tok30.k rfl rfl (F.ev rfl)) rfl ?_; clear F a; intro a F
     refine pk_pure F (fun w M => run_load1 (agf tok28 rfl) (F.ev rfl) (M.cellL (k := 0) rfl rfl)) rfl ?_; clear F a; intro a F
     refine pk_keep ?_ rfl
     refine rl_callS F ent44 rfl rfl (words12_spec (s := ([] : List UInt8)) M) ?_; clear F M a; rintro _ w a M rfl F
     refine rl_nil <| ⟨Keep G32 [.blk b24 [.int .u8 (1), .string (str (([97] : List UInt8))), .string (str (([] : List UInt8))), .slice none (0) (0), .string (str (([] : List UInt8))), .slice (ayd) (nyd) (cyd)] 30, .blk b6 [.int .u8 (1), .string (str (([97] : List UInt8))), .string (str (([] : List UInt8))), .slice none (0) (0), .string (str (([] : List UInt8))), .slice (as22) (16 - 0) (cs22)] 30, .blk b4 [.int .u8 (1), .string (str (([97] : List UInt8))), .string (str (([] : List UInt8))), .slice (as23) (8 - 0) (cs23), .string (str (([] : List UInt8))), .slice none (0) (0)] 30], M.keep (Gle.refl _) (by simp), fun w h => h.mono (Gle.refl _) (by simp), ?_⟩
     refine pk_keep ?_ rfl
     refine rl_buildSlice1 F M tok28.k tok30 rfl rfl (cs := [.int .u8 (2), .string (str (([] : List UInt8))), .string (str (([] : List UInt8))), .slice none (0) (0), .string (str (([] : List UInt8))), .slice none (0) (0)]) rfl rfl (by simp [Value.oneCell']) (by decide) rfl ?_; clear F M a; intro v34 w a M F
     obtain ⟨av34, cv34, rfl, hlev34, hcmv34, hlv34⟩ := M.row_shape (k := 0) rfl
     refine rl_nil <| ⟨Keep G32 [.blk b24 [.int .u8 (1), .string (str (([97] : List UInt8))), .string (str (([] : List UInt8))), .slice none (0) (0), .string (str (([] : List UInt8))), .slice (ayd) (nyd) (cyd)] 30, .blk b6 [.int .u8 (1), .string (str (([97] : List UInt8))), .string (str (([] : List UInt8))), .slice none (0) (0), .string (str (([] : List UInt8))), .slice (as22) (16 - 0) (cs22)] 30, .blk b4 [.int .u8 (1), .string (str (([97] : List UInt8))), .string (str (([] : List UInt8))), .slice (as23) (8 - 0) (cs23), .string (str (([] : List UInt8))), .slice none (0) (0)] 30], M.keep (Gle.refl _) (by simp), fun w h => h.mono (Gle.refl _) (by simp), ?_⟩
     have E35 : Els rdN 6 G32 [.int .u8 (2), .string (str (([] : List UInt8))), .string (str (([] : List UInt8))), .slice none (0) (0), .string (str (([] : List UInt8))), .slice none (0) (0)] [(.mk 2 [] [] [] [] [] : NT)] := Els.one (rdT_close (x := ((.mk 2 [] [] [] [] [] : NT) : NT)) ⟨by show (0 : Int) ≤ _; decide, by show _ ≤ (255 : Int); decide⟩ ⟨by show _ ≤ 9223372036854775807; decide, by show _ ≤ 9223372036854775807; decide, by show _ ≤ 9223372036854775807; decide⟩ RdSl.nil RdSl.nil) rfl
     refine pk_keep ?_ rfl
     refine rl_append_row F M (k := 1) (k2 := 0) rfl rfl tok28.k tok30 rfl rfl (by decide) rfl rfl (by show _ * 104 ≤ _; (try simp only [List.length_drop, List.length_take, List.length_append, List.length_cons, List.length_nil]); omega) (by (try simp only [List.length_drop, List.length_take, List.length_append, List.length_cons, List.length_nil]); omega) rfl ?_; clear F M a; intro v36 w a M F
     have Ev36 := Els.append Eyd E35
     obtain ⟨av36, cv36, rfl, hlev36, hcmv36, hlv36⟩ := M.row_shape (k := 1) rfl
     refine rl_nil <| ⟨Keep G32 [.blk b24 [.int .u8 (1), .string (str (([97] : List UInt8))), .string (str (([] : List UInt8))), .slice none (0) (0), .string (str (([] : List UInt8))), .slice (ayd) (nyd) (cyd)] 30, .blk b6 [.int .u8 (1), .string (str (([97] : List UInt8))), .string (str (([] : List UInt8))), .slice none (0) (0), .string (str (([] : List UInt8))), .slice (as22) (16 - 0) (cs22)] 30, .blk b4 [.int .u8 (1), .string (str (([97] : List UInt8))), .string (str (([] : List UInt8))), .slice (as23) (8 - 0) (cs23), .string (str (([] : List UInt8))), .slice none (0) (0)] 30], M.keep (Gle.refl _) (by simp), fun w h => h.mono (Gle.refl _) (by simp), ?_⟩
     refine pk_free F (fun w _ => run_fieldAddr tok30.k rfl rfl (F.ev rfl)) rfl ?_; clear F a; intro a F
     refine pk_chg ?_ rfl
     refine rl_store1 F M tok28 rfl (k := 2) rfl rfl rfl rfl rfl ?_; clear F M a; intro w a M F
     refine rl_nil ?_
     change Mem w0 G32 (.row (.slice (av34) (1) (cv34)) (1) ([.int .u8 (2), .string (str (([] : List UInt8))), .string (str (([] : List UInt8))), .slice none (0) (0), .string (str (([] : List UInt8))), .slice none (0) (0)]) 30 6 :: .row (.slice (av36) (nyd + 1) (cv36)) (nyd + 1) (csyd ++ ([.int .u8 (2), .string (str (([] : List UInt8))), .string (str (([] : List UInt8))), .slice none (0) (0), .string (str (([] : List UInt8))), .slice none (0) (0)])) 30 6 :: .blk b24 [.int .u8 (1), .string (str (([97] : List UInt8))), .string (str (([] : List UInt8))), .slice none (0) (0), .string (str (([] : List UInt8))), .slice (av36) (nyd + 1) (cv36)] 30 :: .blk b6 [.int .u8 (1), .string (str (([97] : List UInt8))), .string (str (([] : List UInt8))), .slice none (0) (0), .string (str (([] : List UInt8))), .slice (as22) (16 - 0) (cs22)] 30 :: .blk b4 [.int .u8 (1), .string (str (([97] : List UInt8))), .string (str (([] : List UInt8))), .slice (as23) (8 - 0) (cs23), .string (str (([] : List UInt8))), .slice none (0) (0)] 30 :: L) _ at M
     refine ⟨Keep G32 [.row (.slice (av34) (1) (cv34)) (1) ([.int .u8 (2), .string (str (([] : List UInt8))), .string (str (([] : List UInt8))), .slice none (0) (0), .string (str (([] : List UInt8))), .slice none (0) (0)]) 30 6, .row (.slice (av36) (nyd + 1) (cv36)) (nyd + 1) (csyd ++ ([.int .u8 (2), .string (str (([] : List UInt8))), .string (str (([] : List UInt8))), .slice none (0) (0), .string (str (([] : List UInt8))), .slice none (0) (0)])) 30 6, .blk b24 [.int .u8 (1), .string (str (([97] : List UInt8))), .string (str (([] : List UInt8))), .slice none (0) (0), .string (str (([] : List UInt8))), .slice (av36) (nyd + 1) (cv36)] 30, .blk b6 [.int .u8 (1), .string (str (([97] : List UInt8))), .string (str (([] : List UInt8))), .slice none (0) (0), .string (str (([] : List UInt8))), .slice (as22) (16 - 0) (cs22)] 30, .blk b4 [.int .u8 (1), .string (str (([97] : List UInt8))), .string (str (([] : List UInt8))), .slice (as23) (8 - 0) (cs23), .string (str (([] : List UInt8))), .slice none (0) (0)] 30], M.keep (Gle.refl _) (by simp), ?_⟩
     refine pk_nil <| q_bn <| q_tn <| w_reg <| rl_run F (run_move (F.ev rfl)) rfl ?_; clear F a; intro a F
     refine rl_run F (run_addi (F.ev rfl) (F.ev rfl) (in_i64 (by omega) (by omega))) rfl ?_; clear F a; intro a F
     refine rl_run F (run_assign (F.ev rfl)) rfl ?_; clear F a; intro a F
     refine rl_nil <| q_tn ?_
     exact ⟨_, by omega, j + 1, (av36), (nyd + 1), (cv36), (csyd ++ ([.int .u8 (2), .string (str (([] : List UInt8))), .string (str (([] : List UInt8))), .slice none (0) (0), .string (str (([] : List UInt8))), .slice none (0) (0)])), rfl, G32, hG32, F.to ⟨rfl, rfl, rfl, rfl, rfl, rfl, trivial⟩, (M.weaken (.cons _ (.cons_cons _ (.cons_cons _ (.cons_cons _ (.cons_cons _ (List.Sublist.refl _))))))), by omega, by omega, by rw [knWs_succ, ← List.append_assoc]; exact Ev36⟩
    ·intro hc
     have h37b := hc; clear hc
     have h37 : ¬ (((j : Nat) : Int) < 12) := of_decide_eq_false h37b
     refine wp_exit ?_
     iterate 2 (refine q_te ?_)
     refine q_bh <| q_tn ?_
     iterate 2 (refine wp_seq ?_)
     obtain rfl : j = 12 := by omega
     subst hnyd
     change Mem w0 G32 (_ :: _ :: .blk b6 [.int .u8 (1), .string (str (([97] : List UInt8))), .string (str (([] : List UInt8))), .slice none (0) (0), .string (str (([] : List UInt8))), .slice (as22) (16 - 0) (cs22)] 30 :: .blk b4 [.int .u8 (1), .string (str (([97] : List UInt8))), .string (str (([] : List UInt8))), .slice (as23) (8 - 0) (cs23), .string (str (([] : List UInt8))), .slice none (0) (0)] 30 :: L) _ at M
     have Sz14ql38 := Sz14
     have Sz21ql38 := Sz21
     have Ss22ql38 := Ss22
     have Ss23ql38 := Ss23
     have Eydql38 := Eyd
     obtain ⟨Gl38, hGl38, Sl38, backl38, M⟩ : ∃ G1, Gle G32 G1 ∧ RdSl rdN 6 G1 (.slice (ayd) (3 + 12) (cyd)) (knBs 3 ++ knWs 12) ∧ (∀ (w' : World) (G'' : Ghost) (L' : List Res), Gle G1 G'' → Mem w0 G'' L' w' → ∃ G3, Gle G32 G3 ∧ Mem w0 G3 (.row (.slice (ayd) (3 + 12) (cyd)) (3 + 12) (csyd) 30 6 :: L') w') ∧ Mem w0 G1 (.blk b24 [.int .u8 (1), .string (str (([97] : List UInt8))), .string (str (([] : List UInt8))), .slice none (0) (0), .string (str (([] : List UInt8))), .slice (ayd) (3 + 12) (cyd)] 30 :: .blk b6 [.int .u8 (1), .string (str (([97] : List UInt8))), .string (str (([] : List UInt8))), .slice none (0) (0), .string (str (([] : List UInt8))), .slice (as22) (16 - 0) (cs22)] 30 :: .blk b4 [.int .u8 (1), .string (str (([97] : List UInt8))), .string (str (([] : List UInt8))), .slice (as23) (8 - 0) (cs23), .string (str (([] : List UInt8))), .slice none (0) (0)] 30 :: L) _ := by
      obtain ⟨G1, h1, h2, h3, h4⟩ := memLend mono_rdN M (show Els rdN 6 G32 _ (knBs 3 ++ knWs 12) from Eyd) (by decide)
      exact ⟨G1, h1, h2, h4, h3⟩
     replace Sz14 := Sz14.mono mono_rdAttr hGl38
     replace Sz21 := Sz21.mono mono_rdN hGl38
     replace Ss22 := Ss22.mono mono_rdN hGl38
     replace Ss23 := Ss23.mono mono_rdAttr hGl38
     refine w_reg <| rl_run F (run_loadA tok30 rfl (F.ev rfl) (cs := [.int .u8 (1), .string (str (([97] : List UInt8))), .string (str (([] : List UInt8))), .slice (as23) (8 - 0) (cs23), .string (str (([] : List UInt8))), .slice none (0) (0)]) rfl (M.cellsL (k := 2) rfl rfl)) rfl ?_; clear F a; intro a F
     refine rl_callS F ent30 rfl rfl (ncheck_spec (x := (.mk 1 [97] [] ((knAs 9).take 8) [] [] : NT)) M ⟨by show (0 : Int) ≤ 1; decide, by show (1 : Int) ≤ 255; decide⟩ ⟨by show 1 ≤ _; decide, Nat.zero_le _, Nat.zero_le _⟩ Ss23 RdSl.nil) ?_; clear F M a; rintro _ w a M rfl F
     rw [kv8] at F
     refine rl_run F (run_nei (F.ev rfl) (F.ev rfl)) rfl ?_; clear F a; intro a F
     refine rl_run F (run_move (F.ev rfl)) rfl ?_; clear F a; intro a F
     refine rl_guard_t F rfl rfl rfl (not_f (decide_eq_true (by decide))) ?_
     refine rl_run F (run_loadA tok30 rfl (F.ev rfl) (cs := [.int .u8 (1), .string (str (([97] : List UInt8))), .string (str (([] : List UInt8))), .slice none (0) (0), .string (str (([] : List UInt8))), .slice (as22) (16 - 0) (cs22)]) rfl (M.cellsL (k := 1) rfl rfl)) rfl ?_; clear F a; intro a F
     refine rl_guard_t F rfl rfl rfl (not_f (decide_eq_true (by decide))) ?_
     refine rl_callS F ent30 rfl rfl (ncheck_spec (x := kbN) M ⟨by show (0 : Int) ≤ 1; decide, by show (1 : Int) ≤ 255; decide⟩ ⟨by show 1 ≤ _; decide, Nat.zero_le _, Nat.zero_le _⟩ RdSl.nil Ss22) ?_; clear F M a; rintro _ w a M rfl F
     rw [kv9] at F
     refine rl_guard_t F rfl rfl rfl (not_f (decide_eq_true (by decide))) ?_
     refine rl_run F (run_nei (F.ev rfl) (F.ev rfl)) rfl ?_; clear F a; intro a F
     refine rl_run F (run_pick_f (F.ev rfl) (not_f (decide_eq_true (by decide))) (F.ev rfl)) rfl ?_; clear F a; intro a F
     refine rl_run F (run_move (F.ev rfl)) rfl ?_; clear F a; intro a F
     refine rl_guard_t F rfl rfl rfl (not_f (decide_eq_true (by decide))) ?_
     refine rl_run F (run_loadA tok30 rfl (F.ev rfl) (cs := [.int .u8 (1), .string (str (([97] : List UInt8))), .string (str (([] : List UInt8))), .slice none (0) (0), .string (str (([] : List UInt8))), .slice (ayd) (3 + 12) (cyd)]) rfl (M.cellsL (k := 0) rfl rfl)) rfl ?_; clear F a; intro a F
     refine rl_guard_t F rfl rfl rfl (not_f (decide_eq_true (by decide))) ?_
     refine rl_callS F ent17 rfl rfl (ncount_spec (x := (.mk 1 [97] [] [] [] (knBs 3 ++ knWs 12) : NT)) M ⟨by show (0 : Int) ≤ 1; decide, by show (1 : Int) ≤ 255; decide⟩ ⟨by show 1 ≤ _; decide, Nat.zero_le _, Nat.zero_le _⟩ RdSl.nil Sl38) ?_; clear F M a; rintro _ w a M rfl F
     rw [kv10] at F
     refine rl_guard_t F rfl rfl rfl (not_f (decide_eq_true (by decide))) ?_
     refine rl_run F (run_nei (F.ev rfl) (F.ev rfl)) rfl ?_; clear F a; intro a F
     refine rl_run F (run_pick_f (F.ev rfl) (not_f (decide_eq_true (by decide))) (F.ev rfl)) rfl ?_; clear F a; intro a F
     refine rl_run F (run_move (F.ev rfl)) rfl ?_; clear F a; intro a F
     refine rl_guard_t F rfl rfl rfl (not_f (decide_eq_true (by decide))) ?_
     refine rl_run F (run_loadA tok30 rfl (F.ev rfl) (cs := [.int .u8 (1), .string (str (([97] : List UInt8))), .string (str (([] : List UInt8))), .slice none (0) (0), .string (str (([] : List UInt8))), .slice (ayd) (3 + 12) (cyd)]) rfl (M.cellsL (k := 0) rfl rfl)) rfl ?_; clear F a; intro a F
     refine rl_guard_t F rfl rfl rfl (not_f (decide_eq_true (by decide))) ?_
     refine rl_callS F ent46 rfl rfl (ndepth_spec (x := (.mk 1 [97] [] [] [] (knBs 3 ++ knWs 12) : NT)) M ⟨by show (0 : Int) ≤ 1; decide, by show (1 : Int) ≤ 255; decide⟩ ⟨by show 1 ≤ _; decide, Nat.zero_le _, Nat.zero_le _⟩ RdSl.nil Sl38) ?_; clear F M a; rintro _ w a M rfl F
     rw [kv11] at F
     refine rl_guard_t F rfl rfl rfl (not_f (decide_eq_true (by decide))) ?_
     refine rl_run F (run_nei (F.ev rfl) (F.ev rfl)) rfl ?_; clear F a; intro a F
     refine rl_run F (run_pick_f (F.ev rfl) (not_f (decide_eq_true (by decide))) (F.ev rfl)) rfl ?_; clear F a; intro a F
     refine rl_nil <| q_tn <| w_cond_f F rfl (not_f (decide_eq_true (by decide))) ?_
     refine wp_skip <| q_tn <| wp_seq ?_
     obtain ⟨Gt39, hGt39, M⟩ := backl38 _ _ _ (Gle.refl _) M
     clear backl38
     replace Sz14 := Sz14ql38
     replace Sz14 := Sz14.mono mono_rdAttr hGt39
     clear Sz14ql38
     replace Sz21 := Sz21ql38
     replace Sz21 := Sz21.mono mono_rdN hGt39
     clear Sz21ql38
     replace Ss22 := Ss22ql38
     replace Ss22 := Ss22.mono mono_rdN hGt39
     clear Ss22ql38
     replace Ss23 := Ss23ql38
     replace Ss23 := Ss23.mono mono_rdAttr hGt39
     clear Ss23ql38
     replace Eyd := Eydql38
     replace Eyd := Eyd.mono mono_rdN hGt39
     clear Eydql38
     refine w_plan3 [(.free, 0), (.pure, 1), (.keep, 2), (.keep, 3), (.keep, 4), (.free, 5), (.chg, 6)] [6] (Keep Gt39 [.blk b24 [.int .u8 (1), .string (str (([97] : List UInt8))), .string (str (([] : List UInt8))), .slice none (0) (0), .string (str (([] : List UInt8))), .slice (ayd) (3 + 12) (cyd)] 30, .blk b6 [.int .u8 (1), .string (str (([97] : List UInt8))), .string (str (([] : List UInt8))), .slice none (0) (0), .string (str (([] : List UInt8))), .slice (as22) (16 - 0) (cs22)] 30, .blk b4 [.int .u8 (1), .string (str (([97] : List UInt8))), .string (str (([] : List UInt8))), .slice (as23) (8 - 0) (cs23), .string (str (([] : List UInt8))), .slice none (0) (0)] 30]) rfl (by kernel_rfl) (fun c a d v w h => by cases d <;> exact h) ((M.drew _).keep (Gle.refl _) (by simp)) ?_
     replace M := M.drew (w.drawn + 1)
     refine pk_free F (fun w _ => run_fieldAddr tok30.k rfl rfl (F.ev rfl)) rfl ?_; clear F a; intro a F
     refine pk_pure F (fun w M => run_load1 (agf tok28 rfl) (F.ev rfl) (M.cellL (k := 0) rfl rfl)) rfl ?_; clear F a; intro a F
     refine pk_keep ?_ rfl
     refine rl_callS F ent44 rfl rfl (words12_spec (s := ([] : List UInt8)) M) ?_; clear F M a; rintro _ w a M rfl F
     refine rl_nil <| ⟨Keep Gt39 [.blk b24 [.int .u8 (1), .string (str (([97] : List UInt8))), .string (str (([] : List UInt8))), .slice none (0) (0), .string (str (([] : List UInt8))), .slice (ayd) (3 + 12) (cyd)] 30, .blk b6 [.int .u8 (1), .string (str (([97] : List UInt8))), .string (str (([] : List UInt8))), .slice none (0) (0), .string (str (([] : List UInt8))), .slice (as22) (16 - 0) (cs22)] 30, .blk b4 [.int .u8 (1), .string (str (([97] : List UInt8))), .string (str (([] : List UInt8))), .slice (as23) (8 - 0) (cs23), .string (str (([] : List UInt8))), .slice none (0) (0)] 30], M.keep (Gle.refl _) (by simp), fun w h => h.mono (Gle.refl _) (by simp), ?_⟩
     refine pk_keep ?_ rfl
     refine rl_buildSlice1 F M tok28.k tok30 rfl rfl (cs := [.int .u8 (2), .string (str (([] : List UInt8))), .string (str (([] : List UInt8))), .slice none (0) (0), .string (str (([] : List UInt8))), .slice none (0) (0)]) rfl rfl (by simp [Value.oneCell']) (by decide) rfl ?_; clear F M a; intro v40 w a M F
     obtain ⟨av40, cv40, rfl, hlev40, hcmv40, hlv40⟩ := M.row_shape (k := 0) rfl
     refine rl_nil <| ⟨Keep Gt39 [.blk b24 [.int .u8 (1), .string (str (([97] : List UInt8))), .string (str (([] : List UInt8))), .slice none (0) (0), .string (str (([] : List UInt8))), .slice (ayd) (3 + 12) (cyd)] 30, .blk b6 [.int .u8 (1), .string (str (([97] : List UInt8))), .string (str (([] : List UInt8))), .slice none (0) (0), .string (str (([] : List UInt8))), .slice (as22) (16 - 0) (cs22)] 30, .blk b4 [.int .u8 (1), .string (str (([97] : List UInt8))), .string (str (([] : List UInt8))), .slice (as23) (8 - 0) (cs23), .string (str (([] : List UInt8))), .slice none (0) (0)] 30], M.keep (Gle.refl _) (by simp), fun w h => h.mono (Gle.refl _) (by simp), ?_⟩
     have E41 : Els rdN 6 Gt39 [.int .u8 (2), .string (str (([] : List UInt8))), .string (str (([] : List UInt8))), .slice none (0) (0), .string (str (([] : List UInt8))), .slice none (0) (0)] [(.mk 2 [] [] [] [] [] : NT)] := Els.one (rdT_close (x := ((.mk 2 [] [] [] [] [] : NT) : NT)) ⟨by show (0 : Int) ≤ _; decide, by show _ ≤ (255 : Int); decide⟩ ⟨by show _ ≤ 9223372036854775807; decide, by show _ ≤ 9223372036854775807; decide, by show _ ≤ 9223372036854775807; decide⟩ RdSl.nil RdSl.nil) rfl
     refine pk_keep ?_ rfl
     refine rl_append_row F M (k := 1) (k2 := 0) rfl rfl tok28.k tok30 rfl rfl (by decide) rfl rfl (by show _ * 104 ≤ _; (try simp only [List.length_drop, List.length_take, List.length_append, List.length_cons, List.length_nil]); omega) (by (try simp only [List.length_drop, List.length_take, List.length_append, List.length_cons, List.length_nil]); omega) rfl ?_; clear F M a; intro v42 w a M F
     have Ev42 := Els.append Eyd E41
     obtain ⟨av42, cv42, rfl, hlev42, hcmv42, hlv42⟩ := M.row_shape (k := 1) rfl
     refine rl_nil <| ⟨Keep Gt39 [.blk b24 [.int .u8 (1), .string (str (([97] : List UInt8))), .string (str (([] : List UInt8))), .slice none (0) (0), .string (str (([] : List UInt8))), .slice (ayd) (3 + 12) (cyd)] 30, .blk b6 [.int .u8 (1), .string (str (([97] : List UInt8))), .string (str (([] : List UInt8))), .slice none (0) (0), .string (str (([] : List UInt8))), .slice (as22) (16 - 0) (cs22)] 30, .blk b4 [.int .u8 (1), .string (str (([97] : List UInt8))), .string (str (([] : List UInt8))), .slice (as23) (8 - 0) (cs23), .string (str (([] : List UInt8))), .slice none (0) (0)] 30], M.keep (Gle.refl _) (by simp), fun w h => h.mono (Gle.refl _) (by simp), ?_⟩
     refine pk_free F (fun w _ => run_fieldAddr tok30.k rfl rfl (F.ev rfl)) rfl ?_; clear F a; intro a F
     refine pk_chg ?_ rfl
     refine rl_store1 F M tok28 rfl (k := 2) rfl rfl rfl rfl rfl ?_; clear F M a; intro w a M F
     refine rl_nil ?_
     change Mem w0 Gt39 (.row (.slice (av40) (1) (cv40)) (1) ([.int .u8 (2), .string (str (([] : List UInt8))), .string (str (([] : List UInt8))), .slice none (0) (0), .string (str (([] : List UInt8))), .slice none (0) (0)]) 30 6 :: .row (.slice (av42) ((3 + 12) + 1) (cv42)) ((3 + 12) + 1) (csyd ++ ([.int .u8 (2), .string (str (([] : List UInt8))), .string (str (([] : List UInt8))), .slice none (0) (0), .string (str (([] : List UInt8))), .slice none (0) (0)])) 30 6 :: .blk b24 [.int .u8 (1), .string (str (([97] : List UInt8))), .string (str (([] : List UInt8))), .slice none (0) (0), .string (str (([] : List UInt8))), .slice (av42) ((3 + 12) + 1) (cv42)] 30 :: .blk b6 [.int .u8 (1), .string (str (([97] : List UInt8))), .string (str (([] : List UInt8))), .slice none (0) (0), .string (str (([] : List UInt8))), .slice (as22) (16 - 0) (cs22)] 30 :: .blk b4 [.int .u8 (1), .string (str (([97] : List UInt8))), .string (str (([] : List UInt8))), .slice (as23) (8 - 0) (cs23), .string (str (([] : List UInt8))), .slice none (0) (0)] 30 :: L) _ at M
     refine ⟨Keep Gt39 [.row (.slice (av40) (1) (cv40)) (1) ([.int .u8 (2), .string (str (([] : List UInt8))), .string (str (([] : List UInt8))), .slice none (0) (0), .string (str (([] : List UInt8))), .slice none (0) (0)]) 30 6, .row (.slice (av42) ((3 + 12) + 1) (cv42)) ((3 + 12) + 1) (csyd ++ ([.int .u8 (2), .string (str (([] : List UInt8))), .string (str (([] : List UInt8))), .slice none (0) (0), .string (str (([] : List UInt8))), .slice none (0) (0)])) 30 6, .blk b24 [.int .u8 (1), .string (str (([97] : List UInt8))), .string (str (([] : List UInt8))), .slice none (0) (0), .string (str (([] : List UInt8))), .slice (av42) ((3 + 12) + 1) (cv42)] 30, .blk b6 [.int .u8 (1), .string (str (([97] : List UInt8))), .string (str (([] : List UInt8))), .slice none (0) (0), .string (str (([] : List UInt8))), .slice (as22) (16 - 0) (cs22)] 30, .blk b4 [.int .u8 (1), .string (str (([97] : List UInt8))), .string (str (([] : List UInt8))), .slice (as23) (8 - 0) (cs23), .string (str (([] : List UInt8))), .slice none (0) (0)] 30], M.keep (Gle.refl _) (by simp), ?_⟩
     refine pk_nil <| q_tn <| wp_seq ?_
     obtain ⟨hnz43, Gz43, az43, cz43, hGz43, hez43, Sz43, M⟩ := M.freeze_row mono_rdN (k := 1) rfl Ev42 (by decide)
     clear hez43 az43 cz43
     replace Sz14 := Sz14.mono mono_rdAttr hGz43
     replace Sz21 := Sz21.mono mono_rdN hGz43
     replace Ss22 := Ss22.mono mono_rdN hGz43
     replace Ss23 := Ss23.mono mono_rdAttr hGz43
     replace Eyd := Eyd.mono mono_rdN hGz43
     replace E41 := E41.mono mono_rdN hGz43
     clear hnz43
     refine w_reg <| rl_callS F ent45 rfl rfl (tag12_spec (s := ([97] : List UInt8)) M) ?_; clear F M a; rintro _ w a M rfl F
     refine rl_alloc F M tok30 rfl rfl ?_; clear F M a; intro b44 w a M F
     refine rl_storeA F M tok30 (k := 0) rfl rfl rfl (us := [.int .u8 (1), .string (str (([97] : List UInt8))), .string (str (([] : List UInt8))), .slice none (0) (0), .string (str (([] : List UInt8))), .slice none (0) (0)]) rfl rfl (by simp [Value.oneCell']) (by simp) ?_; clear F M a; intro w a M F
     change Mem w0 Gz43 (.blk b44 [.int .u8 (1), .string (str (([97] : List UInt8))), .string (str (([] : List UInt8))), .slice none (0) (0), .string (str (([] : List UInt8))), .slice none (0) (0)] 30 :: _ :: _ :: .blk b6 [.int .u8 (1), .string (str (([97] : List UInt8))), .string (str (([] : List UInt8))), .slice none (0) (0), .string (str (([] : List UInt8))), .slice (as22) (16 - 0) (cs22)] 30 :: .blk b4 [.int .u8 (1), .string (str (([97] : List UInt8))), .string (str (([] : List UInt8))), .slice (as23) (8 - 0) (cs23), .string (str (([] : List UInt8))), .slice none (0) (0)] 30 :: L) _ at M
     refine rl_nil <| q_tn ?_
     iterate 2 (refine wp_seq ?_)
     refine w_reg <| rl_run F (run_assign (F.ev rfl)) rfl ?_; clear F a; intro a F
     refine rl_nil <| q_tn <| wp_block <| w_loopN (fun m a' w' => ∃ (j : Nat), ∃ (kad : Option Addr), ∃ (kcd : Nat), m = 5 - j ∧ ∃ G46, Gle Gz43 G46 ∧ Fits 208 a' [(0, .bool false), (1, .string (str (knL))), (2, .pointer (some ⟨b4, 0, none⟩)), (3, .pointer (some ⟨b6, 0, none⟩)), (6, .pointer (some ⟨b24, 0, none⟩)), (9, .pointer (some ⟨b44, 0, none⟩)), (10, .int .i64 (((j : Nat) : Int)))] ∧ Mem w0 G46 (.blk b44 [.int .u8 (1), .string (str (([97] : List UInt8))), .string (str (([] : List UInt8))), .slice none (0) (0), .string (str (([] : List UInt8))), .slice (kad) ((knDn j).kids.length) (kcd)] 30 :: .row (.slice (av40) (1) (cv40)) (1) ([.int .u8 (2), .string (str (([] : List UInt8))), .string (str (([] : List UInt8))), .slice none (0) (0), .string (str (([] : List UInt8))), .slice none (0) (0)]) 30 6 :: .blk b24 [.int .u8 (1), .string (str (([97] : List UInt8))), .string (str (([] : List UInt8))), .slice none (0) (0), .string (str (([] : List UInt8))), .slice (av42) ((3 + 12) + 1) (cv42)] 30 :: .blk b6 [.int .u8 (1), .string (str (([97] : List UInt8))), .string (str (([] : List UInt8))), .slice none (0) (0), .string (str (([] : List UInt8))), .slice (as22) (16 - 0) (cs22)] 30 :: .blk b4 [.int .u8 (1), .string (str (([97] : List UInt8))), .string (str (([] : List UInt8))), .slice (as23) (8 - 0) (cs23), .string (str (([] : List UInt8))), .slice none (0) (0)] 30 :: L) w' ∧ (j ≤ 5) ∧ (RdSl rdN 6 G46 (.slice kad (knDn j).kids.length kcd) (knDn j).kids)) _ ⟨0, (none), (0), rfl, Gz43, Gle.refl _, F.to ⟨rfl, rfl, rfl, rfl, rfl, rfl, rfl, trivial⟩, M, by omega, RdSl.nil⟩ ?_
     clear F M
     rintro m a w ⟨j, kad, kcd, rfl, G46, hG46, F, M, hj, SKd⟩
     replace Sz14 := Sz14.mono mono_rdAttr hG46
     replace Sz21 := Sz21.mono mono_rdN hG46
     replace Ss22 := Ss22.mono mono_rdN hG46
     replace Ss23 := Ss23.mono mono_rdAttr hG46
     replace Eyd := Eyd.mono mono_rdN hG46
     replace E41 := E41.mono mono_rdN hG46
     replace Sz43 := Sz43.mono mono_rdN hG46
     iterate 2 (refine wp_seq ?_)
     refine w_reg <| rl_run F (run_move (F.ev rfl)) rfl ?_; clear F a; intro a F
     refine rl_run F (run_lss (F.ev rfl) (F.ev rfl)) rfl ?_; clear F a; intro a F
     refine rl_nil <| q_tn <| w_cond F rfl ?_ ?_
     ·intro hc
      have h47b := hc; clear hc
      have h47 : ((j : Nat) : Int) < 5 := of_decide_eq_true h47b
      refine wp_skip <| q_tn <| wp_seq <| wp_block <| w_reg <| rl_run F (run_loadA tok30 rfl (F.ev rfl) (cs := [.int .u8 (1), .string (str (([97] : List UInt8))), .string (str (([] : List UInt8))), .slice none (0) (0), .string (str (([] : List UInt8))), .slice (kad) ((knDn j).kids.length) (kcd)]) rfl (M.cellsL (k := 0) rfl rfl)) rfl ?_; clear F a; intro a F
      refine rl_buildSlice1 F M tok28.k tok30 rfl rfl (cs := [.int .u8 (1), .string (str (([97] : List UInt8))), .string (str (([] : List UInt8))), .slice none (0) (0), .string (str (([] : List UInt8))), .slice (kad) ((knDn j).kids.length) (kcd)]) rfl rfl (by simp [Value.oneCell']) (by decide) rfl ?_; clear F M a; intro v48 w a M F
      obtain ⟨av48, cv48, rfl, hlev48, hcmv48, hlv48⟩ := M.row_shape (k := 0) rfl
      have E49 : Els rdN 6 G46 [.int .u8 (1), .string (str (([97] : List UInt8))), .string (str (([] : List UInt8))), .slice none (0) (0), .string (str (([] : List UInt8))), .slice (kad) ((knDn j).kids.length) (kcd)] [knDn j] := Els.one (by cases j <;> exact rdT_close (x := knDn _) (kd_kl _).1 (kd_kl _).2 RdSl.nil SKd) rfl
      obtain ⟨hnz50, Gz50, az50, cz50, hGz50, hez50, Sz50, M⟩ := M.freeze_row mono_rdN (k := 0) rfl E49 (by decide)
      clear hez50 az50 cz50
      replace Sz14 := Sz14.mono mono_rdAttr hGz50
      replace Sz21 := Sz21.mono mono_rdN hGz50
      replace Ss22 := Ss22.mono mono_rdN hGz50
      replace Ss23 := Ss23.mono mono_rdAttr hGz50
      replace Eyd := Eyd.mono mono_rdN hGz50
      replace E41 := E41.mono mono_rdN hGz50
      replace Sz43 := Sz43.mono mono_rdN hGz50
      replace SKd := SKd.mono mono_rdN hGz50
      clear hnz50
      refine rl_run F (run_buildS (cs := [.int .u8 (1), .string (str ([97] : List UInt8)), .string (str ([] : List UInt8)), .slice none (0) (0), .string (str ([] : List UInt8)), .slice (av48) (1) (cv48)]) (ps := [(0, .int .u8 (1)), (1, .string (str ([97] : List UInt8))), (5, .slice (av48) (1) (cv48))]) tok30.k rfl tok30 (F.evp rfl) rfl) rfl ?_; clear F a; intro a F
      refine rl_storeA F M tok30 (k := 0) rfl rfl rfl (us := [.int .u8 (1), .string (str ([97] : List UInt8)), .string (str ([] : List UInt8)), .slice none (0) (0), .string (str ([] : List UInt8)), .slice (av48) (1) (cv48)]) rfl rfl (by simp [Value.oneCell']) (by simp) ?_; clear F M a; intro w a M F
      change Mem w0 Gz50 (.blk b44 [.int .u8 (1), .string (str ([97] : List UInt8)), .string (str ([] : List UInt8)), .slice none (0) (0), .string (str ([] : List UInt8)), .slice (av48) (1) (cv48)] 30 :: _ :: _ :: .blk b6 [.int .u8 (1), .string (str (([97] : List UInt8))), .string (str (([] : List UInt8))), .slice none (0) (0), .string (str (([] : List UInt8))), .slice (as22) (16 - 0) (cs22)] 30 :: .blk b4 [.int .u8 (1), .string (str (([97] : List UInt8))), .string (str (([] : List UInt8))), .slice (as23) (8 - 0) (cs23), .string (str (([] : List UInt8))), .slice none (0) (0)] 30 :: L) _ at M
      refine rl_nil <| q_bn <| q_tn <| w_reg <| rl_run F (run_move (F.ev rfl)) rfl ?_; clear F a; intro a F
      refine rl_run F (run_addi (F.ev rfl) (F.ev rfl) (in_i64 (by omega) (by omega))) rfl ?_; clear F a; intro a F
      refine rl_run F (run_assign (F.ev rfl)) rfl ?_; clear F a; intro a F
      refine rl_nil <| q_tn ?_
      exact ⟨_, by omega, j + 1, (av48), (cv48), rfl, Gz50, (hG46.trans hGz50), F.to ⟨rfl, rfl, rfl, rfl, rfl, rfl, rfl, trivial⟩, M, by omega, Sz50⟩
     ·intro hc
      have h51b := hc; clear hc
      have h51 : ¬ (((j : Nat) : Int) < 5) := of_decide_eq_false h51b
      refine wp_exit ?_
      iterate 2 (refine q_te ?_)
      refine q_bh <| q_tn <| wp_seq ?_
      obtain rfl : j = 5 := by omega
      refine w_reg <| rl_run F (run_loadA tok30 rfl (F.ev rfl) (cs := [.int .u8 (1), .string (str (([97] : List UInt8))), .string (str (([] : List UInt8))), .slice none (0) (0), .string (str (([] : List UInt8))), .slice (kad) ((knDn 5).kids.length) (kcd)]) rfl (M.cellsL (k := 0) rfl rfl)) rfl ?_; clear F a; intro a F
      refine rl_callS F ent38 rfl rfl (ntextF_at (x := (knDn 5)) (y := [60, 97, 62, 60, 97, 62, 60, 97, 62, 60, 97, 62, 60, 97, 62, 60, 97, 47, 62, 60, 47, 97, 62, 60, 47, 97, 62, 60, 47, 97, 62, 60, 47, 97, 62, 60, 47, 97, 62]) (e := 0) M (kd_kl 5).1 (kd_kl 5).2 RdSl.nil SKd ⟨chkF_yes kdN_ok, by rw [chkF_yes kdN_ok, if_pos rfl, kvT]⟩) ?_; clear F M a; rintro _ w a M rfl F
      refine rl_run F (run_move (F.ev rfl)) rfl ?_; clear F a; intro a F
      refine rl_run F (run_extract (v := .string (str ([60, 97, 62, 60, 97, 62, 60, 97, 62, 60, 97, 62, 60, 97, 62, 60, 97, 47, 62, 60, 47, 97, 62, 60, 47, 97, 62, 60, 47, 97, 62, 60, 47, 97, 62, 60, 47, 97, 62] : List UInt8))) (F.ev rfl) rfl) rfl ?_; clear F a; intro a F
      refine rl_run F (run_extract (v := .int .i64 (0)) (F.ev rfl) rfl) rfl ?_; clear F a; intro a F
      iterate 2 (refine rl_run F (run_assign (F.ev rfl)) rfl ?_; clear F a; intro a F)
      refine rl_nil <| q_tn <| wp_seq <| w_reg <| rl_run F (run_move (F.ev rfl)) rfl ?_; clear F a; intro a F
      iterate 2 (refine rl_run F (run_strAdd (F.ev rfl) (F.ev rfl) (by (try simp only [List.length_append, List.length_cons, List.length_nil]); omega)) rfl ?_; clear F a; intro a F)
      refine rl_call F ent40 rfl rfl (parse_at (s := ([60, 97, 62, 60, 97, 62, 60, 97, 62, 60, 97, 62, 60, 97, 62, 60, 97, 62, 60, 97, 47, 62, 60, 47, 97, 62, 60, 47, 97, 62, 60, 47, 97, 62, 60, 47, 97, 62, 60, 47, 97, 62, 60, 47, 97, 62] : List UInt8)) (y := zeroN) (i := 18) (e := 14) M kvP) ?_; clear F M a; rintro _ Gk52 w a hGk52 M ⟨tak52, kak52, rfl, hkk52, hlk52, SAk52, SKk52⟩ F
      replace Sz14 := Sz14.mono mono_rdAttr hGk52
      replace Sz21 := Sz21.mono mono_rdN hGk52
      replace Ss22 := Ss22.mono mono_rdN hGk52
      replace Ss23 := Ss23.mono mono_rdAttr hGk52
      replace Eyd := Eyd.mono mono_rdN hGk52
      replace E41 := E41.mono mono_rdN hGk52
      replace Sz43 := Sz43.mono mono_rdN hGk52
      replace SKd := SKd.mono mono_rdN hGk52
      refine rl_run F (run_move (F.ev rfl)) rfl ?_; clear F a; intro a F
      refine rl_run F (run_extract (v := .agg #[.int .u8 (zeroN.kind), .string (str (zeroN.tag)), .string (str (zeroN.key)), .slice (tak52) (zeroN.as.length) (zeroN.as.length), .string (str (zeroN.text)), .slice (kak52) (zeroN.kids.length) (zeroN.kids.length)]) (F.ev rfl) rfl) rfl ?_; clear F a; intro a F
      refine rl_run F (run_extract (v := .int .i64 (((18 : Nat) : Int))) (F.ev rfl) rfl) rfl ?_; clear F a; intro a F
      refine rl_run F (run_extract (v := .int .i64 (14)) (F.ev rfl) rfl) rfl ?_; clear F a; intro a F
      refine rl_alloc F M tok30 rfl rfl ?_; clear F M a; intro b53 w a M F
      refine rl_storeA F M tok30 (k := 0) rfl rfl rfl (us := [.int .u8 (zeroN.kind), .string (str (zeroN.tag)), .string (str (zeroN.key)), .slice (tak52) (zeroN.as.length) (zeroN.as.length), .string (str (zeroN.text)), .slice (kak52) (zeroN.kids.length) (zeroN.kids.length)]) rfl rfl (by simp [Value.oneCell']) (by simp) ?_; clear F M a; intro w a M F
      change Mem w0 Gk52 (.blk b53 [.int .u8 (zeroN.kind), .string (str (zeroN.tag)), .string (str (zeroN.key)), .slice (tak52) (zeroN.as.length) (zeroN.as.length), .string (str (zeroN.text)), .slice (kak52) (zeroN.kids.length) (zeroN.kids.length)] 30 :: _ :: _ :: _ :: .blk b6 [.int .u8 (1), .string (str (([97] : List UInt8))), .string (str (([] : List UInt8))), .slice none (0) (0), .string (str (([] : List UInt8))), .slice (as22) (16 - 0) (cs22)] 30 :: .blk b4 [.int .u8 (1), .string (str (([97] : List UInt8))), .string (str (([] : List UInt8))), .slice (as23) (8 - 0) (cs23), .string (str (([] : List UInt8))), .slice none (0) (0)] 30 :: L) _ at M
      iterate 2 (refine rl_run F (run_assign (F.ev rfl)) rfl ?_; clear F a; intro a F)
      refine rl_nil <| q_tn <| wp_seq <| w_reg <| rl_makeE (rd := rdRaw) (Z := ([.int .u8 (0), .string (str ([] : List UInt8)), .string (str ([] : List UInt8)), .slice none (0) (0), .string (str ([] : List UInt8)), .slice none (0) (0)] : List Value)) F M tok28.k tok30 rfl (by decide) rfl rfl (l := 1) (by omega) rfl (by omega) (by show 104 * _ ≤ _; omega) (by omega) (by simp [ti30, Value.cells, Value.oneCell']) (rfl) rfl ?_; clear F M a; intro bv55 csv55 w a M Ev55 F
      refine rl_run F (run_assign (F.ev rfl)) rfl ?_; clear F a; intro a F
      refine rl_nil <| q_tn <| wp_seq <| w_reg ?_
      iterate 2 (refine rl_run F (run_move (F.ev rfl)) rfl ?_; clear F a; intro a F)
      refine rl_run F (run_buildS (cs := [.int .u8 (1), .string (str ([97] : List UInt8)), .string (str ([] : List UInt8)), .slice none (0) (0), .string (str ([] : List UInt8)), .slice (some ⟨bv55, 0, none⟩) (1) (1)]) (ps := [(0, .int .u8 (1)), (1, .string (str ([97] : List UInt8))), (5, .slice (some ⟨bv55, 0, none⟩) (1) (1))]) tok30.k rfl tok30 (F.evp rfl) rfl) rfl ?_; clear F a; intro a F
      obtain ⟨Xe56, hXe56⟩ := get_of_lt (xs := List.replicate (1) (([.int .u8 (0), .string (str ([] : List UInt8)), .string (str ([] : List UInt8)), .slice none (0) (0), .string (str ([] : List UInt8)), .slice none (0) (0)] : List Value))) (i := 0) (by exact Nat.one_pos)
      obtain ⟨be56, _, Ie56, hme56, _, Ae56, hTe56⟩ := M.atRow (k := 0) rfl (by decide) Ev55 hXe56
      refine rl_run F (run_indexI tok28.k tok30 (F.ev rfl) (F.ev rfl) (by omega) Ie56) rfl ?_; clear F a; intro a F
      refine rl_storeEl F M tok30 (k := 0) rfl rfl Ev55 Ie56 (lt_of_get hXe56) rfl rfl (us := [.int .u8 (1), .string (str ([97] : List UInt8)), .string (str ([] : List UInt8)), .slice none (0) (0), .string (str ([] : List UInt8)), .slice (some ⟨bv55, 0, none⟩) (1) (1)]) rfl rfl (by simp [Value.oneCell']) (X' := ([.int .u8 (1), .string (str ([97] : List UInt8)), .string (str ([] : List UInt8)), .slice none (0) (0), .string (str ([] : List UInt8)), .slice (some ⟨bv55, 0, none⟩) (1) (1)] : List Value)) (rfl) ?_; clear F M a; intro csu57 w a M Eu57 F
      refine rl_nil <| q_tn <| wp_seq ?_
      have Eq9 : Els rdRaw 6 Gk52 csu57 [[.int .u8 (1), .string (str ([97] : List UInt8)), .string (str ([] : List UInt8)), .slice none (0) (0), .string (str ([] : List UInt8)), .slice (some ⟨bv55, 0, none⟩) (1) (1)]] := Eu57
      obtain ⟨hnz58, Gz58, az58, cz58, hGz58, hez58, Sz58, M⟩ := M.freeze_row mono_rdRaw (k := 0) rfl Eq9 (by decide)
      clear hez58 az58 cz58
      replace Sz14 := Sz14.mono mono_rdAttr hGz58
      replace Sz21 := Sz21.mono mono_rdN hGz58
      replace Ss22 := Ss22.mono mono_rdN hGz58
      replace Ss23 := Ss23.mono mono_rdAttr hGz58
      replace Eyd := Eyd.mono mono_rdN hGz58
      replace E41 := E41.mono mono_rdN hGz58
      replace Sz43 := Sz43.mono mono_rdN hGz58
      replace SKd := SKd.mono mono_rdN hGz58
      replace SAk52 := SAk52.mono mono_rdAttr hGz58
      replace SKk52 := SKk52.mono mono_rdNE hGz58
      replace Eu57 := Eu57.mono mono_rdRaw hGz58
      clear hnz58
      replace Sz58 := raw_cyn (ca := some ⟨bv55, 0, none⟩) (cc := 1) Sz58
      refine w_plan3 [(.pure, 0), (.keep, 1), (.free, 2), (.free, 3), (.pure, 4), (.keep, 5), (.free, 6), (.free, 7), (.free, 8), (.free, 9), (.free, 10), (.free, 11), (.free, 12), (.free, 13), (.free, 14), (.free, 15), (.free, 16), (.free, 17), (.free, 18), (.free, 19), (.free, 20), (.free, 21), (.free, 22), (.pure, 23), (.keep, 24), (.free, 25), (.free, 26), (.free, 27), (.free, 28), (.free, 29), (.pure, 30), (.keep, 31), (.free, 32), (.free, 33), (.free, 34), (.free, 35), (.free, 36), (.pure, 37), (.free, 38), (.free, 39), (.pure, 40), (.keep, 41), (.free, 42), (.free, 43), (.free, 44), (.keep, 45), (.free, 46), (.free, 47)] [] (Keep Gz58 [.blk b53 [.int .u8 (zeroN.kind), .string (str (zeroN.tag)), .string (str (zeroN.key)), .slice (tak52) (zeroN.as.length) (zeroN.as.length), .string (str (zeroN.text)), .slice (kak52) (zeroN.kids.length) (zeroN.kids.length)] 30, .blk b44 [.int .u8 (1), .string (str (([97] : List UInt8))), .string (str (([] : List UInt8))), .slice none (0) (0), .string (str (([] : List UInt8))), .slice (kad) ((knDn 5).kids.length) (kcd)] 30, .row (.slice (av40) (1) (cv40)) (1) ([.int .u8 (2), .string (str (([] : List UInt8))), .string (str (([] : List UInt8))), .slice none (0) (0), .string (str (([] : List UInt8))), .slice none (0) (0)]) 30 6, .blk b24 [.int .u8 (1), .string (str (([97] : List UInt8))), .string (str (([] : List UInt8))), .slice none (0) (0), .string (str (([] : List UInt8))), .slice (av42) ((3 + 12) + 1) (cv42)] 30, .blk b6 [.int .u8 (1), .string (str (([97] : List UInt8))), .string (str (([] : List UInt8))), .slice none (0) (0), .string (str (([] : List UInt8))), .slice (as22) (16 - 0) (cs22)] 30, .blk b4 [.int .u8 (1), .string (str (([97] : List UInt8))), .string (str (([] : List UInt8))), .slice (as23) (8 - 0) (cs23), .string (str (([] : List UInt8))), .slice none (0) (0)] 30]) rfl (by kernel_rfl) (fun c a d v w h => by cases d <;> exact h) ((M.drew _).keep (Gle.refl _) (by simp)) ?_
      replace M := M.drew (w.drawn + 1)
      refine pk_pure F (fun w M => run_loadA tok30 rfl (F.ev rfl) (cs := [.int .u8 (1), .string (str (([97] : List UInt8))), .string (str (([] : List UInt8))), .slice none (0) (0), .string (str (([] : List UInt8))), .slice (av42) ((3 + 12) + 1) (cv42)]) rfl (M.cellsL (k := 3) rfl rfl)) rfl ?_; clear F a; intro a F
      refine pk_keep ?_ rfl
      refine rl_callS F ent30 rfl rfl (ncheck_spec (x := (.mk 1 [97] [] [] [] (knBs 3 ++ knWs 12 ++ [(.mk 2 [] [] [] [] [] : NT)]) : NT)) M ⟨by show (0 : Int) ≤ 1; decide, by show (1 : Int) ≤ 255; decide⟩ ⟨by show 1 ≤ _; decide, Nat.zero_le _, Nat.zero_le _⟩ RdSl.nil Sz43) ?_; clear F M a; rintro _ w a M rfl F
      refine rl_nil <| ⟨Keep Gz58 [.blk b53 [.int .u8 (zeroN.kind), .string (str (zeroN.tag)), .string (str (zeroN.key)), .slice (tak52) (zeroN.as.length) (zeroN.as.length), .string (str (zeroN.text)), .slice (kak52) (zeroN.kids.length) (zeroN.kids.length)] 30, .blk b44 [.int .u8 (1), .string (str (([97] : List UInt8))), .string (str (([] : List UInt8))), .slice none (0) (0), .string (str (([] : List UInt8))), .slice (kad) ((knDn 5).kids.length) (kcd)] 30, .row (.slice (av40) (1) (cv40)) (1) ([.int .u8 (2), .string (str (([] : List UInt8))), .string (str (([] : List UInt8))), .slice none (0) (0), .string (str (([] : List UInt8))), .slice none (0) (0)]) 30 6, .blk b24 [.int .u8 (1), .string (str (([97] : List UInt8))), .string (str (([] : List UInt8))), .slice none (0) (0), .string (str (([] : List UInt8))), .slice (av42) ((3 + 12) + 1) (cv42)] 30, .blk b6 [.int .u8 (1), .string (str (([97] : List UInt8))), .string (str (([] : List UInt8))), .slice none (0) (0), .string (str (([] : List UInt8))), .slice (as22) (16 - 0) (cs22)] 30, .blk b4 [.int .u8 (1), .string (str (([97] : List UInt8))), .string (str (([] : List UInt8))), .slice (as23) (8 - 0) (cs23), .string (str (([] : List UInt8))), .slice none (0) (0)] 30], M.keep (Gle.refl _) (by simp), fun w h => h.mono (Gle.refl _) (by simp), ?_⟩
      rw [kv12] at F
      refine pk_free F (fun w _ => run_eqi (F.ev rfl) (F.ev rfl)) rfl ?_; clear F a; intro a F
      refine pk_free F (fun w _ => run_move (F.ev rfl)) rfl ?_; clear F a; intro a F
      refine pk_pure_g F rfl rfl (decide_eq_true (by decide)) (fun w M => run_loadA tok30 rfl (F.ev rfl) (cs := [.int .u8 (1), .string (str (([97] : List UInt8))), .string (str (([] : List UInt8))), .slice none (0) (0), .string (str (([] : List UInt8))), .slice (kad) ((knDn 5).kids.length) (kcd)]) rfl (M.cellsL (k := 1) rfl rfl)) rfl ?_; clear F a; intro a F
      refine pk_keep_g F rfl rfl (decide_eq_true (by decide)) ?_
      refine rl_guard_t F rfl rfl rfl (decide_eq_true (by decide)) ?_
      refine rl_callS F ent46 rfl rfl (ndepth_spec (x := (knDn 5)) M (kd_kl 5).1 (kd_kl 5).2 RdSl.nil SKd) ?_; clear F M a; rintro _ w a M rfl F
      refine rl_nil <| ⟨Keep Gz58 [.blk b53 [.int .u8 (zeroN.kind), .string (str (zeroN.tag)), .string (str (zeroN.key)), .slice (tak52) (zeroN.as.length) (zeroN.as.length), .string (str (zeroN.text)), .slice (kak52) (zeroN.kids.length) (zeroN.kids.length)] 30, .blk b44 [.int .u8 (1), .string (str (([97] : List UInt8))), .string (str (([] : List UInt8))), .slice none (0) (0), .string (str (([] : List UInt8))), .slice (kad) ((knDn 5).kids.length) (kcd)] 30, .row (.slice (av40) (1) (cv40)) (1) ([.int .u8 (2), .string (str (([] : List UInt8))), .string (str (([] : List UInt8))), .slice none (0) (0), .string (str (([] : List UInt8))), .slice none (0) (0)]) 30 6, .blk b24 [.int .u8 (1), .string (str (([97] : List UInt8))), .string (str (([] : List UInt8))), .slice none (0) (0), .string (str (([] : List UInt8))), .slice (av42) ((3 + 12) + 1) (cv42)] 30, .blk b6 [.int .u8 (1), .string (str (([97] : List UInt8))), .string (str (([] : List UInt8))), .slice none (0) (0), .string (str (([] : List UInt8))), .slice (as22) (16 - 0) (cs22)] 30, .blk b4 [.int .u8 (1), .string (str (([97] : List UInt8))), .string (str (([] : List UInt8))), .slice (as23) (8 - 0) (cs23), .string (str (([] : List UInt8))), .slice none (0) (0)] 30], M.keep (Gle.refl _) (by simp), fun w h => h.mono (Gle.refl _) (by simp), ?_⟩
      rw [kv13] at F
      refine pk_free_g F rfl rfl (decide_eq_true (by decide)) (fun w _ => run_eqi (F.ev rfl) (F.ev rfl)) rfl ?_; clear F a; intro a F
      refine pk_free F (fun w _ => run_pick_t (F.ev rfl) (decide_eq_true (by decide)) (F.ev rfl)) rfl ?_; clear F a; intro a F
      refine pk_free F (fun w _ => run_move (F.ev rfl)) rfl ?_; clear F a; intro a F
      refine pk_free_g F rfl rfl (decide_eq_true (by decide)) (fun w _ => run_move (F.ev rfl)) rfl ?_; clear F a; intro a F
      refine pk_free_g F rfl rfl (decide_eq_true (by decide)) (fun w _ => run_eqi (F.ev rfl) (F.ev rfl)) rfl ?_; clear F a; intro a F
      refine pk_free F (fun w _ => run_pick_t (F.ev rfl) (decide_eq_true (by decide)) (F.ev rfl)) rfl ?_; clear F a; intro a F
      refine pk_free F (fun w _ => run_move (F.ev rfl)) rfl ?_; clear F a; intro a F
      refine pk_free_g F rfl rfl (decide_eq_true (by decide)) (fun w _ => run_move (F.ev rfl)) rfl ?_; clear F a; intro a F
      refine pk_free_g F rfl rfl (decide_eq_true (by decide)) (fun w _ => run_eqi (F.ev rfl) (F.ev rfl)) rfl ?_; clear F a; intro a F
      refine pk_free F (fun w _ => run_pick_t (F.ev rfl) (decide_eq_true (by decide)) (F.ev rfl)) rfl ?_; clear F a; intro a F
      refine pk_free F (fun w _ => run_move (F.ev rfl)) rfl ?_; clear F a; intro a F
      refine pk_free_g F rfl rfl (decide_eq_true (by decide)) (fun w _ => run_move (F.ev rfl)) rfl ?_; clear F a; intro a F
      refine pk_free_g F rfl rfl (decide_eq_true (by decide)) (fun w _ => run_eqi (F.ev rfl) (F.ev rfl)) rfl ?_; clear F a; intro a F
      refine pk_free F (fun w _ => run_pick_t (F.ev rfl) (decide_eq_true (by decide)) (F.ev rfl)) rfl ?_; clear F a; intro a F
      refine pk_free F (fun w _ => run_move (F.ev rfl)) rfl ?_; clear F a; intro a F
      refine pk_free_g F rfl rfl (decide_eq_true (by decide)) (fun w _ => run_move (F.ev rfl)) rfl ?_; clear F a; intro a F
      obtain ⟨Xe59, hXe59⟩ := get_of_lt (xs := [()]) (i := 0) (by exact Nat.one_pos)
      obtain ⟨be59, oe59, _, Ie59, _, Ae59, hTe59⟩ := Sz58.at hXe59
      obtain rfl := cyn_open hTe59
      refine pk_free_g F rfl rfl (decide_eq_true (by decide)) (fun w _ => run_indexI tok28.k tok30 (F.ev rfl) (F.ev rfl) (by omega) Ie59) rfl ?_; clear F a; intro a F
      refine pk_pure_g F rfl rfl (decide_eq_true (by decide)) (fun w M => run_loadA tok30 rfl (F.ev rfl) (cs := [.int .u8 (1), .string (str (([97] : List UInt8))), .string (str (([] : List UInt8))), .slice none (0) (0), .string (str (([] : List UInt8))), .slice (some ⟨bv55, 0, none⟩) (1) (1)]) rfl (M.cellsA Ae59 0 (by omega) rfl)) rfl ?_; clear F a; intro a F
      refine pk_keep_g F rfl rfl (decide_eq_true (by decide)) ?_
      refine rl_guard_t F rfl rfl rfl (decide_eq_true (by decide)) ?_
      refine rl_callS F ent30 rfl rfl (cyncheck_spec M Sz58) ?_; clear F M a; rintro _ w a M rfl F
      refine rl_nil <| ⟨Keep Gz58 [.blk b53 [.int .u8 (zeroN.kind), .string (str (zeroN.tag)), .string (str (zeroN.key)), .slice (tak52) (zeroN.as.length) (zeroN.as.length), .string (str (zeroN.text)), .slice (kak52) (zeroN.kids.length) (zeroN.kids.length)] 30, .blk b44 [.int .u8 (1), .string (str (([97] : List UInt8))), .string (str (([] : List UInt8))), .slice none (0) (0), .string (str (([] : List UInt8))), .slice (kad) ((knDn 5).kids.length) (kcd)] 30, .row (.slice (av40) (1) (cv40)) (1) ([.int .u8 (2), .string (str (([] : List UInt8))), .string (str (([] : List UInt8))), .slice none (0) (0), .string (str (([] : List UInt8))), .slice none (0) (0)]) 30 6, .blk b24 [.int .u8 (1), .string (str (([97] : List UInt8))), .string (str (([] : List UInt8))), .slice none (0) (0), .string (str (([] : List UInt8))), .slice (av42) ((3 + 12) + 1) (cv42)] 30, .blk b6 [.int .u8 (1), .string (str (([97] : List UInt8))), .string (str (([] : List UInt8))), .slice none (0) (0), .string (str (([] : List UInt8))), .slice (as22) (16 - 0) (cs22)] 30, .blk b4 [.int .u8 (1), .string (str (([97] : List UInt8))), .string (str (([] : List UInt8))), .slice (as23) (8 - 0) (cs23), .string (str (([] : List UInt8))), .slice none (0) (0)] 30], M.keep (Gle.refl _) (by simp), fun w h => h.mono (Gle.refl _) (by simp), ?_⟩
      refine pk_free_g F rfl rfl (decide_eq_true (by decide)) (fun w _ => run_eqi (F.ev rfl) (F.ev rfl)) rfl ?_; clear F a; intro a F
      refine pk_free F (fun w _ => run_pick_t (F.ev rfl) (decide_eq_true (by decide)) (F.ev rfl)) rfl ?_; clear F a; intro a F
      refine pk_free F (fun w _ => run_move (F.ev rfl)) rfl ?_; clear F a; intro a F
      refine pk_free_g F rfl rfl (decide_eq_true (by decide)) (fun w _ => run_move (F.ev rfl)) rfl ?_; clear F a; intro a F
      obtain ⟨be60, oe60, _, Ie60, _, Ae60, hTe60⟩ := Sz58.at hXe59
      obtain rfl := cyn_open hTe60
      refine pk_free_g F rfl rfl (decide_eq_true (by decide)) (fun w _ => run_indexI tok28.k tok30 (F.ev rfl) (F.ev rfl) (by omega) Ie60) rfl ?_; clear F a; intro a F
      refine pk_pure_g F rfl rfl (decide_eq_true (by decide)) (fun w M => run_loadA tok30 rfl (F.ev rfl) (cs := [.int .u8 (1), .string (str (([97] : List UInt8))), .string (str (([] : List UInt8))), .slice none (0) (0), .string (str (([] : List UInt8))), .slice (some ⟨bv55, 0, none⟩) (1) (1)]) rfl (M.cellsA Ae60 0 (by omega) rfl)) rfl ?_; clear F a; intro a F
      refine pk_keep_g F rfl rfl (decide_eq_true (by decide)) ?_
      refine rl_guard_t F rfl rfl rfl (decide_eq_true (by decide)) ?_
      refine rl_callS F ent17 rfl rfl (cyncount_spec M Sz58) ?_; clear F M a; rintro _ w a M rfl F
      refine rl_nil <| ⟨Keep Gz58 [.blk b53 [.int .u8 (zeroN.kind), .string (str (zeroN.tag)), .string (str (zeroN.key)), .slice (tak52) (zeroN.as.length) (zeroN.as.length), .string (str (zeroN.text)), .slice (kak52) (zeroN.kids.length) (zeroN.kids.length)] 30, .blk b44 [.int .u8 (1), .string (str (([97] : List UInt8))), .string (str (([] : List UInt8))), .slice none (0) (0), .string (str (([] : List UInt8))), .slice (kad) ((knDn 5).kids.length) (kcd)] 30, .row (.slice (av40) (1) (cv40)) (1) ([.int .u8 (2), .string (str (([] : List UInt8))), .string (str (([] : List UInt8))), .slice none (0) (0), .string (str (([] : List UInt8))), .slice none (0) (0)]) 30 6, .blk b24 [.int .u8 (1), .string (str (([97] : List UInt8))), .string (str (([] : List UInt8))), .slice none (0) (0), .string (str (([] : List UInt8))), .slice (av42) ((3 + 12) + 1) (cv42)] 30, .blk b6 [.int .u8 (1), .string (str (([97] : List UInt8))), .string (str (([] : List UInt8))), .slice none (0) (0), .string (str (([] : List UInt8))), .slice (as22) (16 - 0) (cs22)] 30, .blk b4 [.int .u8 (1), .string (str (([97] : List UInt8))), .string (str (([] : List UInt8))), .slice (as23) (8 - 0) (cs23), .string (str (([] : List UInt8))), .slice none (0) (0)] 30], M.keep (Gle.refl _) (by simp), fun w h => h.mono (Gle.refl _) (by simp), ?_⟩
      refine pk_free_g F rfl rfl (decide_eq_true (by decide)) (fun w _ => run_eqi (F.ev rfl) (F.ev rfl)) rfl ?_; clear F a; intro a F
      refine pk_free F (fun w _ => run_pick_t (F.ev rfl) (decide_eq_true (by decide)) (F.ev rfl)) rfl ?_; clear F a; intro a F
      refine pk_free F (fun w _ => run_move (F.ev rfl)) rfl ?_; clear F a; intro a F
      refine pk_free_g F rfl rfl (decide_eq_true (by decide)) (fun w _ => run_move (F.ev rfl)) rfl ?_; clear F a; intro a F
      obtain ⟨be61, oe61, _, Ie61, _, Ae61, hTe61⟩ := Sz58.at hXe59
      obtain rfl := cyn_open hTe61
      refine pk_free_g F rfl rfl (decide_eq_true (by decide)) (fun w _ => run_indexI tok28.k tok30 (F.ev rfl) (F.ev rfl) (by omega) Ie61) rfl ?_; clear F a; intro a F
      refine pk_pure_g F rfl rfl (decide_eq_true (by decide)) (fun w M => run_loadA tok30 rfl (F.ev rfl) (cs := [.int .u8 (1), .string (str (([97] : List UInt8))), .string (str (([] : List UInt8))), .slice none (0) (0), .string (str (([] : List UInt8))), .slice (some ⟨bv55, 0, none⟩) (1) (1)]) rfl (M.cellsA Ae61 0 (by omega) rfl)) rfl ?_; clear F a; intro a F
      refine pk_free_g F rfl rfl (decide_eq_true (by decide)) (fun w _ => run_move (F.ev rfl)) rfl ?_; clear F a; intro a F
      obtain ⟨be62, oe62, _, Ie62, _, Ae62, hTe62⟩ := Sz58.at hXe59
      obtain rfl := cyn_open hTe62
      refine pk_free_g F rfl rfl (decide_eq_true (by decide)) (fun w _ => run_indexI tok28.k tok30 (F.ev rfl) (F.ev rfl) (by omega) Ie62) rfl ?_; clear F a; intro a F
      refine pk_pure_g F rfl rfl (decide_eq_true (by decide)) (fun w M => run_loadA tok30 rfl (F.ev rfl) (cs := [.int .u8 (1), .string (str (([97] : List UInt8))), .string (str (([] : List UInt8))), .slice none (0) (0), .string (str (([] : List UInt8))), .slice (some ⟨bv55, 0, none⟩) (1) (1)]) rfl (M.cellsA Ae62 0 (by omega) rfl)) rfl ?_; clear F a; intro a F
      refine pk_keep_g F rfl rfl (decide_eq_true (by decide)) ?_
      refine rl_guard_t F rfl rfl rfl (decide_eq_true (by decide)) ?_
      refine rl_callS F ent41 rfl rfl (cynsame_spec M Sz58) ?_; clear F M a; rintro _ w a M rfl F
      refine rl_nil <| ⟨Keep Gz58 [.blk b53 [.int .u8 (zeroN.kind), .string (str (zeroN.tag)), .string (str (zeroN.key)), .slice (tak52) (zeroN.as.length) (zeroN.as.length), .string (str (zeroN.text)), .slice (kak52) (zeroN.kids.length) (zeroN.kids.length)] 30, .blk b44 [.int .u8 (1), .string (str (([97] : List UInt8))), .string (str (([] : List UInt8))), .slice none (0) (0), .string (str (([] : List UInt8))), .slice (kad) ((knDn 5).kids.length) (kcd)] 30, .row (.slice (av40) (1) (cv40)) (1) ([.int .u8 (2), .string (str (([] : List UInt8))), .string (str (([] : List UInt8))), .slice none (0) (0), .string (str (([] : List UInt8))), .slice none (0) (0)]) 30 6, .blk b24 [.int .u8 (1), .string (str (([97] : List UInt8))), .string (str (([] : List UInt8))), .slice none (0) (0), .string (str (([] : List UInt8))), .slice (av42) ((3 + 12) + 1) (cv42)] 30, .blk b6 [.int .u8 (1), .string (str (([97] : List UInt8))), .string (str (([] : List UInt8))), .slice none (0) (0), .string (str (([] : List UInt8))), .slice (as22) (16 - 0) (cs22)] 30, .blk b4 [.int .u8 (1), .string (str (([97] : List UInt8))), .string (str (([] : List UInt8))), .slice (as23) (8 - 0) (cs23), .string (str (([] : List UInt8))), .slice none (0) (0)] 30], M.keep (Gle.refl _) (by simp), fun w h => h.mono (Gle.refl _) (by simp), ?_⟩
      refine pk_free_g F rfl rfl (decide_eq_true (by decide)) (fun w _ => run_not (F.ev rfl)) rfl ?_; clear F a; intro a F
      refine pk_free F (fun w _ => run_pick_t (F.ev rfl) (decide_eq_true (by decide)) (F.ev rfl)) rfl ?_; clear F a; intro a F
      refine pk_free F (fun w _ => run_move (F.ev rfl)) rfl ?_; clear F a; intro a F
      refine pk_keep_g F rfl rfl rfl ?_
      refine rl_guard_t F rfl rfl rfl rfl ?_
      refine rl_callS F ent13 rfl rfl (nlives_spec M) ?_; clear F M a; rintro _ w a M rfl F
      refine rl_nil <| ⟨Keep Gz58 [.blk b53 [.int .u8 (zeroN.kind), .string (str (zeroN.tag)), .string (str (zeroN.key)), .slice (tak52) (zeroN.as.length) (zeroN.as.length), .string (str (zeroN.text)), .slice (kak52) (zeroN.kids.length) (zeroN.kids.length)] 30, .blk b44 [.int .u8 (1), .string (str (([97] : List UInt8))), .string (str (([] : List UInt8))), .slice none (0) (0), .string (str (([] : List UInt8))), .slice (kad) ((knDn 5).kids.length) (kcd)] 30, .row (.slice (av40) (1) (cv40)) (1) ([.int .u8 (2), .string (str (([] : List UInt8))), .string (str (([] : List UInt8))), .slice none (0) (0), .string (str (([] : List UInt8))), .slice none (0) (0)]) 30 6, .blk b24 [.int .u8 (1), .string (str (([97] : List UInt8))), .string (str (([] : List UInt8))), .slice none (0) (0), .string (str (([] : List UInt8))), .slice (av42) ((3 + 12) + 1) (cv42)] 30, .blk b6 [.int .u8 (1), .string (str (([97] : List UInt8))), .string (str (([] : List UInt8))), .slice none (0) (0), .string (str (([] : List UInt8))), .slice (as22) (16 - 0) (cs22)] 30, .blk b4 [.int .u8 (1), .string (str (([97] : List UInt8))), .string (str (([] : List UInt8))), .slice (as23) (8 - 0) (cs23), .string (str (([] : List UInt8))), .slice none (0) (0)] 30], M.keep (Gle.refl _) (by simp), fun w h => h.mono (Gle.refl _) (by simp), ?_⟩
      refine pk_free F (fun w _ => run_pick_t (F.ev rfl) rfl (F.ev rfl)) rfl ?_; clear F a; intro a F
      refine pk_free F (fun w _ => run_assign (F.ev rfl)) rfl ?_; clear F a; intro a F
      refine pk_nil <| q_tn <| wp_ret <| fin1 F rfl rfl ?_
      exact ⟨_, ((((((((((hG8.trans hGz14).trans hG15).trans hGz21).trans hG26).trans hG32).trans hGt39).trans hGz43).trans hG46).trans hGk52).trans hGz58), M.weaken (.cons _ (.cons _ (.cons _ (.cons _ (.cons _ (.cons _ (List.Sublist.refl _))))))), by rfl⟩
theorem nknown_spec {w0 w : World} {G : Ghost} {L : List Res} (M : Mem w0 G L w) : Calls Tryz.prog 10 #[] w (RetS w0 G L fun v => v = .bool true) := Ret.plain M (nknown_ret M)
end Go.Proofs.YtlnehkjmmegkhaaGreat
