/- The walks, part J. -/
import Derived.Test.YtokeofoemjeleaaDoorWalkI
import Derived.Test.YtokeofoemjeleaaDoorKnw
namespace Go.Proofs.YtokeofoemjeleaaDoor
open Go Go.Y Go.Proofs
set_option linter.unusedSimpArgs false
set_option linter.unusedVariables false
theorem known_ret {w0 w : World} {G : Ghost} {L : List Res} (M : Mem w0 G L w) (HG : Globs 0 1 4 5 G)  : Calls Tryd.prog 7 #[] w (Ret w0 G L fun _ v => v = .bool true) := by
  refine calls_start (vs := []) Tryd.func7 rfl (n := 234) rfl rfl ?_
  intro a F
  refine wp_seq ?_
  refine w_reg ?_
  refine rl_run F (run_assign (F.ev rfl)) rfl ?_; clear F a; intro a F
  refine rl_nil ?_
  refine q_tn ?_
  refine wp_seq ?_
  refine w_reg ?_
  refine rl_run F (run_assign (F.ev rfl)) rfl ?_; clear F a; intro a F
  refine rl_nil ?_
  refine q_tn ?_
  refine wp_seq ?_
  refine wp_seq ?_
  refine w_reg ?_
  refine rl_run F (run_assign (F.ev rfl)) rfl ?_; clear F a; intro a F
  refine rl_nil ?_
  refine q_tn ?_
  refine wp_block ?_
  have M := M.nilrow 39 2
  refine w_loopN (fun m a' w' => ∃ (i : Nat), ∃ (ay : Option Addr), ∃ (ny : Nat), ∃ (cy : Nat), ∃ (csy : List Value), m = 257 - i ∧ Fits 234 a' [(1, .slice (ay) (ny) (cy)), (2, .int .i64 (((i + 1 : Nat) : Int)))] ∧ Mem w0 G (.row (.slice (ay) (ny) (cy)) (ny) (csy) 39 2 :: L) w' ∧ (i ≤ 257) ∧ (ny = (hh i).length) ∧ (Els rdPair 2 G csy (hh i))) _ ⟨0, (none), (0), (0), ([]), rfl, F.to ⟨rfl, rfl, trivial⟩, M, Nat.zero_le _, by rw [hh_len], by rw [show hh 0 = [] from rfl]; exact Els.nil⟩ ?_
  clear F M
  rintro m a w ⟨i, ay, ny, cy, csy, rfl, F, M, hi, hny, Ey⟩
  refine wp_seq ?_
  refine wp_seq ?_
  refine w_reg ?_
  refine rl_run F (run_move (F.ev rfl)) rfl ?_; clear F a; intro a F
  refine rl_run F (run_lss (F.ev rfl) (F.ev rfl)) rfl ?_; clear F a; intro a F
  refine rl_nil ?_
  refine q_tn ?_
  refine w_cond F rfl ?_ ?_
  · intro hc
    have h1b := hc; clear hc
    have h1 : ((i + 1 : Nat) : Int) < 258 := of_decide_eq_true h1b
    refine wp_skip ?_
    refine q_tn ?_
    refine wp_seq ?_
    refine wp_block ?_
    refine w_reg ?_
    refine rl_run F (run_move (F.ev rfl)) rfl ?_; clear F a; intro a F
    refine rl_run F (run_move (F.ev rfl)) rfl ?_; clear F a; intro a F
    refine rl_run F (run_conv_int tok37.k ⟨_, by rw [under_int tok3.k]⟩ (F.ev rfl) (in_u64 (by omega) (by omega))) rfl ?_; clear F a; intro a F
    refine rl_run F (run_move (F.ev rfl)) rfl ?_; clear F a; intro a F
    refine rl_run F (run_buildS (cs := [.int .u64 (((i + 1 : Nat) : Int)), .int .i64 (((i + 1 : Nat) : Int))]) (ps := [(0, .int .u64 (((i + 1 : Nat) : Int))), (1, .int .i64 (((i + 1 : Nat) : Int)))]) tok39.k rfl tok39 (F.evp rfl) rfl) rfl ?_; clear F a; intro a F
    refine rl_buildSlice1 F M tok22.k tok39 rfl rfl (cs := [.int .u64 (((i + 1 : Nat) : Int)), .int .i64 (((i + 1 : Nat) : Int))]) rfl rfl (by simp [Value.oneCell']) (by decide) rfl ?_; clear F M a; intro v2 w a M F
    obtain ⟨av2, cv2, rfl, hlev2, hcmv2, hlv2⟩ := M.row_shape (k := 0) rfl
    have E3 : Els rdPair 2 G [.int .u64 (((i + 1 : Nat) : Int)), .int .i64 (((i + 1 : Nat) : Int))] [(⟨((i + 1 : Nat) : Int), ((i + 1 : Nat) : Int)⟩ : PairD)] := Els.one ⟨rfl, (show inKind .u64 ((i + 1 : Nat) : Int) from in_u64 (by omega) (by omega)), (show inKind .i64 ((i + 1 : Nat) : Int) from in_i64 (by omega) (by omega))⟩ rfl
    have hlh := hh_len i
    refine rl_append_row F M (k := 1) (k2 := 0) rfl rfl tok22.k tok39 rfl rfl (by decide) rfl rfl (by show _ * 16 ≤ _; (try simp only [List.length_drop, List.length_take, List.length_append, List.length_cons, List.length_nil]); omega) (by (try simp only [List.length_drop, List.length_take, List.length_append, List.length_cons, List.length_nil]); omega) rfl ?_; clear F M a; intro v4 w a M F
    have Ev4 := Els.append Ey E3
    obtain ⟨av4, cv4, rfl, hlev4, hcmv4, hlv4⟩ := M.row_shape (k := 1) rfl
    refine rl_run F (run_assign (F.ev rfl)) rfl ?_; clear F a; intro a F
    refine rl_nil ?_
    refine q_bn ?_
    refine q_tn ?_
    refine w_reg ?_
    refine rl_run F (run_move (F.ev rfl)) rfl ?_; clear F a; intro a F
    refine rl_run F (run_addi (F.ev rfl) (F.ev rfl) (in_i64 (by omega) (by omega))) rfl ?_; clear F a; intro a F
    refine rl_run F (run_assign (F.ev rfl)) rfl ?_; clear F a; intro a F
    refine rl_nil ?_
    refine q_tn ?_
    exact ⟨_, by omega, i + 1, (av4), (ny + 1), (cv4), (csy ++ ([.int .u64 (((i + 1 : Nat) : Int)), .int .i64 (((i + 1 : Nat) : Int))])), rfl, F.to ⟨rfl, rfl, trivial⟩, (M.weaken (.cons _ (.cons_cons _ (List.Sublist.refl _)))), by omega, by rw [hh_len] at hny ⊢; simp only [List.length_cons, List.length_nil] at *; omega, by rw [hh_snoc]; exact Ev4⟩
  · intro hc
    have h5b := hc; clear hc
    have h5 : ¬ (((i + 1 : Nat) : Int) < 258) := of_decide_eq_false h5b
    refine wp_exit ?_
    refine q_te ?_
    refine q_te ?_
    refine q_bh ?_
    refine q_tn ?_
    refine wp_seq ?_
    obtain ⟨hnz6, Gz6, az6, cz6, hGz6, hez6, Sz6, M⟩ := M.freeze_row mono_rdPair (k := 0) rfl Ey (by decide)
    clear hez6 az6 cz6
    replace HG := HG.mono hGz6
    have hi257 : i = 257 := by omega
    have hn257 : ny = (hh 257).length := by rw [hny, hi257]
    rw [hn257] at F
    have Sz6 : RdSl rdPair 2 Gz6 (.slice ay (hh 257).length cy) (hh 257) := by have h : RdSl rdPair 2 Gz6 (.slice ay ny cy) (hh i) := Sz6; rw [hn257, hi257] at h; exact h
    have hhl := hh_len 257
    have kl1 := kn_len
    have kl2 := kn_al
    have kl3 := kn_bl
    have kl4 := kn_dl
    have ktl := kn_tlen
    refine w_reg ?_
    refine rl_run F (run_move (F.ev rfl)) rfl ?_; clear F a; intro a F
    obtain ⟨as7, cs7, Is7, hms7, hcs7, Ss7⟩ := Sz6.partT (256) (by omega)
    refine rl_run F (run_sliceI tok22.k tok39 Is7 (F.ev rfl) (h := 256) (kl := .i64) (zl := 0) rfl ⟨(F.ev rfl), by omega⟩ (by omega) (by omega)) rfl ?_; clear F a; intro a F
    have hf8 : 256 - 0 = ((hh 257).take (256)).length := kn_len.symm
    rw [hf8] at F Ss7
    refine rl_callS F ent14 rfl rfl (text_spec (xs := (hh 257).take (256)) M HG Ss7 (by first | omega | decide) (by first | omega | decide)) ?_; clear F M a; rintro _ w a M rfl F
    have hq9 : (if (checkF ((hh 257).take (256)) 1).2 = 0 then textF ((hh 257).take (256)) else []) = textF ((hh 257).take (256)) ∧ (checkF ((hh 257).take (256)) 1).2 = 0 := ⟨by rw [kn_c0]; exact if_pos rfl, by rw [kn_c0]⟩
    rw [hq9.1, hq9.2] at F
    refine rl_run F (run_move (F.ev rfl)) rfl ?_; clear F a; intro a F
    refine rl_run F (run_extract (v := .string (str (textF ((hh 257).take (256))))) (F.ev rfl) rfl) rfl ?_; clear F a; intro a F
    refine rl_run F (run_extract (v := .int .i64 (0)) (F.ev rfl) rfl) rfl ?_; clear F a; intro a F
    refine rl_run F (run_assign (F.ev rfl)) rfl ?_; clear F a; intro a F
    refine rl_run F (run_assign (F.ev rfl)) rfl ?_; clear F a; intro a F
    refine rl_nil ?_
    refine q_tn ?_
    refine wp_seq ?_
    refine w_reg ?_
    refine rl_run F (run_move (F.ev rfl)) rfl ?_; clear F a; intro a F
    refine rl_call F ent18 rfl rfl (parse_spec (s := (textF ((hh 257).take (256)))) M HG (by first | omega | (simp only [List.length_append, List.length_cons, List.length_nil]; omega) | (rw [List.length_replicate]; omega) | decide)) ?_; clear F M a; rintro _ Gp10 w a hGp10 M ⟨ap10, rfl, Sp10⟩ F
    replace HG := HG.mono hGp10
    replace Sz6 := Sz6.mono mono_rdPair hGp10
    replace Ss7 := Ss7.mono mono_rdPair hGp10
    have hq11 : parseF (textF ((hh 257).take (256))) = ((hh 257).take (256), 0, 0) := kn_p0
    rw [hq11] at F Sp10
    refine rl_run F (run_move (F.ev rfl)) rfl ?_; clear F a; intro a F
    refine rl_run F (run_extract (v := .slice (ap10) (((hh 257).take (256)).length) (((hh 257).take (256)).length)) (F.ev rfl) rfl) rfl ?_; clear F a; intro a F
    refine rl_run F (run_extract (v := .int .i64 (0)) (F.ev rfl) rfl) rfl ?_; clear F a; intro a F
    refine rl_run F (run_extract (v := .int .i64 (0)) (F.ev rfl) rfl) rfl ?_; clear F a; intro a F
    refine rl_run F (run_assign (F.ev rfl)) rfl ?_; clear F a; intro a F
    refine rl_run F (run_assign (F.ev rfl)) rfl ?_; clear F a; intro a F
    refine rl_run F (run_assign (F.ev rfl)) rfl ?_; clear F a; intro a F
    refine rl_nil ?_
    refine q_tn ?_
    refine wp_seq ?_
    refine w_reg ?_
    refine rl_run F (run_move (F.ev rfl)) rfl ?_; clear F a; intro a F
    refine rl_run F (run_strAdd (F.ev rfl) (F.ev rfl) (by (try simp only [List.length_append, List.length_cons, List.length_nil]); omega)) rfl ?_; clear F a; intro a F
    refine rl_call F ent18 rfl rfl (parse_spec (s := ((textF ((hh 257).take (256))) ++ ([50, 53, 55, 32, 49, 10] : List UInt8))) M HG (by first | omega | (simp only [List.length_append, List.length_cons, List.length_nil]; omega) | (rw [List.length_replicate]; omega) | decide)) ?_; clear F M a; rintro _ Gp12 w a hGp12 M ⟨ap12, rfl, Sp12⟩ F
    replace HG := HG.mono hGp12
    replace Sz6 := Sz6.mono mono_rdPair hGp12
    replace Ss7 := Ss7.mono mono_rdPair hGp12
    replace Sp10 := Sp10.mono mono_rdPair hGp12
    have hq13 : parseF ((textF ((hh 257).take (256))) ++ ([50, 53, 55, 32, 49, 10] : List UInt8)) = (([] : List PairD), 257, 3) := kn_p1
    rw [hq13] at F Sp12
    refine rl_run F (run_move (F.ev rfl)) rfl ?_; clear F a; intro a F
    refine rl_run F (run_extract (v := .slice (ap12) ((([] : List PairD)).length) ((([] : List PairD)).length)) (F.ev rfl) rfl) rfl ?_; clear F a; intro a F
    refine rl_run F (run_extract (v := .int .i64 (257)) (F.ev rfl) rfl) rfl ?_; clear F a; intro a F
    refine rl_run F (run_extract (v := .int .i64 (3)) (F.ev rfl) rfl) rfl ?_; clear F a; intro a F
    refine rl_run F (run_assign (F.ev rfl)) rfl ?_; clear F a; intro a F
    refine rl_run F (run_assign (F.ev rfl)) rfl ?_; clear F a; intro a F
    refine rl_run F (run_assign (F.ev rfl)) rfl ?_; clear F a; intro a F
    refine rl_nil ?_
    refine q_tn ?_
    refine wp_seq ?_
    refine w_reg ?_
    refine rl_run F (run_move (F.ev rfl)) rfl ?_; clear F a; intro a F
    refine rl_run F (run_strAdd (F.ev rfl) (F.ev rfl) (by (try simp only [List.length_append, List.length_cons, List.length_nil]); omega)) rfl ?_; clear F a; intro a F
    refine rl_call F ent18 rfl rfl (parse_spec (s := ((textF ((hh 257).take (256))) ++ ([49, 32, 49, 32, 49, 10] : List UInt8))) M HG (by first | omega | (simp only [List.length_append, List.length_cons, List.length_nil]; omega) | (rw [List.length_replicate]; omega) | decide)) ?_; clear F M a; rintro _ Gp14 w a hGp14 M ⟨ap14, rfl, Sp14⟩ F
    replace HG := HG.mono hGp14
    replace Sz6 := Sz6.mono mono_rdPair hGp14
    replace Ss7 := Ss7.mono mono_rdPair hGp14
    replace Sp10 := Sp10.mono mono_rdPair hGp14
    replace Sp12 := Sp12.mono mono_rdPair hGp14
    have hq15 : parseF ((textF ((hh 257).take (256))) ++ ([49, 32, 49, 32, 49, 10] : List UInt8)) = (([] : List PairD), 257, 5) := kn_p2
    rw [hq15] at F Sp14
    refine rl_run F (run_move (F.ev rfl)) rfl ?_; clear F a; intro a F
    refine rl_run F (run_extract (v := .slice (ap14) ((([] : List PairD)).length) ((([] : List PairD)).length)) (F.ev rfl) rfl) rfl ?_; clear F a; intro a F
    refine rl_run F (run_extract (v := .int .i64 (257)) (F.ev rfl) rfl) rfl ?_; clear F a; intro a F
    refine rl_run F (run_extract (v := .int .i64 (5)) (F.ev rfl) rfl) rfl ?_; clear F a; intro a F
    refine rl_run F (run_assign (F.ev rfl)) rfl ?_; clear F a; intro a F
    refine rl_run F (run_assign (F.ev rfl)) rfl ?_; clear F a; intro a F
    refine rl_run F (run_assign (F.ev rfl)) rfl ?_; clear F a; intro a F
    refine rl_nil ?_
    refine q_tn ?_
    refine wp_seq ?_
    refine w_reg ?_
    refine rl_run F (run_move (F.ev rfl)) rfl ?_; clear F a; intro a F
    refine rl_run F (run_strAdd (F.ev rfl) (F.ev rfl) (by (try simp only [List.length_append, List.length_cons, List.length_nil]); omega)) rfl ?_; clear F a; intro a F
    refine rl_call F ent18 rfl rfl (parse_spec (s := ((textF ((hh 257).take (256))) ++ ([49, 32, 49, 10] : List UInt8))) M HG (by first | omega | (simp only [List.length_append, List.length_cons, List.length_nil]; omega) | (rw [List.length_replicate]; omega) | decide)) ?_; clear F M a; rintro _ Gp16 w a hGp16 M ⟨ap16, rfl, Sp16⟩ F
    replace HG := HG.mono hGp16
    replace Sz6 := Sz6.mono mono_rdPair hGp16
    replace Ss7 := Ss7.mono mono_rdPair hGp16
    replace Sp10 := Sp10.mono mono_rdPair hGp16
    replace Sp12 := Sp12.mono mono_rdPair hGp16
    replace Sp14 := Sp14.mono mono_rdPair hGp16
    have hq17 : parseF ((textF ((hh 257).take (256))) ++ ([49, 32, 49, 10] : List UInt8)) = (([] : List PairD), 257, 3) := kn_p3
    rw [hq17] at F Sp16
    refine rl_run F (run_move (F.ev rfl)) rfl ?_; clear F a; intro a F
    refine rl_run F (run_extract (v := .slice (ap16) ((([] : List PairD)).length) ((([] : List PairD)).length)) (F.ev rfl) rfl) rfl ?_; clear F a; intro a F
    refine rl_run F (run_extract (v := .int .i64 (257)) (F.ev rfl) rfl) rfl ?_; clear F a; intro a F
    refine rl_run F (run_extract (v := .int .i64 (3)) (F.ev rfl) rfl) rfl ?_; clear F a; intro a F
    refine rl_run F (run_assign (F.ev rfl)) rfl ?_; clear F a; intro a F
    refine rl_run F (run_assign (F.ev rfl)) rfl ?_; clear F a; intro a F
    refine rl_run F (run_assign (F.ev rfl)) rfl ?_; clear F a; intro a F
    refine rl_nil ?_
    refine q_tn ?_
    refine wp_seq ?_
    refine wp_seq ?_
    refine w_reg ?_
    refine rl_run F (run_move (F.ev rfl)) rfl ?_; clear F a; intro a F
    refine rl_callS F ent12 rfl rfl (checked_spec (xs := hh 257) (least := 1) (at' := 0) (e' := 3) M Sz6 (by first | omega | decide) (by exact kn_c3)) ?_; clear F M a; rintro _ w a M rfl F
    refine rl_run F (run_not (F.ev rfl)) rfl ?_; clear F a; intro a F
    refine rl_run F (run_move (F.ev rfl)) rfl ?_; clear F a; intro a F
    refine rl_guard_t F rfl rfl rfl rfl ?_
    refine rl_run F (run_move (F.ev rfl)) rfl ?_; clear F a; intro a F
    refine rl_guard_t F rfl rfl rfl rfl ?_
    obtain ⟨as18, cs18, Is18, hms18, hcs18, Ss18⟩ := Sz6.partT (256) (by omega)
    refine rl_run F (run_sliceI tok22.k tok39 Is18 (F.ev rfl) (h := 256) (kl := .i64) (zl := 0) rfl ⟨(F.ev rfl), by omega⟩ (by omega) (by omega)) rfl ?_; clear F a; intro a F
    have hf19 : 256 - 0 = ((hh 257).take (256)).length := kn_len.symm
    rw [hf19] at F Ss18
    refine rl_guard_t F rfl rfl rfl rfl ?_
    refine rl_callS F ent12 rfl rfl (checked_spec (xs := (hh 257).take (256)) (least := 1) (at' := 0) (e' := 0) M Ss18 (by first | omega | decide) (by exact kn_c0)) ?_; clear F M a; rintro _ w a M rfl F
    refine rl_guard_t F rfl rfl rfl rfl ?_
    refine rl_run F (run_not (F.ev rfl)) rfl ?_; clear F a; intro a F
    refine rl_run F (run_pick_f (F.ev rfl) rfl (F.ev rfl)) rfl ?_; clear F a; intro a F
    refine rl_run F (run_move (F.ev rfl)) rfl ?_; clear F a; intro a F
    refine rl_guard_t F rfl rfl rfl rfl ?_
    refine rl_run F (run_move (F.ev rfl)) rfl ?_; clear F a; intro a F
    refine rl_guard_t F rfl rfl rfl rfl ?_
    obtain ⟨as20, cs20, Is20, hms20, hcs20, Ss20⟩ := Sz6.partT (256) (by omega)
    refine rl_run F (run_sliceI tok22.k tok39 Is20 (F.ev rfl) (h := 256) (kl := .i64) (zl := 0) rfl ⟨(F.ev rfl), by omega⟩ (by omega) (by omega)) rfl ?_; clear F a; intro a F
    have hf21 : 256 - 0 = ((hh 257).take (256)).length := kn_len.symm
    rw [hf21] at F Ss20
    refine rl_guard_t F rfl rfl rfl rfl ?_
    refine rl_callS F ent12 rfl rfl (checked_spec (xs := (hh 257).take (256)) (least := 200) (at' := 0) (e' := 12) M Ss20 (by first | omega | decide) (by exact kn_c200)) ?_; clear F M a; rintro _ w a M rfl F
    refine rl_guard_t F rfl rfl rfl rfl ?_
    refine rl_run F (run_not (F.ev rfl)) rfl ?_; clear F a; intro a F
    refine rl_run F (run_pick_f (F.ev rfl) rfl (F.ev rfl)) rfl ?_; clear F a; intro a F
    refine rl_run F (run_move (F.ev rfl)) rfl ?_; clear F a; intro a F
    refine rl_guard_t F rfl rfl rfl rfl ?_
    refine rl_run F (run_move (F.ev rfl)) rfl ?_; clear F a; intro a F
    refine rl_guard_t F rfl rfl rfl rfl ?_
    refine rl_run F (run_move (F.ev rfl)) rfl ?_; clear F a; intro a F
    refine rl_guard_t F rfl rfl rfl rfl ?_
    refine rl_run F (run_addi (F.ev rfl) (F.ev rfl) (in_i64 (by omega) (by omega))) rfl ?_; clear F a; intro a F
    refine rl_guard_t F rfl rfl rfl rfl ?_
    refine rl_run F (run_nei (F.ev rfl) (F.ev rfl)) rfl ?_; clear F a; intro a F
    refine rl_run F (run_pick_f (F.ev rfl) rfl (F.ev rfl)) rfl ?_; clear F a; intro a F
    refine rl_run F (run_move (F.ev rfl)) rfl ?_; clear F a; intro a F
    have hg22 : (!(decide (0 + 0 = 0))) = false := (not_f (decide_eq_true (by rfl)))
    refine rl_guard_t F rfl rfl rfl hg22 ?_
    refine rl_run F (run_move (F.ev rfl)) rfl ?_; clear F a; intro a F
    refine rl_guard_t F rfl rfl rfl hg22 ?_
    refine rl_run F (run_nei (F.ev rfl) (F.ev rfl)) rfl ?_; clear F a; intro a F
    refine rl_run F (run_pick_f (F.ev rfl) hg22 (F.ev rfl)) rfl ?_; clear F a; intro a F
    refine rl_run F (run_move (F.ev rfl)) rfl ?_; clear F a; intro a F
    refine rl_guard_t F rfl rfl rfl (not_f (decide_eq_true (by decide))) ?_
    refine rl_run F (run_move (F.ev rfl)) rfl ?_; clear F a; intro a F
    refine rl_guard_t F rfl rfl rfl (not_f (decide_eq_true (by decide))) ?_
    refine rl_run F (run_move (F.ev rfl)) rfl ?_; clear F a; intro a F
    refine rl_guard_t F rfl rfl rfl (not_f (decide_eq_true (by decide))) ?_
    have sb24 := Sz6.bound
    refine rl_run F (run_slice3 (h := ((hh 257).take (256)).length) (q := ((hh 257).take (256)).length) tok22.k tok39 (F.ev rfl) (F.ev rfl) (by rw [kn_len]; rfl) (F.ev rfl) (by rw [kn_len]; rfl) (Nat.le_refl _) (by omega)) rfl ?_; clear F a; intro a F
    have S23 := Sz6.head3 256 (by omega) (by omega)
    refine rl_guard_t F rfl rfl rfl (not_f (decide_eq_true (by decide))) ?_
    refine rl_callS F ent15 rfl rfl (same_spec (xs := (hh 257).take (256)) M Sp10 S23 (by first | omega | decide)) ?_; clear F M a; rintro _ w a M rfl F
    refine rl_guard_t F rfl rfl rfl (not_f (decide_eq_true (by decide))) ?_
    refine rl_run F (run_not (F.ev rfl)) rfl ?_; clear F a; intro a F
    refine rl_run F (run_pick_f (F.ev rfl) (not_f (decide_eq_true (by decide))) (F.ev rfl)) rfl ?_; clear F a; intro a F
    refine rl_run F (run_move (F.ev rfl)) rfl ?_; clear F a; intro a F
    refine rl_guard_t F rfl rfl rfl rfl ?_
    refine rl_run F (run_move (F.ev rfl)) rfl ?_; clear F a; intro a F
    refine rl_guard_t F rfl rfl rfl rfl ?_
    refine rl_run F (run_nei (F.ev rfl) (F.ev rfl)) rfl ?_; clear F a; intro a F
    refine rl_run F (run_pick_f (F.ev rfl) rfl (F.ev rfl)) rfl ?_; clear F a; intro a F
    refine rl_run F (run_move (F.ev rfl)) rfl ?_; clear F a; intro a F
    refine rl_guard_t F rfl rfl rfl (not_f (decide_eq_true (by decide))) ?_
    refine rl_run F (run_move (F.ev rfl)) rfl ?_; clear F a; intro a F
    refine rl_guard_t F rfl rfl rfl (not_f (decide_eq_true (by decide))) ?_
    refine rl_run F (run_nei (F.ev rfl) (F.ev rfl)) rfl ?_; clear F a; intro a F
    refine rl_run F (run_pick_f (F.ev rfl) (not_f (decide_eq_true (by decide))) (F.ev rfl)) rfl ?_; clear F a; intro a F
    refine rl_run F (run_move (F.ev rfl)) rfl ?_; clear F a; intro a F
    refine rl_guard_t F rfl rfl rfl (not_f (decide_eq_true (by decide))) ?_
    refine rl_run F (run_move (F.ev rfl)) rfl ?_; clear F a; intro a F
    refine rl_guard_t F rfl rfl rfl (not_f (decide_eq_true (by decide))) ?_
    refine rl_run F (run_nei (F.ev rfl) (F.ev rfl)) rfl ?_; clear F a; intro a F
    refine rl_run F (run_pick_f (F.ev rfl) (not_f (decide_eq_true (by decide))) (F.ev rfl)) rfl ?_; clear F a; intro a F
    refine rl_run F (run_move (F.ev rfl)) rfl ?_; clear F a; intro a F
    refine rl_guard_t F rfl rfl rfl (not_f (decide_eq_true (by decide))) ?_
    refine rl_run F (run_move (F.ev rfl)) rfl ?_; clear F a; intro a F
    refine rl_guard_t F rfl rfl rfl (not_f (decide_eq_true (by decide))) ?_
    refine rl_run F (run_nei (F.ev rfl) (F.ev rfl)) rfl ?_; clear F a; intro a F
    refine rl_run F (run_pick_f (F.ev rfl) (not_f (decide_eq_true (by decide))) (F.ev rfl)) rfl ?_; clear F a; intro a F
    refine rl_run F (run_move (F.ev rfl)) rfl ?_; clear F a; intro a F
    refine rl_guard_t F rfl rfl rfl (not_f (decide_eq_true (by decide))) ?_
    refine rl_run F (run_move (F.ev rfl)) rfl ?_; clear F a; intro a F
    refine rl_guard_t F rfl rfl rfl (not_f (decide_eq_true (by decide))) ?_
    refine rl_run F (run_nei (F.ev rfl) (F.ev rfl)) rfl ?_; clear F a; intro a F
    refine rl_run F (run_pick_f (F.ev rfl) (not_f (decide_eq_true (by decide))) (F.ev rfl)) rfl ?_; clear F a; intro a F
    refine rl_run F (run_move (F.ev rfl)) rfl ?_; clear F a; intro a F
    refine rl_guard_t F rfl rfl rfl (not_f (decide_eq_true (by decide))) ?_
    refine rl_run F (run_move (F.ev rfl)) rfl ?_; clear F a; intro a F
    refine rl_guard_t F rfl rfl rfl (not_f (decide_eq_true (by decide))) ?_
    refine rl_run F (run_nei (F.ev rfl) (F.ev rfl)) rfl ?_; clear F a; intro a F
    refine rl_run F (run_pick_f (F.ev rfl) (not_f (decide_eq_true (by decide))) (F.ev rfl)) rfl ?_; clear F a; intro a F
    refine rl_nil ?_
    refine q_tn ?_
    refine w_cond_f F rfl (not_f (decide_eq_true (by decide))) ?_
    refine wp_skip ?_
    refine q_tn ?_
    refine wp_seq ?_
    refine w_plan [(true, 0), (true, 1), (true, 2), (true, 3), (false, 4), (true, 5), (true, 6), (true, 7), (true, 8)] (Keep Gp16 []) rfl (by kernel_rfl) (fun c a d v w h => by cases d <;> exact h) ((M.drew _).keep (Gle.refl _) (by simp)) ?_
    replace M := M.drew (w.drawn + 1)
    refine pl_run F (fun w M => run_move (F.ev rfl)) rfl ?_; clear F a; intro a F
    obtain ⟨as25, cs25, Is25, hms25, hcs25, Ss25⟩ := Sz6.partT (200) (by omega)
    refine pl_run F (fun w M => run_sliceI tok22.k tok39 Is25 (F.ev rfl) (h := 200) (kl := .i64) (zl := 0) rfl ⟨(F.ev rfl), by omega⟩ (by omega) (by omega)) rfl ?_; clear F a; intro a F
    refine pl_run F (fun w M => run_move (F.ev rfl)) rfl ?_; clear F a; intro a F
    obtain ⟨as26, cs26, Is26, hms26, hcs26, Ss26⟩ := Sz6.part (1) (257) (by omega) (by omega)
    refine pl_run F (fun w M => run_sliceI tok22.k tok39 Is26 (F.ev rfl) (h := 257) ⟨(F.ev rfl), by omega⟩ ⟨(F.ev rfl), by omega⟩ (by omega) (by omega)) rfl ?_; clear F a; intro a F
    have hf27 : 200 - 0 = ((hh 257).take (200)).length := kn_al.symm
    rw [hf27] at F Ss25
    have hf28 : 257 - 1 = (((hh 257).take (257)).drop (1)).length := kn_bl.symm
    rw [hf28] at F Ss26
    refine pl_act ?_ rfl
    refine rl_call F ent13 rfl rfl (merge_spec (xs := (hh 257).take (200)) (ys := ((hh 257).take (257)).drop (1)) (least := 1) M Ss25 (by first | omega | decide) Ss26 (by first | omega | decide)) ?_; clear F M a; rintro _ Gm29 w a hGm29 M ⟨am29, rfl, Sm29⟩ F
    replace HG := HG.mono hGm29
    replace Sz6 := Sz6.mono mono_rdPair hGm29
    replace Ss7 := Ss7.mono mono_rdPair hGm29
    replace Sp10 := Sp10.mono mono_rdPair hGm29
    replace Sp12 := Sp12.mono mono_rdPair hGm29
    replace Sp14 := Sp14.mono mono_rdPair hGm29
    replace Sp16 := Sp16.mono mono_rdPair hGm29
    replace Ss18 := Ss18.mono mono_rdPair hGm29
    replace Ss20 := Ss20.mono mono_rdPair hGm29
    replace S23 := S23.mono mono_rdPair hGm29
    replace Ss25 := Ss25.mono mono_rdPair hGm29
    replace Ss26 := Ss26.mono mono_rdPair hGm29
    have hqm29 := (kn_m1 : mergeR ((hh 257).take (200)) (((hh 257).take (257)).drop (1)) 1 = [] ∧ mergeE ((hh 257).take (200)) (((hh 257).take (257)).drop (1)) 1 = 3)
    rw [hqm29.1] at F Sm29
    rw [hqm29.2] at F
    refine rl_nil ?_
    refine ⟨Keep Gm29 [], M.keep (Gle.refl _) (by simp), fun w h => h.mono hGm29 (by simp), ?_⟩
    refine pl_run F (fun w M => run_move (F.ev rfl)) rfl ?_; clear F a; intro a F
    refine pl_run F (fun w M => run_extract (v := .slice (am29) ((([] : List PairD)).length) ((([] : List PairD)).length)) (F.ev rfl) rfl) rfl ?_; clear F a; intro a F
    refine pl_run F (fun w M => run_extract (v := .int .i64 (3)) (F.ev rfl) rfl) rfl ?_; clear F a; intro a F
    refine pl_run F (fun w M => run_assign (F.ev rfl)) rfl ?_; clear F a; intro a F
    refine pl_nil ?_
    refine q_tn ?_
    refine wp_seq ?_
    refine w_plan [(true, 0), (true, 1), (true, 2), (true, 3), (false, 4), (true, 5), (true, 6), (true, 7), (true, 8), (true, 9)] (Keep Gm29 []) rfl (by kernel_rfl) (fun c a d v w h => by cases d <;> exact h) ((M.drew _).keep (Gle.refl _) (by simp)) ?_
    replace M := M.drew (w.drawn + 1)
    refine pl_run F (fun w M => run_move (F.ev rfl)) rfl ?_; clear F a; intro a F
    obtain ⟨as30, cs30, Is30, hms30, hcs30, Ss30⟩ := Sz6.partT (200) (by omega)
    refine pl_run F (fun w M => run_sliceI tok22.k tok39 Is30 (F.ev rfl) (h := 200) (kl := .i64) (zl := 0) rfl ⟨(F.ev rfl), by omega⟩ (by omega) (by omega)) rfl ?_; clear F a; intro a F
    refine pl_run F (fun w M => run_move (F.ev rfl)) rfl ?_; clear F a; intro a F
    obtain ⟨as31, cs31, Is31, hms31, hcs31, Ss31⟩ := Sz6.part (100) (256) (by omega) (by omega)
    refine pl_run F (fun w M => run_sliceI tok22.k tok39 Is31 (F.ev rfl) (h := 256) ⟨(F.ev rfl), by omega⟩ ⟨(F.ev rfl), by omega⟩ (by omega) (by omega)) rfl ?_; clear F a; intro a F
    have hf32 : 200 - 0 = ((hh 257).take (200)).length := kn_al.symm
    rw [hf32] at F Ss30
    have hf33 : 256 - 100 = (((hh 257).take (256)).drop (100)).length := kn_dl.symm
    rw [hf33] at F Ss31
    refine pl_act ?_ rfl
    refine rl_call F ent13 rfl rfl (merge_spec (xs := (hh 257).take (200)) (ys := ((hh 257).take (256)).drop (100)) (least := 1) M Ss30 (by first | omega | decide) Ss31 (by first | omega | decide)) ?_; clear F M a; rintro _ Gm34 w a hGm34 M ⟨am34, rfl, Sm34⟩ F
    replace HG := HG.mono hGm34
    replace Sz6 := Sz6.mono mono_rdPair hGm34
    replace Ss7 := Ss7.mono mono_rdPair hGm34
    replace Sp10 := Sp10.mono mono_rdPair hGm34
    replace Sp12 := Sp12.mono mono_rdPair hGm34
    replace Sp14 := Sp14.mono mono_rdPair hGm34
    replace Sp16 := Sp16.mono mono_rdPair hGm34
    replace Ss18 := Ss18.mono mono_rdPair hGm34
    replace Ss20 := Ss20.mono mono_rdPair hGm34
    replace S23 := S23.mono mono_rdPair hGm34
    replace Ss25 := Ss25.mono mono_rdPair hGm34
    replace Ss26 := Ss26.mono mono_rdPair hGm34
    replace Sm29 := Sm29.mono mono_rdPair hGm34
    replace Ss30 := Ss30.mono mono_rdPair hGm34
    replace Ss31 := Ss31.mono mono_rdPair hGm34
    have hqm34 := (kn_m2 : mergeR ((hh 257).take (200)) (((hh 257).take (256)).drop (100)) 1 = mergeF ((hh 257).take (200)) (((hh 257).take (256)).drop (100)) ∧ mergeE ((hh 257).take (200)) (((hh 257).take (256)).drop (100)) 1 = 0)
    rw [hqm34.1] at F Sm34
    rw [hqm34.2] at F
    refine rl_nil ?_
    refine ⟨Keep Gm34 [], M.keep (Gle.refl _) (by simp), fun w h => h.mono hGm34 (by simp), ?_⟩
    refine pl_run F (fun w M => run_move (F.ev rfl)) rfl ?_; clear F a; intro a F
    refine pl_run F (fun w M => run_extract (v := .slice (am34) ((mergeF ((hh 257).take (200)) (((hh 257).take (256)).drop (100))).length) ((mergeF ((hh 257).take (200)) (((hh 257).take (256)).drop (100))).length)) (F.ev rfl) rfl) rfl ?_; clear F a; intro a F
    refine pl_run F (fun w M => run_extract (v := .int .i64 (0)) (F.ev rfl) rfl) rfl ?_; clear F a; intro a F
    refine pl_run F (fun w M => run_assign (F.ev rfl)) rfl ?_; clear F a; intro a F
    refine pl_run F (fun w M => run_assign (F.ev rfl)) rfl ?_; clear F a; intro a F
    refine pl_nil ?_
    refine q_tn ?_
    refine wp_seq ?_
    refine w_reg ?_
    refine rl_run F (run_buildS (cs := [.int .u64 (18446744073709551615), .int .i64 (2305843009213693952)]) (ps := [(0, .int .u64 (18446744073709551615)), (1, .int .i64 (2305843009213693952))]) tok39.k rfl tok39 (F.evp rfl) rfl) rfl ?_; clear F a; intro a F
    refine rl_buildSlice1 F M tok22.k tok39 rfl rfl (cs := [.int .u64 (18446744073709551615), .int .i64 (2305843009213693952)]) rfl rfl (by simp [Value.oneCell']) (by decide) rfl ?_; clear F M a; intro v35 w a M F
    obtain ⟨av35, cv35, rfl, hlev35, hcmv35, hlv35⟩ := M.row_shape (k := 0) rfl
    refine rl_run F (run_assign (F.ev rfl)) rfl ?_; clear F a; intro a F
    refine rl_nil ?_
    refine q_tn ?_
    refine wp_seq ?_
    have E36 : Els rdPair 2 Gm34 [.int .u64 (18446744073709551615), .int .i64 (2305843009213693952)] [(⟨18446744073709551615, 2305843009213693952⟩ : PairD)] := Els.one ⟨rfl, in_u64 (by decide) (by decide), in_i64 (by decide) (by decide)⟩ rfl
    obtain ⟨hnz37, Gz37, az37, cz37, hGz37, hez37, Sz37, M⟩ := M.freeze_row mono_rdPair (k := 0) rfl E36 (by decide)
    clear hez37 az37 cz37
    replace HG := HG.mono hGz37
    replace Sz6 := Sz6.mono mono_rdPair hGz37
    replace Ss7 := Ss7.mono mono_rdPair hGz37
    replace Sp10 := Sp10.mono mono_rdPair hGz37
    replace Sp12 := Sp12.mono mono_rdPair hGz37
    replace Sp14 := Sp14.mono mono_rdPair hGz37
    replace Sp16 := Sp16.mono mono_rdPair hGz37
    replace Ss18 := Ss18.mono mono_rdPair hGz37
    replace Ss20 := Ss20.mono mono_rdPair hGz37
    replace S23 := S23.mono mono_rdPair hGz37
    replace Ss25 := Ss25.mono mono_rdPair hGz37
    replace Ss26 := Ss26.mono mono_rdPair hGz37
    replace Sm29 := Sm29.mono mono_rdPair hGz37
    replace Ss30 := Ss30.mono mono_rdPair hGz37
    replace Ss31 := Ss31.mono mono_rdPair hGz37
    replace Sm34 := Sm34.mono mono_rdPair hGz37
    clear hnz37
    replace Sz37 : RdSl rdPair 2 Gz37 (.slice av35 gt1.length cv35) gt1 := Sz37
    refine w_reg ?_
    refine rl_run F (run_move (F.ev rfl)) rfl ?_; clear F a; intro a F
    refine rl_callS F ent14 rfl rfl (text_spec (xs := gt1) M HG Sz37 (by first | omega | decide) (by first | omega | decide)) ?_; clear F M a; rintro _ w a M rfl F
    have hq38 : (if (checkF gt1 1).2 = 0 then textF gt1 else []) = ([49, 56, 52, 52, 54, 55, 52, 52, 48, 55, 51, 55, 48, 57, 53, 53, 49, 54, 49, 53, 32, 50, 51, 48, 53, 56, 52, 51, 48, 48, 57, 50, 49, 51, 54, 57, 51, 57, 53, 50, 10] : List UInt8) ∧ (checkF gt1 1).2 = 0 := kn_gt
    rw [hq38.1, hq38.2] at F
    refine rl_run F (run_move (F.ev rfl)) rfl ?_; clear F a; intro a F
    refine rl_run F (run_extract (v := .string (str (([49, 56, 52, 52, 54, 55, 52, 52, 48, 55, 51, 55, 48, 57, 53, 53, 49, 54, 49, 53, 32, 50, 51, 48, 53, 56, 52, 51, 48, 48, 57, 50, 49, 51, 54, 57, 51, 57, 53, 50, 10] : List UInt8)))) (F.ev rfl) rfl) rfl ?_; clear F a; intro a F
    refine rl_run F (run_extract (v := .int .i64 (0)) (F.ev rfl) rfl) rfl ?_; clear F a; intro a F
    refine rl_run F (run_assign (F.ev rfl)) rfl ?_; clear F a; intro a F
    refine rl_run F (run_assign (F.ev rfl)) rfl ?_; clear F a; intro a F
    refine rl_nil ?_
    refine q_tn ?_
    refine wp_seq ?_
    refine w_reg ?_
    refine rl_call F ent18 rfl rfl (parse_spec (s := ([49, 56, 52, 52, 54, 55, 52, 52, 48, 55, 51, 55, 48, 57, 53, 53, 49, 54, 49, 54, 32, 49, 10] : List UInt8)) M HG (by first | omega | (simp only [List.length_append, List.length_cons, List.length_nil]; omega) | (rw [List.length_replicate]; omega) | decide)) ?_; clear F M a; rintro _ Gp39 w a hGp39 M ⟨ap39, rfl, Sp39⟩ F
    replace HG := HG.mono hGp39
    replace Sz6 := Sz6.mono mono_rdPair hGp39
    replace Ss7 := Ss7.mono mono_rdPair hGp39
    replace Sp10 := Sp10.mono mono_rdPair hGp39
    replace Sp12 := Sp12.mono mono_rdPair hGp39
    replace Sp14 := Sp14.mono mono_rdPair hGp39
    replace Sp16 := Sp16.mono mono_rdPair hGp39
    replace Ss18 := Ss18.mono mono_rdPair hGp39
    replace Ss20 := Ss20.mono mono_rdPair hGp39
    replace S23 := S23.mono mono_rdPair hGp39
    replace Ss25 := Ss25.mono mono_rdPair hGp39
    replace Ss26 := Ss26.mono mono_rdPair hGp39
    replace Sm29 := Sm29.mono mono_rdPair hGp39
    replace Ss30 := Ss30.mono mono_rdPair hGp39
    replace Ss31 := Ss31.mono mono_rdPair hGp39
    replace Sm34 := Sm34.mono mono_rdPair hGp39
    replace Sz37 := Sz37.mono mono_rdPair hGp39
    have hq40 : parseF ([49, 56, 52, 52, 54, 55, 52, 52, 48, 55, 51, 55, 48, 57, 53, 53, 49, 54, 49, 54, 32, 49, 10] : List UInt8) = (([] : List PairD), 1, 5) := by kernel_rfl
    rw [hq40] at F Sp39
    refine rl_run F (run_move (F.ev rfl)) rfl ?_; clear F a; intro a F
    refine rl_run F (run_extract (v := .slice (ap39) ((([] : List PairD)).length) ((([] : List PairD)).length)) (F.ev rfl) rfl) rfl ?_; clear F a; intro a F
    refine rl_run F (run_extract (v := .int .i64 (1)) (F.ev rfl) rfl) rfl ?_; clear F a; intro a F
    refine rl_run F (run_extract (v := .int .i64 (5)) (F.ev rfl) rfl) rfl ?_; clear F a; intro a F
    refine rl_run F (run_assign (F.ev rfl)) rfl ?_; clear F a; intro a F
    refine rl_run F (run_assign (F.ev rfl)) rfl ?_; clear F a; intro a F
    refine rl_nil ?_
    refine q_tn ?_
    refine wp_seq ?_
    refine w_reg ?_
    refine rl_call F ent18 rfl rfl (parse_spec (s := ([49, 32, 50, 51, 48, 53, 56, 52, 51, 48, 48, 57, 50, 49, 51, 54, 57, 51, 57, 53, 51, 10] : List UInt8)) M HG (by first | omega | (simp only [List.length_append, List.length_cons, List.length_nil]; omega) | (rw [List.length_replicate]; omega) | decide)) ?_; clear F M a; rintro _ Gp41 w a hGp41 M ⟨ap41, rfl, Sp41⟩ F
    replace HG := HG.mono hGp41
    replace Sz6 := Sz6.mono mono_rdPair hGp41
    replace Ss7 := Ss7.mono mono_rdPair hGp41
    replace Sp10 := Sp10.mono mono_rdPair hGp41
    replace Sp12 := Sp12.mono mono_rdPair hGp41
    replace Sp14 := Sp14.mono mono_rdPair hGp41
    replace Sp16 := Sp16.mono mono_rdPair hGp41
    replace Ss18 := Ss18.mono mono_rdPair hGp41
    replace Ss20 := Ss20.mono mono_rdPair hGp41
    replace S23 := S23.mono mono_rdPair hGp41
    replace Ss25 := Ss25.mono mono_rdPair hGp41
    replace Ss26 := Ss26.mono mono_rdPair hGp41
    replace Sm29 := Sm29.mono mono_rdPair hGp41
    replace Ss30 := Ss30.mono mono_rdPair hGp41
    replace Ss31 := Ss31.mono mono_rdPair hGp41
    replace Sm34 := Sm34.mono mono_rdPair hGp41
    replace Sz37 := Sz37.mono mono_rdPair hGp41
    replace Sp39 := Sp39.mono mono_rdPair hGp41
    have hq42 : parseF ([49, 32, 50, 51, 48, 53, 56, 52, 51, 48, 48, 57, 50, 49, 51, 54, 57, 51, 57, 53, 51, 10] : List UInt8) = (([] : List PairD), 1, 12) := by kernel_rfl
    rw [hq42] at F Sp41
    refine rl_run F (run_move (F.ev rfl)) rfl ?_; clear F a; intro a F
    refine rl_run F (run_extract (v := .slice (ap41) ((([] : List PairD)).length) ((([] : List PairD)).length)) (F.ev rfl) rfl) rfl ?_; clear F a; intro a F
    refine rl_run F (run_extract (v := .int .i64 (1)) (F.ev rfl) rfl) rfl ?_; clear F a; intro a F
    refine rl_run F (run_extract (v := .int .i64 (12)) (F.ev rfl) rfl) rfl ?_; clear F a; intro a F
    refine rl_run F (run_assign (F.ev rfl)) rfl ?_; clear F a; intro a F
    refine rl_run F (run_assign (F.ev rfl)) rfl ?_; clear F a; intro a F
    refine rl_nil ?_
    refine q_tn ?_
    refine wp_seq ?_
    refine w_reg ?_
    refine rl_call F ent18 rfl rfl (parse_spec (s := ([49, 32, 57, 50, 50, 51, 51, 55, 50, 48, 51, 54, 56, 53, 52, 55, 55, 53, 56, 48, 56, 10] : List UInt8)) M HG (by first | omega | (simp only [List.length_append, List.length_cons, List.length_nil]; omega) | (rw [List.length_replicate]; omega) | decide)) ?_; clear F M a; rintro _ Gp43 w a hGp43 M ⟨ap43, rfl, Sp43⟩ F
    replace HG := HG.mono hGp43
    replace Sz6 := Sz6.mono mono_rdPair hGp43
    replace Ss7 := Ss7.mono mono_rdPair hGp43
    replace Sp10 := Sp10.mono mono_rdPair hGp43
    replace Sp12 := Sp12.mono mono_rdPair hGp43
    replace Sp14 := Sp14.mono mono_rdPair hGp43
    replace Sp16 := Sp16.mono mono_rdPair hGp43
    replace Ss18 := Ss18.mono mono_rdPair hGp43
    replace Ss20 := Ss20.mono mono_rdPair hGp43
    replace S23 := S23.mono mono_rdPair hGp43
    replace Ss25 := Ss25.mono mono_rdPair hGp43
    replace Ss26 := Ss26.mono mono_rdPair hGp43
    replace Sm29 := Sm29.mono mono_rdPair hGp43
    replace Ss30 := Ss30.mono mono_rdPair hGp43
    replace Ss31 := Ss31.mono mono_rdPair hGp43
    replace Sm34 := Sm34.mono mono_rdPair hGp43
    replace Sz37 := Sz37.mono mono_rdPair hGp43
    replace Sp39 := Sp39.mono mono_rdPair hGp43
    replace Sp41 := Sp41.mono mono_rdPair hGp43
    have hq44 : parseF ([49, 32, 57, 50, 50, 51, 51, 55, 50, 48, 51, 54, 56, 53, 52, 55, 55, 53, 56, 48, 56, 10] : List UInt8) = (([] : List PairD), 1, 5) := by kernel_rfl
    rw [hq44] at F Sp43
    refine rl_run F (run_move (F.ev rfl)) rfl ?_; clear F a; intro a F
    refine rl_run F (run_extract (v := .slice (ap43) ((([] : List PairD)).length) ((([] : List PairD)).length)) (F.ev rfl) rfl) rfl ?_; clear F a; intro a F
    refine rl_run F (run_extract (v := .int .i64 (1)) (F.ev rfl) rfl) rfl ?_; clear F a; intro a F
    refine rl_run F (run_extract (v := .int .i64 (5)) (F.ev rfl) rfl) rfl ?_; clear F a; intro a F
    refine rl_run F (run_assign (F.ev rfl)) rfl ?_; clear F a; intro a F
    refine rl_run F (run_assign (F.ev rfl)) rfl ?_; clear F a; intro a F
    refine rl_run F (run_assign (F.ev rfl)) rfl ?_; clear F a; intro a F
    refine rl_nil ?_
    refine q_tn ?_
    refine wp_seq ?_
    refine w_reg ?_
    refine rl_make (rd := rdB) (Z := 0) F M tok46.k tok5 rfl (by decide) rfl rfl (l := 1048577) (by omega) rfl (by omega) (by show 1 * _ ≤ _; omega) (by omega) (by simp [ti5, Value.cells, Value.oneCell']) (rfl) rfl ?_; clear F M a; intro v45 csv45 w a M Ev45 F
    obtain ⟨av45, cv45, rfl, hlev45, hcmv45, hlv45⟩ := M.row_shape (k := 0) rfl
    refine rl_run F (run_assign (F.ev rfl)) rfl ?_; clear F a; intro a F
    refine rl_nil ?_
    refine q_tn ?_
    refine wp_seq ?_
    have hbc := Els_bc_eq Ev45
    rw [hbc] at M
    refine w_reg ?_
    refine rl_run F (run_move (F.ev rfl)) rfl ?_; clear F a; intro a F
    refine rl_run F (run_strOfRow M (k := 0) rfl (List.length_replicate).symm tok46.k tok5.k tok9.k (F.ev rfl)) rfl ?_; clear F a; intro a F
    refine rl_call F ent18 rfl rfl (parse_spec (s := (List.replicate (1048577) 0)) M HG (by first | omega | (simp only [List.length_append, List.length_cons, List.length_nil]; omega) | (rw [List.length_replicate]; omega) | decide)) ?_; clear F M a; rintro _ Gp46 w a hGp46 M ⟨ap46, rfl, Sp46⟩ F
    replace HG := HG.mono hGp46
    replace Sz6 := Sz6.mono mono_rdPair hGp46
    replace Ss7 := Ss7.mono mono_rdPair hGp46
    replace Sp10 := Sp10.mono mono_rdPair hGp46
    replace Sp12 := Sp12.mono mono_rdPair hGp46
    replace Sp14 := Sp14.mono mono_rdPair hGp46
    replace Sp16 := Sp16.mono mono_rdPair hGp46
    replace Ss18 := Ss18.mono mono_rdPair hGp46
    replace Ss20 := Ss20.mono mono_rdPair hGp46
    replace S23 := S23.mono mono_rdPair hGp46
    replace Ss25 := Ss25.mono mono_rdPair hGp46
    replace Ss26 := Ss26.mono mono_rdPair hGp46
    replace Sm29 := Sm29.mono mono_rdPair hGp46
    replace Ss30 := Ss30.mono mono_rdPair hGp46
    replace Ss31 := Ss31.mono mono_rdPair hGp46
    replace Sm34 := Sm34.mono mono_rdPair hGp46
    replace Sz37 := Sz37.mono mono_rdPair hGp46
    replace Sp39 := Sp39.mono mono_rdPair hGp46
    replace Sp41 := Sp41.mono mono_rdPair hGp46
    replace Sp43 := Sp43.mono mono_rdPair hGp46
    replace Ev45 := Ev45.mono mono_rdB hGp46
    have hq47 : parseF (List.replicate (1048577) 0) = (([] : List PairD), 0, 3) := kn_long
    rw [hq47] at F Sp46
    refine rl_run F (run_move (F.ev rfl)) rfl ?_; clear F a; intro a F
    refine rl_run F (run_extract (v := .slice (ap46) ((([] : List PairD)).length) ((([] : List PairD)).length)) (F.ev rfl) rfl) rfl ?_; clear F a; intro a F
    refine rl_run F (run_extract (v := .int .i64 (0)) (F.ev rfl) rfl) rfl ?_; clear F a; intro a F
    refine rl_run F (run_extract (v := .int .i64 (3)) (F.ev rfl) rfl) rfl ?_; clear F a; intro a F
    refine rl_run F (run_assign (F.ev rfl)) rfl ?_; clear F a; intro a F
    refine rl_run F (run_assign (F.ev rfl)) rfl ?_; clear F a; intro a F
    refine rl_run F (run_assign (F.ev rfl)) rfl ?_; clear F a; intro a F
    refine rl_nil ?_
    refine q_tn ?_
    refine wp_seq ?_
    refine w_reg ?_
    refine rl_run F (run_move (F.ev rfl)) rfl ?_; clear F a; intro a F
    refine rl_run F (run_eqi (F.ev rfl) (F.ev rfl)) rfl ?_; clear F a; intro a F
    refine rl_run F (run_move (F.ev rfl)) rfl ?_; clear F a; intro a F
    refine rl_guard_t F rfl rfl rfl (decide_eq_true (by decide)) ?_
    refine rl_run F (run_move (F.ev rfl)) rfl ?_; clear F a; intro a F
    refine rl_guard_t F rfl rfl rfl (decide_eq_true (by decide)) ?_
    refine rl_run F (run_eqi (F.ev rfl) (F.ev rfl)) rfl ?_; clear F a; intro a F
    refine rl_run F (run_pick_t (F.ev rfl) (decide_eq_true (by decide)) (F.ev rfl)) rfl ?_; clear F a; intro a F
    refine rl_run F (run_move (F.ev rfl)) rfl ?_; clear F a; intro a F
    refine rl_guard_t F rfl rfl rfl (decide_eq_true (by decide)) ?_
    refine rl_run F (run_move (F.ev rfl)) rfl ?_; clear F a; intro a F
    refine rl_guard_t F rfl rfl rfl (decide_eq_true (by decide)) ?_
    refine rl_run F (run_lenSl tok22.k (F.ev rfl)) rfl ?_; clear F a; intro a F
    refine rl_guard_t F rfl rfl rfl (decide_eq_true (by decide)) ?_
    refine rl_run F (run_eqi (F.ev rfl) (F.ev rfl)) rfl ?_; clear F a; intro a F
    refine rl_run F (run_pick_t (F.ev rfl) (decide_eq_true (by decide)) (F.ev rfl)) rfl ?_; clear F a; intro a F
    refine rl_run F (run_move (F.ev rfl)) rfl ?_; clear F a; intro a F
    have hg48 : (decide ((((mergeF ((hh 257).take (200)) (((hh 257).take (256)).drop (100))).length : Nat) : Int) = 256)) = true := (decide_eq_true (by rw [kn_m2l]; rfl))
    refine rl_guard_t F rfl rfl rfl hg48 ?_
    refine rl_run F (run_move (F.ev rfl)) rfl ?_; clear F a; intro a F
    refine rl_guard_t F rfl rfl rfl hg48 ?_
    refine rl_run F (run_strEq (F.ev rfl) (F.ev rfl)) rfl ?_; clear F a; intro a F
    refine rl_run F (run_pick_t (F.ev rfl) hg48 (F.ev rfl)) rfl ?_; clear F a; intro a F
    refine rl_run F (run_move (F.ev rfl)) rfl ?_; clear F a; intro a F
    have hg49 : (decide (([49, 56, 52, 52, 54, 55, 52, 52, 48, 55, 51, 55, 48, 57, 53, 53, 49, 54, 49, 53, 32, 50, 51, 48, 53, 56, 52, 51, 48, 48, 57, 50, 49, 51, 54, 57, 51, 57, 53, 50, 10] : List UInt8) = ([49, 56, 52, 52, 54, 55, 52, 52, 48, 55, 51, 55, 48, 57, 53, 53, 49, 54, 49, 53, 32, 50, 51, 48, 53, 56, 52, 51, 48, 48, 57, 50, 49, 51, 54, 57, 51, 57, 53, 50, 10] : List UInt8))) = true := (decide_eq_true (by rfl))
    refine rl_guard_t F rfl rfl rfl hg49 ?_
    refine rl_run F (run_move (F.ev rfl)) rfl ?_; clear F a; intro a F
    refine rl_guard_t F rfl rfl rfl hg49 ?_
    refine rl_run F (run_eqi (F.ev rfl) (F.ev rfl)) rfl ?_; clear F a; intro a F
    refine rl_run F (run_pick_t (F.ev rfl) hg49 (F.ev rfl)) rfl ?_; clear F a; intro a F
    refine rl_run F (run_move (F.ev rfl)) rfl ?_; clear F a; intro a F
    refine rl_guard_t F rfl rfl rfl (decide_eq_true (by decide)) ?_
    refine rl_run F (run_move (F.ev rfl)) rfl ?_; clear F a; intro a F
    refine rl_guard_t F rfl rfl rfl (decide_eq_true (by decide)) ?_
    refine rl_run F (run_eqi (F.ev rfl) (F.ev rfl)) rfl ?_; clear F a; intro a F
    refine rl_run F (run_pick_t (F.ev rfl) (decide_eq_true (by decide)) (F.ev rfl)) rfl ?_; clear F a; intro a F
    refine rl_run F (run_move (F.ev rfl)) rfl ?_; clear F a; intro a F
    refine rl_guard_t F rfl rfl rfl (decide_eq_true (by decide)) ?_
    refine rl_run F (run_move (F.ev rfl)) rfl ?_; clear F a; intro a F
    refine rl_guard_t F rfl rfl rfl (decide_eq_true (by decide)) ?_
    refine rl_run F (run_eqi (F.ev rfl) (F.ev rfl)) rfl ?_; clear F a; intro a F
    refine rl_run F (run_pick_t (F.ev rfl) (decide_eq_true (by decide)) (F.ev rfl)) rfl ?_; clear F a; intro a F
    refine rl_run F (run_move (F.ev rfl)) rfl ?_; clear F a; intro a F
    refine rl_guard_t F rfl rfl rfl (decide_eq_true (by decide)) ?_
    refine rl_run F (run_move (F.ev rfl)) rfl ?_; clear F a; intro a F
    refine rl_guard_t F rfl rfl rfl (decide_eq_true (by decide)) ?_
    refine rl_run F (run_eqi (F.ev rfl) (F.ev rfl)) rfl ?_; clear F a; intro a F
    refine rl_run F (run_pick_t (F.ev rfl) (decide_eq_true (by decide)) (F.ev rfl)) rfl ?_; clear F a; intro a F
    refine rl_run F (run_move (F.ev rfl)) rfl ?_; clear F a; intro a F
    refine rl_guard_t F rfl rfl rfl (decide_eq_true (by decide)) ?_
    refine rl_run F (run_move (F.ev rfl)) rfl ?_; clear F a; intro a F
    refine rl_guard_t F rfl rfl rfl (decide_eq_true (by decide)) ?_
    refine rl_run F (run_eqi (F.ev rfl) (F.ev rfl)) rfl ?_; clear F a; intro a F
    refine rl_run F (run_pick_t (F.ev rfl) (decide_eq_true (by decide)) (F.ev rfl)) rfl ?_; clear F a; intro a F
    refine rl_run F (run_move (F.ev rfl)) rfl ?_; clear F a; intro a F
    refine rl_guard_t F rfl rfl rfl (decide_eq_true (by decide)) ?_
    refine rl_run F (run_move (F.ev rfl)) rfl ?_; clear F a; intro a F
    refine rl_guard_t F rfl rfl rfl (decide_eq_true (by decide)) ?_
    refine rl_run F (run_eqi (F.ev rfl) (F.ev rfl)) rfl ?_; clear F a; intro a F
    refine rl_run F (run_pick_t (F.ev rfl) (decide_eq_true (by decide)) (F.ev rfl)) rfl ?_; clear F a; intro a F
    refine rl_run F (run_move (F.ev rfl)) rfl ?_; clear F a; intro a F
    refine rl_guard_t F rfl rfl rfl (decide_eq_true (by decide)) ?_
    refine rl_run F (run_move (F.ev rfl)) rfl ?_; clear F a; intro a F
    refine rl_guard_t F rfl rfl rfl (decide_eq_true (by decide)) ?_
    refine rl_run F (run_eqi (F.ev rfl) (F.ev rfl)) rfl ?_; clear F a; intro a F
    refine rl_run F (run_pick_t (F.ev rfl) (decide_eq_true (by decide)) (F.ev rfl)) rfl ?_; clear F a; intro a F
    refine rl_run F (run_move (F.ev rfl)) rfl ?_; clear F a; intro a F
    refine rl_guard_t F rfl rfl rfl (decide_eq_true (by decide)) ?_
    refine rl_run F (run_move (F.ev rfl)) rfl ?_; clear F a; intro a F
    refine rl_guard_t F rfl rfl rfl (decide_eq_true (by decide)) ?_
    refine rl_run F (run_eqi (F.ev rfl) (F.ev rfl)) rfl ?_; clear F a; intro a F
    refine rl_run F (run_pick_t (F.ev rfl) (decide_eq_true (by decide)) (F.ev rfl)) rfl ?_; clear F a; intro a F
    refine rl_run F (run_move (F.ev rfl)) rfl ?_; clear F a; intro a F
    refine rl_guard_t F rfl rfl rfl (decide_eq_true (by decide)) ?_
    refine rl_run F (run_move (F.ev rfl)) rfl ?_; clear F a; intro a F
    refine rl_guard_t F rfl rfl rfl (decide_eq_true (by decide)) ?_
    refine rl_run F (run_eqi (F.ev rfl) (F.ev rfl)) rfl ?_; clear F a; intro a F
    refine rl_run F (run_pick_t (F.ev rfl) (decide_eq_true (by decide)) (F.ev rfl)) rfl ?_; clear F a; intro a F
    refine rl_run F (run_move (F.ev rfl)) rfl ?_; clear F a; intro a F
    refine rl_guard_t F rfl rfl rfl (decide_eq_true (by decide)) ?_
    refine rl_run F (run_move (F.ev rfl)) rfl ?_; clear F a; intro a F
    refine rl_guard_t F rfl rfl rfl (decide_eq_true (by decide)) ?_
    refine rl_callS F ent12 rfl rfl (checked_spec (xs := gt1) (least := 2305843009213693952) (at' := 0) (e' := 0) M Sz37 (by first | omega | decide) (by kernel_rfl)) ?_; clear F M a; rintro _ w a M rfl F
    refine rl_run F (run_pick_t (F.ev rfl) (decide_eq_true (by decide)) (F.ev rfl)) rfl ?_; clear F a; intro a F
    refine rl_run F (run_move (F.ev rfl)) rfl ?_; clear F a; intro a F
    refine rl_guard_t F rfl rfl rfl rfl ?_
    refine rl_run F (run_move (F.ev rfl)) rfl ?_; clear F a; intro a F
    refine rl_guard_t F rfl rfl rfl rfl ?_
    refine rl_callS F ent12 rfl rfl (checked_spec (xs := gt1) (least := 2305843009213693953) (at' := 0) (e' := 1) M Sz37 (by first | omega | decide) (by kernel_rfl)) ?_; clear F M a; rintro _ w a M rfl F
    refine rl_run F (run_pick_t (F.ev rfl) rfl (F.ev rfl)) rfl ?_; clear F a; intro a F
    refine rl_run F (run_move (F.ev rfl)) rfl ?_; clear F a; intro a F
    refine rl_guard_t F rfl rfl rfl rfl ?_
    refine rl_callS F ent10 rfl rfl (lives_spec M HG) ?_; clear F M a; rintro _ w a M rfl F
    refine rl_run F (run_pick_t (F.ev rfl) rfl (F.ev rfl)) rfl ?_; clear F a; intro a F
    refine rl_run F (run_assign (F.ev rfl)) rfl ?_; clear F a; intro a F
    refine rl_nil ?_
    refine q_tn ?_
    refine wp_ret ?_
    refine fin1 F rfl rfl ?_
    exact ⟨Gp46, (((((((((((hGz6.trans hGp10).trans hGp12).trans hGp14).trans hGp16).trans hGm29).trans hGm34).trans hGz37).trans hGp39).trans hGp41).trans hGp43).trans hGp46), M.weaken (.cons _ (List.Sublist.refl _)), rfl⟩

theorem known_law {w0 w : World} {G : Ghost} {L : List Res} (M : Mem w0 G L w) (HG : Globs 0 1 4 5 G)  : Calls Tryd.prog 7 #[] w (RetS w0 G L fun v => v = .bool true) := Ret.plain M (known_ret M HG)

end Go.Proofs.YtokeofoemjeleaaDoor
