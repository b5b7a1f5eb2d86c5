/- The walks, part V. -/
import Derived.Test.YtmmhmcplegpenaaDoorWalkR
namespace Go.Proofs.YtmmhmcplegpenaaDoor
open Go Go.Y Go.Proofs
set_option linter.unusedSimpArgs false
set_option linter.unusedVariables false
theorem rparse_spec {w0 w : World} {G : Ghost} {L : List Res} (M : Mem w0 G L w) {s : List UInt8} (hs : s.length ≤ 9223372036854775807) : Calls Tryd.prog 15 #[.string (str s)] w (Ret w0 G L fun G' v => ∃ (a : Option Addr) (c : Nat), v = .tuple #[.slice a (parseF s).1.length c, .int .i64 (((parseF s).2.1 : Nat) : Int), .int .i64 (parseF s).2.2] ∧ RdSl rdItem 4 G' (.slice a (parseF s).1.length c) (parseF s).1) := by
 refine calls_start (vs := [_]) Tryd.func15 rfl (n := 44) rfl rfl ?_
 intro a F
 refine wp_seq <| w_reg ?_
 iterate 3 (refine rl_run F (run_assign (F.ev rfl)) rfl ?_; clear F a; intro a F)
 refine rl_nil <| q_tn ?_
 iterate 2 (refine wp_seq ?_)
 refine w_reg <| rl_run F (run_move (F.ev rfl)) rfl ?_; clear F a; intro a F
 refine rl_run F (run_lenStr tok9.k (F.ev rfl)) rfl ?_; clear F a; intro a F
 refine rl_run F (run_gtr (F.ev rfl) (F.ev rfl)) rfl ?_; clear F a; intro a F
 refine rl_nil <| q_tn <| w_cond F rfl ?_ ?_
 ·intro hc
  have h1b := hc; clear hc
  have h1 : 1048576 < (((s).length : Nat) : Int) := of_decide_eq_true h1b
  refine wp_seq <| w_reg ?_
  iterate 3 (refine rl_run F (run_assign (F.ev rfl)) rfl ?_; clear F a; intro a F)
  refine rl_nil <| q_tn <| wp_ret <| q_tr <| fin3 F rfl rfl rfl rfl ?_
  exact ⟨_, (Gle.refl _), M.weaken (List.Sublist.refl _), by rw [parse_big (by omega)]; exact ⟨none, 0, rfl, RdSl.nil⟩⟩
 ·intro hc
  have h2b := hc; clear hc
  have h2 : ¬ (1048576 < (((s).length : Nat) : Int)) := of_decide_eq_false h2b
  refine wp_skip <| q_tn <| wp_seq <| w_reg <| rl_run F (run_assign (F.ev rfl)) rfl ?_; clear F a; intro a F
  refine rl_nil <| q_tn <| wp_seq <| wp_block ?_
  have M := M.nilrow 30 4
  change Mem w0 G (.row (.slice none (0) (0)) (0) ([]) 30 4 :: L) _ at M
  refine w_loopN (fun m a' w' => ∃ (ar : Option Addr), ∃ (nr : Nat), ∃ (cr : Nat), ∃ (csr : List Value), ∃ (xs : List ItemD), ∃ (c : List UInt8), m = c.length ∧ ∃ G3, Gle G G3 ∧ Fits 44 a' [(0, .string (str (c))), (5, .slice (ar) (nr) (cr))] ∧ Mem w0 G3 (.row (.slice (ar) (nr) (cr)) (nr) (csr) 30 4 :: L) w' ∧ (Els rdItem 4 G3 csr xs) ∧ (nr = xs.length) ∧ (c.length ≤ 1048576) ∧ (PInv s xs c)) _ ⟨none, 0, 0, [], [], s, rfl, G, Gle.refl _, F.to ⟨rfl, rfl, trivial⟩, M, Els.nil, rfl, by omega, PInv.start (by omega)⟩ ?_
  clear F M
  rintro m a w ⟨ar, nr, cr, csr, xs, c, rfl, G3, hG3, F, M, Er, hnr, hcl, hP⟩
  iterate 2 (refine wp_seq ?_)
  refine w_reg <| rl_run F (run_move (F.ev rfl)) rfl ?_; clear F a; intro a F
  refine rl_run F (run_strNe (F.ev rfl) (F.ev rfl)) rfl ?_; clear F a; intro a F
  refine rl_nil <| q_tn <| w_cond F rfl ?_ ?_
  ·intro hc
   have h4b := hc; clear hc
   have h4 : ¬ (c = ([] : List UInt8)) := of_decide_eq_false (of_not_t h4b)
   have h4c : (decide (c = ([] : List UInt8))) = false := (of_not_t h4b)
   refine wp_skip <| q_tn <| wp_block <| wp_seq ?_
   obtain ⟨f9, hf9, hp9, hx9, hok9⟩ := id hP
   refine w_reg <| rl_run F (run_move (F.ev rfl)) rfl ?_; clear F a; intro a F
   refine rl_callS F ent38 rfl rfl (rcut_spec (s := c) (c := (10 : UInt8)) M (by omega)) ?_; clear F M a; rintro _ w a M rfl F
   have hclc5 := cut_lens (10 : UInt8) c
   refine rl_run F (run_move (F.ev rfl)) rfl ?_; clear F a; intro a F
   refine rl_run F (run_extract (v := .string (str ((Lib.cut c [(10 : UInt8)]).1))) (F.ev rfl) rfl) rfl ?_; clear F a; intro a F
   refine rl_run F (run_extract (v := .string (str ((Lib.cut c [(10 : UInt8)]).2.1))) (F.ev rfl) rfl) rfl ?_; clear F a; intro a F
   refine rl_run F (run_extract (v := .int .i64 ((if (Lib.cut c [(10 : UInt8)]).2.2 = true then (1 : Int) else 0))) (F.ev rfl) rfl) rfl ?_; clear F a; intro a F
   iterate 3 (refine rl_run F (run_assign (F.ev rfl)) rfl ?_; clear F a; intro a F)
   refine rl_nil <| q_tn <| wp_seq <| w_reg <| rl_run F (run_move (F.ev rfl)) rfl ?_; clear F a; intro a F
   refine rl_run F (run_strAdd (F.ev rfl) (F.ev rfl) (by (simp only [List.length_cons, List.length_nil]; omega))) rfl ?_; clear F a; intro a F
   refine rl_call F ent39 rfl rfl (read_spec (s := ((Lib.cut c [(10 : UInt8)]).1) ++ ([10] : List UInt8)) M (by (simp only [List.length_append, List.length_cons, List.length_nil]; omega))) ?_; clear F M a; rintro _ Gk6 w a hGk6 M ⟨xk6, mak6, mck6, bk6, rfl, hIk6, SMk6, hyk6, hnk6⟩ F
   replace Er := Er.mono mono_rdItem hGk6
   refine rl_run F (run_move (F.ev rfl)) rfl ?_; clear F a; intro a F
   refine rl_run F (run_extract (v := .agg #[.int .u64 (((xk6.key : Nat) : Int)), .int .u8 (((xk6.typ : Nat) : Int)), .string (str (xk6.text)), .slice (mak6) (xk6.marks.length) (mck6)]) (F.ev rfl) rfl) rfl ?_; clear F a; intro a F
   refine rl_run F (run_extract (v := .int .i64 ((if bk6 = true then (1 : Int) else 0))) (F.ev rfl) rfl) rfl ?_; clear F a; intro a F
   refine rl_alloc F M tok30 rfl rfl ?_; clear F M a; intro b7 w a M F
   refine rl_storeA F M tok30 (k := 0) rfl rfl rfl (us := [.int .u64 (((xk6.key : Nat) : Int)), .int .u8 (((xk6.typ : Nat) : Int)), .string (str (xk6.text)), .slice (mak6) (xk6.marks.length) (mck6)]) rfl rfl (by simp [Value.oneCell']) (by simp) ?_; clear F M a; intro w a M F
   change Mem w0 Gk6 (.blk b7 [.int .u64 (((xk6.key : Nat) : Int)), .int .u8 (((xk6.typ : Nat) : Int)), .string (str (xk6.text)), .slice (mak6) (xk6.marks.length) (mck6)] 30 :: _ :: L) _ at M
   refine rl_run F (run_assign (F.ev rfl)) rfl ?_; clear F a; intro a F
   refine rl_nil <| q_tn ?_
   iterate 2 (refine wp_seq ?_)
   refine w_reg ?_
   iterate 2 (refine rl_run F (run_move (F.ev rfl)) rfl ?_; clear F a; intro a F)
   refine rl_run F (run_muli (F.ev rfl) (F.ev rfl) (in_i64 (by ((repeat' split) <;> omega)) (by ((repeat' split) <;> omega)))) rfl ?_; clear F a; intro a F
   refine rl_run F (run_eqi (F.ev rfl) (F.ev rfl)) rfl ?_; clear F a; intro a F
   refine rl_nil <| q_tn <| w_cond F rfl ?_ ?_
   ·intro hc
    have h9b := hc; clear hc
    have h9 : ((if (Lib.cut c [(10 : UInt8)]).2.2 = true then (1 : Int) else 0)) * ((if bk6 = true then (1 : Int) else 0)) = 0 := of_decide_eq_true h9b
    refine wp_seq <| w_reg <| rl_run F (run_move (F.ev rfl)) rfl ?_; clear F a; intro a F
    refine rl_run F (run_lenSl tok22.k (F.ev rfl)) rfl ?_; clear F a; intro a F
    refine rl_run F (run_addi (F.ev rfl) (F.ev rfl) (in_i64 (by omega) (by omega))) rfl ?_; clear F a; intro a F
    iterate 3 (refine rl_run F (run_assign (F.ev rfl)) rfl ?_; clear F a; intro a F)
    refine rl_nil <| q_tn <| wp_ret <| q_tr <| q_br <| q_tr <| q_br <| q_tr <| fin3 F rfl rfl rfl rfl ?_
    have hp : parseF s = ([], xs.length + 1, 5) := hP.bad (by assumption) (by
     rcases Bool.eq_false_or_eq_true (Lib.cut c [10]).2.2 with q1 | q1
     ·right; intro y hy_; rcases Bool.eq_false_or_eq_true bk6 with q2 | q2
      ·exact absurd (show ((if (Lib.cut c [(10 : UInt8)]).2.2 = true then (1 : Int) else 0)) * ((if bk6 = true then (1 : Int) else 0)) = 0 by assumption) (by rw [if_pos q1, if_pos q2]; decide)
      ·exact hnk6 q2 y hy_.ten
     ·left; rw [q1]; simp)
    have hN : ((((nr : Nat) : Int)) + 1 : Int) = (((xs.length + 1 : Nat)) : Int) := by omega
    exact ⟨_, (hG3.trans hGk6), M.weaken (.cons _ (.cons _ (List.Sublist.refl _))), by rw [hp, hN]; exact ⟨none, 0, rfl, RdSl.nil⟩⟩
   ·intro hc
    have h10b := hc; clear hc
    have h10 : ¬ (((if (Lib.cut c [(10 : UInt8)]).2.2 = true then (1 : Int) else 0)) * ((if bk6 = true then (1 : Int) else 0)) = 0) := of_decide_eq_false h10b
    refine wp_skip <| q_tn ?_
    iterate 2 (refine wp_seq ?_)
    have hq1 : (Lib.cut c [10]).2.2 = true := Classical.byContradiction fun h_ => absurd (show ((if (Lib.cut c [(10 : UInt8)]).2.2 = true then (1 : Int) else 0)) * ((if bk6 = true then (1 : Int) else 0)) = 0 by rw [if_neg h_, Int.zero_mul]) (by assumption)
    have hq2 : bk6 = true := Classical.byContradiction fun h_ => absurd (show ((if (Lib.cut c [(10 : UInt8)]).2.2 = true then (1 : Int) else 0)) * ((if bk6 = true then (1 : Int) else 0)) = 0 by rw [if_neg (show ¬ bk6 = true from h_), Int.mul_zero]) (by assumption)
    refine w_reg <| rl_run F (run_move (F.ev rfl)) rfl ?_; clear F a; intro a F
    refine rl_run F (run_lenSl tok22.k (F.ev rfl)) rfl ?_; clear F a; intro a F
    refine rl_run F (run_eqi (F.ev rfl) (F.ev rfl)) rfl ?_; clear F a; intro a F
    refine rl_nil <| q_tn <| w_cond F rfl ?_ ?_
    ·intro hc
     have h11b := hc; clear hc
     have h11 : ((nr : Nat) : Int) = 1024 := of_decide_eq_true h11b
     refine wp_seq <| w_reg ?_
     iterate 3 (refine rl_run F (run_assign (F.ev rfl)) rfl ?_; clear F a; intro a F)
     refine rl_nil <| q_tn <| wp_ret <| q_tr <| q_br <| q_tr <| q_br <| q_tr <| fin3 F rfl rfl rfl rfl ?_
     have hp : parseF s = ([], xs.length + 1, 3) := hP.full (by assumption) hq1 (Rd10.one (hyk6 hq2)) (by omega)
     have hN : (1025 : Int) = (((xs.length + 1 : Nat)) : Int) := by omega
     exact ⟨_, (hG3.trans hGk6), M.weaken (.cons _ (.cons _ (List.Sublist.refl _))), by rw [hp, hN]; exact ⟨none, 0, rfl, RdSl.nil⟩⟩
    ·intro hc
     have h12b := hc; clear hc
     have h12 : ¬ (((nr : Nat) : Int) = 1024) := of_decide_eq_false h12b
     refine wp_skip <| q_tn <| wp_seq <| w_reg <| rl_run F (run_move (F.ev rfl)) rfl ?_; clear F a; intro a F
     refine rl_run F (run_loadA tok30 rfl (F.ev rfl) (cs := [.int .u64 (((xk6.key : Nat) : Int)), .int .u8 (((xk6.typ : Nat) : Int)), .string (str (xk6.text)), .slice (mak6) (xk6.marks.length) (mck6)]) rfl (M.cellsL (k := 0) rfl rfl)) rfl ?_; clear F a; intro a F
     refine rl_buildSlice1 F M tok22.k tok30 rfl rfl (cs := [.int .u64 (((xk6.key : Nat) : Int)), .int .u8 (((xk6.typ : Nat) : Int)), .string (str (xk6.text)), .slice (mak6) (xk6.marks.length) (mck6)]) rfl rfl (by simp [Value.oneCell']) (by decide) rfl ?_; clear F M a; intro v13 w a M F
     obtain ⟨av13, cv13, rfl, hlev13, hcmv13, hlv13⟩ := M.row_shape (k := 0) rfl
     have Eb : Els rdItem 4 Gk6 [.int .u64 (((xk6.key : Nat) : Int)), .int .u8 (((xk6.typ : Nat) : Int)), .string (str (xk6.text)), .slice (mak6) (xk6.marks.length) (mck6)] [xk6] := ⟨[.int .u64 (((xk6.key : Nat) : Int)), .int .u8 (((xk6.typ : Nat) : Int)), .string (str (xk6.text)), .slice (mak6) (xk6.marks.length) (mck6)], [], rfl, rfl, ⟨mak6, mck6, rfl, hIk6.1, hIk6.2.1, hIk6.2.2, (by have h_ := SMk6.bound; omega), SMk6⟩, rfl⟩
     refine rl_append_row F M (k := 2) (k2 := 0) rfl rfl tok22.k tok30 rfl rfl (by decide) rfl rfl (by show _ * 56 ≤ _; (try simp only [List.length_drop, List.length_take, List.length_append, List.length_cons, List.length_nil]); omega) (by (try simp only [List.length_drop, List.length_take, List.length_append, List.length_cons, List.length_nil]); omega) rfl ?_; clear F M a; intro v14 w a M F
     have Ev14 := Els.append Er Eb
     obtain ⟨av14, cv14, rfl, hlev14, hcmv14, hlv14⟩ := M.row_shape (k := 2) rfl
     refine rl_run F (run_assign (F.ev rfl)) rfl ?_; clear F a; intro a F
     refine rl_nil <| q_tn <| w_reg <| rl_run F (run_move (F.ev rfl)) rfl ?_; clear F a; intro a F
     refine rl_run F (run_assign (F.ev rfl)) rfl ?_; clear F a; intro a F
     refine rl_nil <| q_bn <| q_tn ?_
     exact ⟨_, (by have h9_ := cut_lt10 (s := c) (by assumption); omega), (av14), (nr + 1), (cv14), csr ++ ([.int .u64 (((xk6.key : Nat) : Int)), .int .u8 (((xk6.typ : Nat) : Int)), .string (str (xk6.text)), .slice (mak6) (xk6.marks.length) (mck6)]), xs ++ ([xk6]), (Lib.cut c [(10 : UInt8)]).2.1, rfl, Gk6, (hG3.trans hGk6), F.to ⟨rfl, rfl, trivial⟩, (M.weaken (.cons _ (.cons _ (.cons_cons _ (List.Sublist.refl _))))), Ev14, by simp only [List.length_append, List.length_cons, List.length_nil]; omega, by omega, hP.next (by assumption) hq1 (Rd10.one (hyk6 hq2)) (by omega)⟩
  ·intro hc
   have h15b := hc; clear hc
   have h15 : c = ([] : List UInt8) := of_decide_eq_true (of_not_f h15b)
   have h15c : (decide (c = ([] : List UInt8))) = true := (of_not_f h15b)
   refine wp_exit ?_
   iterate 2 (refine q_te ?_)
   refine q_bh <| q_tn <| wp_seq <| w_reg <| rl_run F (run_move (F.ev rfl)) rfl ?_; clear F a; intro a F
   iterate 3 (refine rl_run F (run_assign (F.ev rfl)) rfl ?_; clear F a; intro a F)
   refine rl_nil <| q_tn <| wp_ret <| fin3 F rfl rfl rfl rfl ?_
   obtain ⟨hnz16, Gz16, az16, cz16, hGz16, hez16, Sz16, M⟩ := M.freeze_row mono_rdItem (k := 0) rfl Er (by decide)
   clear hez16 az16 cz16
   have hp : parseF s = (xs, 0, 0) := PInv.fin (by rw [← (show c = [] by assumption)]; exact hP)
   subst hnr
   exact ⟨Gz16, hG3.trans hGz16, M.weaken (List.Sublist.refl _), by rw [hp]; exact ⟨_, _, rfl, Sz16⟩⟩
def pairF : List ItemD := [⟨7, 2, [104, 105, 32, 116, 104, 101, 114, 101], [[97], [98]]⟩, ⟨8, 0, [], []⟩]
theorem pair_spec {w0 w : World} {G : Ghost} {L : List Res} (M : Mem w0 G L w) : Calls Tryd.prog 22 #[] w (Ret w0 G L fun G' v => ∃ (a : Option Addr) (c : Nat), v = .slice a pairF.length c ∧ RdSl rdItem 4 G' (.slice a pairF.length c) pairF) := by
 refine calls_start (vs := []) Tryd.func22 rfl (n := 5) rfl rfl ?_
 intro a F
 refine wp_seq <| w_reg <| rl_run F (run_assign (F.ev rfl)) rfl ?_; clear F a; intro a F
 refine rl_nil <| q_tn <| wp_seq <| w_reg <| rl_buildSliceN F M tok28.k tok9 (ps := [(0, .string (str ([97] : List UInt8))), (1, .string (str ([98] : List UInt8)))]) (cs := [[.string (str ([97] : List UInt8))], [.string (str ([98] : List UInt8))]]) (fl := [.string (str ([97] : List UInt8)), .string (str ([98] : List UInt8))]) rfl rfl (by simp [Parts, Value.cells]) (by simp [ti9]) rfl (by simp [Value.oneCell']) (by decide) (by decide) rfl ?_; clear F M a; intro v1 w a M F
 obtain ⟨av1, cv1, rfl, hlev1, hcmv1, hlv1⟩ := M.row_shape (k := 0) rfl
 have E1 : Els rdStr 1 G [.string (str ([97] : List UInt8)), .string (str ([98] : List UInt8))] [[97], [98]] := ⟨[.string (str [97])], _, rfl, rfl, ⟨rfl, by decide⟩, ⟨[.string (str [98])], _, rfl, rfl, ⟨rfl, by decide⟩, rfl⟩⟩
 obtain ⟨hnz2, Gz2, az2, cz2, hGz2, hez2, Sz2, M⟩ := M.freeze_row mono_rdStr (k := 0) rfl E1 (by decide)
 clear hez2 az2 cz2
 refine rl_run F (run_buildS (cs := [.int .u64 (7), .int .u8 (2), .string (str ([104, 105, 32, 116, 104, 101, 114, 101] : List UInt8)), .slice (av1) (2) (cv1)]) (ps := [(0, .int .u64 (7)), (1, .int .u8 (2)), (2, .string (str ([104, 105, 32, 116, 104, 101, 114, 101] : List UInt8))), (3, .slice (av1) (2) (cv1))]) tok30.k rfl tok30 (F.evp rfl) rfl) rfl ?_; clear F a; intro a F
 refine rl_run F (run_buildS (cs := [.int .u64 (8), .int .u8 (0), .string (str ([] : List UInt8)), .slice none (0) (0)]) (ps := [(0, .int .u64 (8))]) tok30.k rfl tok30 (F.evp rfl) rfl) rfl ?_; clear F a; intro a F
 refine rl_buildSliceN F M tok22.k tok30 (ps := [(0, .agg #[.int .u64 (7), .int .u8 (2), .string (str ([104, 105, 32, 116, 104, 101, 114, 101] : List UInt8)), .slice (av1) (2) (cv1)]), (1, .agg #[.int .u64 (8), .int .u8 (0), .string (str ([] : List UInt8)), .slice none (0) (0)])]) (cs := [[.int .u64 (7), .int .u8 (2), .string (str ([104, 105, 32, 116, 104, 101, 114, 101] : List UInt8)), .slice (av1) (2) (cv1)], [.int .u64 (8), .int .u8 (0), .string (str ([] : List UInt8)), .slice none (0) (0)]]) (fl := [.int .u64 (7), .int .u8 (2), .string (str ([104, 105, 32, 116, 104, 101, 114, 101] : List UInt8)), .slice (av1) (2) (cv1), .int .u64 (8), .int .u8 (0), .string (str ([] : List UInt8)), .slice none (0) (0)]) rfl rfl (by simp [Parts, Value.cells]) (by simp [ti30]) rfl (by simp [Value.oneCell']) (by decide) (by decide) rfl ?_; clear F M a; intro v3 w a M F
 obtain ⟨av3, cv3, rfl, hlev3, hcmv3, hlv3⟩ := M.row_shape (k := 0) rfl
 refine rl_run F (run_assign (F.ev rfl)) rfl ?_; clear F a; intro a F
 refine rl_nil <| q_tn <| wp_ret <| fin1 F rfl rfl ?_
 have E2 : Els rdItem 4 Gz2 [.int .u64 (7), .int .u8 (2), .string (str ([104, 105, 32, 116, 104, 101, 114, 101] : List UInt8)), .slice (av1) (2) (cv1), .int .u64 (8), .int .u8 (0), .string (str ([] : List UInt8)), .slice none (0) (0)] pairF := ⟨[.int .u64 7, .int .u8 2, .string (str [104, 105, 32, 116, 104, 101, 114, 101]), .slice (av1) (2) (cv1)], _, rfl, rfl, ⟨av1, cv1, rfl, by decide, by decide, by decide, by decide, Sz2⟩, ⟨[.int .u64 8, .int .u8 0, .string (str []), .slice none 0 0], _, rfl, rfl, ⟨none, 0, rfl, by decide, by decide, by decide, by decide, RdSl.nil⟩, rfl⟩⟩
 obtain ⟨hnz4, Gz4, az4, cz4, hGz4, hez4, Sz4, M⟩ := M.freeze_row mono_rdItem (k := 0) rfl E2 (by decide)
 clear hez4 az4 cz4
 exact ⟨Gz4, hGz2.trans hGz4, M.weaken (List.Sublist.refl _), _, _, rfl, Sz4⟩
end Go.Proofs.YtmmhmcplegpenaaDoor
