/- The walks, part NG. -/
import Derived.Test.YtlnehkjmmegkhaaGreatWalkNE
namespace Go.Proofs.YtlnehkjmmegkhaaGreat
open Go Go.Y Go.Proofs
set_option linter.unusedSimpArgs false
set_option linter.unusedVariables false
def chF9 (cs : List UInt8) : Nat → Nat → NL
 | 0 => fun _ => ([], 0)
 | d + 1 => buildFn cs d
def dpF9 : Nat → Bool
 | 0 => false
 | _ + 1 => true
theorem buildFn_eq {cs : List UInt8} {d q : Nat} : buildFn cs d q = loopB (chF9 cs d) (dpF9 d) cs 20 q [] := by cases d <;> rfl
def BuildE (d : Nat) : Prop := ∀ (w0 w : World) (G : Ghost) (L : List Res) (ca : Option Addr) (cc : Nat) (cs : List UInt8) (q0 lv : Nat), Mem w0 G L w → RdSl rdB 1 G (.slice ca cs.length cc) cs → q0 ≤ 19 → lv + d = 5 →
  Calls Tryz.prog 55 #[.slice ca cs.length cc, .int .i64 (q0 : Int), .int .i64 (lv : Int)] w (Ret w0 G L fun G' v => ∃ a' c' ps q', v = .tuple #[.slice a' ps.length c', .int .i64 ((q' : Nat) : Int)] ∧ RdSl rdN 6 G' (.slice a' ps.length c') ps ∧ q' ≤ 19 ∧ q0 ≤ q' ∧ NsInv d q0 q' ps ∧ buildFn cs d q0 = (ps, q'))
set_option maxHeartbeats 2000000 in
theorem buildE_step {d : Nat} (ih : ∀ e, d = e + 1 → BuildE e) {w0 w : World} {G : Ghost} {L : List Res} (M : Mem w0 G L w) {ca : Option Addr} {cc : Nat} {cs : List UInt8} (S : RdSl rdB 1 G (.slice ca cs.length cc) cs) {q0 lv : Nat} (hq0 : q0 ≤ 19) (hlv : lv + d = 5) : Calls Tryz.prog 55 #[.slice ca cs.length cc, .int .i64 (q0 : Int), .int .i64 (lv : Int)] w (RetM w0 G fun G' L' v => ∃ a' c' cs' ps q', v = .tuple #[.slice a' ps.length c', .int .i64 ((q' : Nat) : Int)] ∧ L' = (.row (.slice a' ps.length c') ps.length cs' 30 6 :: L) ∧ Els rdN 6 G' cs' ps ∧ q' ≤ 19 ∧ q0 ≤ q' ∧ NsInv d q0 q' ps ∧ buildFn cs d q0 = (ps, q')) := by
 refine calls_start (vs := [_, _, _]) Tryz.func55 rfl (n := 96) rfl rfl ?_
 intro a F
 refine wp_seq <| w_reg ?_
 iterate 2 (refine rl_run F (run_assign (F.ev rfl)) rfl ?_; clear F a; intro a F)
 refine rl_nil <| q_tn <| wp_seq ?_
 have bS := S.bound
 refine w_reg <| rl_run F (run_assign (F.ev rfl)) rfl ?_; clear F a; intro a F
 refine rl_nil <| q_tn <| wp_seq <| wp_block ?_
 have M := M.nilrow 30 6
 refine w_loopN (fun m a' w' => ∃ (q : Nat), ∃ (ps : List NT), ∃ (ay : Option Addr), ∃ (ny : Nat), ∃ (cy : Nat), ∃ (csy : List Value), ∃ (f9 : Nat), m = 19 - q ∧ ∃ G1, Gle G G1 ∧ Fits 96 a' [(0, .slice (ca) (cs.length) (cc)), (2, .int .i64 (((lv : Nat) : Int))), (1, .int .i64 (((q : Nat) : Int))), (8, .slice (ay) (ny) (cy))] ∧ Mem w0 G1 (.row (.slice (ay) (ny) (cy)) (ny) (csy) 30 6 :: L) w' ∧ (q ≤ 19 ∧ q0 ≤ q) ∧ (NsInv d q0 q ps) ∧ (ny = (ps).length) ∧ (Els rdN 6 G1 csy (ps)) ∧ (buildFn cs d q0 = loopB (chF9 cs d) (dpF9 d) cs f9 q ps) ∧ (19 < f9 + q)) _ ⟨q0, [], (none), (0), (0), ([]), 20, rfl, G, Gle.refl _, F.to ⟨rfl, rfl, rfl, rfl, trivial⟩, M, by omega, NsInv.zero, rfl, Els.nil, buildFn_eq, by omega⟩ ?_
 clear F M
 rintro m a w ⟨q, ps, ay, ny, cy, csy, f9, rfl, G1, hG1, F, M, hq, hI, hny, Ey, hB, hf9⟩
 replace S := S.mono mono_rdB hG1
 iterate 2 (refine wp_seq ?_)
 refine w_reg ?_
 iterate 2 (refine rl_run F (run_move (F.ev rfl)) rfl ?_; clear F a; intro a F)
 refine rl_run F (run_lenSl tok22.k (F.ev rfl)) rfl ?_; clear F a; intro a F
 refine rl_run F (run_lss (F.ev rfl) (F.ev rfl)) rfl ?_; clear F a; intro a F
 refine rl_run F (run_move (F.ev rfl)) rfl ?_; clear F a; intro a F
 rcases Bool.eq_false_or_eq_true (decide (((q : Nat) : Int) < ((cs.length : Nat) : Int))) with hc | hc
 ·skip
  have h2b := hc; clear hc
  have h2 : ((q : Nat) : Int) < ((cs.length : Nat) : Int) := of_decide_eq_true h2b
  refine rl_guard_t F rfl rfl rfl h2b ?_
  refine rl_run F (run_move (F.ev rfl)) rfl ?_; clear F a; intro a F
  refine rl_guard_t F rfl rfl rfl h2b ?_
  refine rl_run F (run_lss (F.ev rfl) (F.ev rfl)) rfl ?_; clear F a; intro a F
  refine rl_run F (run_pick_t (F.ev rfl) h2b (F.ev rfl)) rfl ?_; clear F a; intro a F
  refine rl_nil <| q_tn <| w_cond F rfl ?_ ?_
  ·intro hc
   have h3b := hc; clear hc
   have h3 : ((q : Nat) : Int) < 19 := of_decide_eq_true h3b
   refine wp_skip <| q_tn <| wp_block <| wp_seq ?_
   have hIl := hI.le
   refine w_reg ?_
   iterate 2 (refine rl_run F (run_move (F.ev rfl)) rfl ?_; clear F a; intro a F)
   obtain ⟨Xe4, hXe4⟩ := get_of_lt (xs := cs) (i := q) (by omega)
   obtain ⟨be4, oe4, _, Ie4, _, Ae4, rfl⟩ := S.at hXe4
   refine rl_run F (run_indexI tok22.k tok5 (F.ev rfl) (F.ev rfl) (by omega) Ie4) rfl ?_; clear F a; intro a F
   refine rl_run F (run_load1 (agf tok5 rfl) (F.ev rfl) (M.cellA Ae4 0 (by omega) rfl)) rfl ?_; clear F a; intro a F
   refine rl_run F (run_assign (F.ev rfl)) rfl ?_; clear F a; intro a F
   refine rl_nil <| q_tn <| wp_seq ?_
   have hnb9 : nb Xe4 = ((Xe4.toNat : Nat) : Int) := rfl
   have hnb8 := UInt8.toNat_lt Xe4
   refine w_reg <| rl_run F (run_move (F.ev rfl)) rfl ?_; clear F a; intro a F
   refine rl_run F (run_addi (F.ev rfl) (F.ev rfl) (in_i64 (by omega) (by omega))) rfl ?_; clear F a; intro a F
   refine rl_run F (run_assign (F.ev rfl)) rfl ?_; clear F a; intro a F
   refine rl_nil <| q_tn ?_
   iterate 2 (refine wp_seq ?_)
   refine w_reg <| rl_run F (run_move (F.ev rfl)) rfl ?_; clear F a; intro a F
   refine rl_run F (run_remi (F.ev rfl) (F.ev rfl) (by omega) (by omega)) rfl ?_; clear F a; intro a F
   refine rl_run F (run_eqi (F.ev rfl) (F.ev rfl)) rfl ?_; clear F a; intro a F
   refine rl_nil <| q_tn <| w_cond F rfl ?_ ?_
   ·intro hc
    have h5b := hc; clear hc
    have h5 : (nb Xe4) % 8 = 0 := of_decide_eq_true h5b
    refine wp_seq <| w_reg ?_
    iterate 2 (refine rl_run F (run_move (F.ev rfl)) rfl ?_; clear F a; intro a F)
    iterate 2 (refine rl_run F (run_assign (F.ev rfl)) rfl ?_; clear F a; intro a F)
    refine rl_nil <| q_tn <| wp_ret <| q_tr <| q_br <| q_tr <| q_br <| q_tr <| fin2 F rfl rfl rfl ?_
    change Mem w0 G1 (_ :: L) _ at M
    subst hny
    exact ⟨_, _, hG1, M.weaken (.cons_cons _ (List.Sublist.refl _)), _, _, _, ps, q + 1, rfl, rfl, Ey, by omega, by omega, hI.up, lb_zero hB hf9 hXe4 (by assumption) (by assumption)⟩
   ·intro hc
    have h6b := hc; clear hc
    have h6 : ¬ ((nb Xe4) % 8 = 0) := of_decide_eq_false h6b
    refine wp_skip <| q_tn ?_
    iterate 2 (refine wp_seq ?_)
    refine w_reg <| rl_run F (run_move (F.ev rfl)) rfl ?_; clear F a; intro a F
    refine rl_run F (run_lenSl tok28.k (F.ev rfl)) rfl ?_; clear F a; intro a F
    refine rl_run F (run_eqi (F.ev rfl) (F.ev rfl)) rfl ?_; clear F a; intro a F
    refine rl_nil <| q_tn <| w_cond F rfl ?_ ?_
    ·intro hc
     have h7b := hc; clear hc
     have h7 : ((ny : Nat) : Int) = 16 := of_decide_eq_true h7b
     refine wp_exit <| q_te <| q_bh <| q_tn ?_
     obtain ⟨f8, hB8, hf8⟩ := lb_full hB hf9 hXe4 (by assumption) (by assumption) (by omega)
     exact ⟨_, by omega, (q + 1), (ps), (ay), (ny), (cy), (csy), f8, rfl, G1, hG1, F.to ⟨rfl, rfl, rfl, rfl, trivial⟩, M, by omega, hI.up, hny, Ey, hB8, hf8⟩
    ·intro hc
     have h8b := hc; clear hc
     have h8 : ¬ (((ny : Nat) : Int) = 16) := of_decide_eq_false h8b
     refine wp_skip <| q_tn ?_
     iterate 2 (refine wp_seq ?_)
     refine w_reg <| rl_run F (run_move (F.ev rfl)) rfl ?_; clear F a; intro a F
     refine rl_run F (run_remi (F.ev rfl) (F.ev rfl) (by omega) (by omega)) rfl ?_; clear F a; intro a F
     refine rl_run F (run_lss (F.ev rfl) (F.ev rfl)) rfl ?_; clear F a; intro a F
     refine rl_nil <| q_tn <| w_cond F rfl ?_ ?_
     ·intro hc
      have h9b := hc; clear hc
      have h9 : (nb Xe4) % 8 < 3 := of_decide_eq_true h9b
      refine wp_seq <| w_reg <| rl_run F (run_move (F.ev rfl)) rfl ?_; clear F a; intro a F
      refine rl_buildSliceN F M tok49.k tok9 (ps := [(0, .string (str ([] : List UInt8))), (1, .string (str ([120] : List UInt8))), (2, .string (str ([104, 105, 32, 34, 121, 111, 117, 92] : List UInt8))), (3, .string (str ([48] : List UInt8)))]) (cs := [[.string (str ([] : List UInt8))], [.string (str ([120] : List UInt8))], [.string (str ([104, 105, 32, 34, 121, 111, 117, 92] : List UInt8))], [.string (str ([48] : List UInt8))]]) (fl := [.string (str ([] : List UInt8)), .string (str ([120] : List UInt8)), .string (str ([104, 105, 32, 34, 121, 111, 117, 92] : List UInt8)), .string (str ([48] : List UInt8))]) rfl rfl (by simp [Parts, Value.cells]) (by simp [ti9]) rfl (by simp [Value.oneCell']) (by decide) (by decide) rfl ?_; clear F M a; intro v10 w a M F
      obtain ⟨av10, cv10, rfl, hlev10, hcmv10, hlv10⟩ := M.row_shape (k := 0) rfl
      refine rl_run F (run_move (F.ev rfl)) rfl ?_; clear F a; intro a F
      refine rl_run F (run_quoi (F.ev rfl) (F.ev rfl) (by omega) (by omega) (in_u8 (by omega) (by omega))) rfl ?_; clear F a; intro a F
      refine rl_run F (run_remi (F.ev rfl) (F.ev rfl) (by omega) (by omega)) rfl ?_; clear F a; intro a F
      obtain ⟨Xe11, hXe11⟩ := get_of_lt (xs := nwdS) (i := (Xe4.toNat / 8) % 4) (by show _ < 4; omega)
      obtain ⟨be11, _, Ie11, hme11, _, Ae11, ⟨rfl, hsle11⟩⟩ := M.atRow (k := 0) rfl (by decide) nwdE hXe11
      refine rl_run F (run_indexI tok49.k tok9 (F.ev rfl) (F.ev rfl) (by omega) Ie11) rfl ?_; clear F a; intro a F
      refine rl_run F (run_load1 (agf tok9 rfl) (F.ev rfl) (cellE Ae11 0 (by omega) rfl)) rfl ?_; clear F a; intro a F
      refine rl_run F (run_buildS (cs := [.int .u8 (2), .string (str ([] : List UInt8)), .string (str ([] : List UInt8)), .slice none (0) (0), .string (str (Xe11)), .slice none (0) (0)]) (ps := [(0, .int .u8 (2)), (4, .string (str (Xe11)))]) tok30.k rfl tok30 (F.evp rfl) rfl) rfl ?_; clear F a; intro a F
      refine rl_buildSlice1 F M tok28.k tok30 rfl rfl (cs := [.int .u8 (2), .string (str ([] : List UInt8)), .string (str ([] : List UInt8)), .slice none (0) (0), .string (str (Xe11)), .slice none (0) (0)]) rfl rfl (by simp [Value.oneCell']) (by decide) rfl ?_; clear F M a; intro v12 w a M F
      obtain ⟨av12, cv12, rfl, hlev12, hcmv12, hlv12⟩ := M.row_shape (k := 0) rfl
      have E13 : Els rdN 6 G1 [.int .u8 (2), .string (str ([] : List UInt8)), .string (str ([] : List UInt8)), .slice none (0) (0), .string (str (Xe11)), .slice none (0) (0)] [(.mk 2 ([] : List UInt8) ([] : List UInt8) [] Xe11 [] : NT)] := Els.one (rdT_close (x := (.mk 2 ([] : List UInt8) ([] : List UInt8) [] Xe11 [] : NT)) ⟨by show (0 : Int) ≤ 2; decide, by show (2 : Int) ≤ 255; decide⟩ ⟨by first | exact Nat.zero_le _ | (show _ ≤ _; omega) | (simp only [Tr.tag]; omega), by first | exact Nat.zero_le _ | (simp only [Tr.key]; omega), by first | exact Nat.zero_le _ | (simp only [Tr.text]; omega)⟩ RdSl.nil RdSl.nil) rfl
      refine rl_append_row F M (k := 2) (k2 := 0) rfl rfl tok28.k tok30 rfl rfl (by decide) rfl rfl (by show _ * 104 ≤ _; (try simp only [List.length_drop, List.length_take, List.length_append, List.length_cons, List.length_nil]); omega) (by (try simp only [List.length_drop, List.length_take, List.length_append, List.length_cons, List.length_nil]); omega) rfl ?_; clear F M a; intro v14 w a M F
      have Ev14 := Els.append Ey E13
      obtain ⟨av14, cv14, rfl, hlev14, hcmv14, hlv14⟩ := M.row_shape (k := 2) rfl
      refine rl_run F (run_assign (F.ev rfl)) rfl ?_; clear F a; intro a F
      refine rl_nil <| q_tn <| wp_exit <| q_te <| q_bh <| q_tn ?_
      obtain ⟨f8, hB8, hf8⟩ := lb_words hB hf9 hXe4 (by assumption) (by assumption) (by omega) (by assumption) hXe11
      exact ⟨_, by omega, (q + 1), (ps ++ ([(.mk 2 ([] : List UInt8) ([] : List UInt8) [] Xe11 [] : NT)])), (av14), (ny + 1), (cv14), (csy ++ ([.int .u8 (2), .string (str ([] : List UInt8)), .string (str ([] : List UInt8)), .slice none (0) (0), .string (str (Xe11)), .slice none (0) (0)])), f8, rfl, G1, hG1, F.to ⟨rfl, rfl, rfl, rfl, trivial⟩, (M.weaken (.cons _ (.cons _ (.cons_cons _ (List.Sublist.refl _))))), by omega, hI.one (by omega) (okWordsN (in_lit nwdS_ok hXe11)) (Or.inl rfl) rfl, by rw [List.length_append, ← hny]; rfl, Ev14, hB8, hf8⟩
     ·intro hc
      have h15b := hc; clear hc
      have h15 : ¬ ((nb Xe4) % 8 < 3) := of_decide_eq_false h15b
      refine wp_skip <| q_tn <| wp_seq <| w_reg <| rl_run F (run_move (F.ev rfl)) rfl ?_; clear F a; intro a F
      refine rl_run F (run_quoi (F.ev rfl) (F.ev rfl) (by omega) (by omega) (in_u8 (by omega) (by omega))) rfl ?_; clear F a; intro a F
      refine rl_callS F ent53 rfl rfl (etag_spec (n := Xe4.toNat / 8) M (by omega)) ?_; clear F M a; rintro _ w a M ⟨tg16, rfl, htg16, etg16⟩ F
      have hltg16 := htg16.1.2
      refine rl_run F (run_move (F.ev rfl)) rfl ?_; clear F a; intro a F
      refine rl_run F (run_quoi (F.ev rfl) (F.ev rfl) (by omega) (by omega) (in_u8 (by omega) (by omega))) rfl ?_; clear F a; intro a F
      refine rl_call F ent54 rfl rfl (eattrs_made (n := Xe4.toNat / 2) M (by omega)) ?_; clear F M a; rintro _ Gk17 w a hGk17 M ⟨ak17, ck17, ssk17, rfl, Sk17, hSk17, hS3k17, eAk17⟩ F
      replace S := S.mono mono_rdB hGk17
      replace Ey := Ey.mono mono_rdN hGk17
      replace Ae4 := Ae4.mono hGk17
      refine rl_run F (run_buildS (cs := [.int .u8 (1), .string (str (tg16)), .string (str ([] : List UInt8)), .slice (ak17) (ssk17.length) (ck17), .string (str ([] : List UInt8)), .slice none (0) (0)]) (ps := [(0, .int .u8 (1)), (1, .string (str (tg16))), (3, .slice (ak17) (ssk17.length) (ck17))]) tok30.k rfl tok30 (F.evp rfl) rfl) rfl ?_; clear F a; intro a F
      refine rl_alloc F M tok30 rfl rfl ?_; clear F M a; intro b18 w a M F
      refine rl_storeA F M tok30 (k := 0) rfl rfl rfl (us := [.int .u8 (1), .string (str (tg16)), .string (str ([] : List UInt8)), .slice (ak17) (ssk17.length) (ck17), .string (str ([] : List UInt8)), .slice none (0) (0)]) rfl rfl (by simp [Value.oneCell']) (by simp) ?_; clear F M a; intro w a M F
      change Mem w0 Gk17 (.blk b18 [.int .u8 (1), .string (str (tg16)), .string (str ([] : List UInt8)), .slice (ak17) (ssk17.length) (ck17), .string (str ([] : List UInt8)), .slice none (0) (0)] 30 :: _ :: L) _ at M
      refine rl_nil <| q_tn ?_
      iterate 2 (refine wp_seq ?_)
      refine w_reg <| rl_run F (run_move (F.ev rfl)) rfl ?_; clear F a; intro a F
      refine rl_run F (run_remi (F.ev rfl) (F.ev rfl) (by omega) (by omega)) rfl ?_; clear F a; intro a F
      refine rl_run F (run_eqi (F.ev rfl) (F.ev rfl)) rfl ?_; clear F a; intro a F
      refine rl_nil <| q_tn <| w_cut (fun a' w' => ∃ (kk9 : List UInt8), Fits 96 a' [(0, .slice (ca) (cs.length) (cc)), (1, .int .i64 ((((q : Nat) : Int)) + 1)), (2, .int .i64 (((lv : Nat) : Int))), (8, .slice (ay) (ny) (cy)), (10, .pointer (some ⟨b18, 0, none⟩))] ∧ Mem w0 Gk17 (.blk b18 [.int .u8 (1), .string (str (tg16)), .string (str (kk9)), .slice (ak17) (ssk17.length) (ck17), .string (str ([] : List UInt8)), .slice none (0) (0)] 30 :: .row (.slice (ay) (ny) (cy)) (ny) (csy) 30 6 :: L) w' ∧ (kk9 = [] ∨ (Name kk9 ∧ ∀ a ∈ ps, a.key ≠ kk9)) ∧ (kk9 = if Xe4.toNat % 8 = 3 then kyPick ps (pickS nkyS (Xe4.toNat / 8 % 4)) else [])) ?_ ?_
      ·skip
       refine w_cond F rfl ?_ ?_
       ·intro hc
        have h20b := hc; clear hc
        have h20 : (nb Xe4) % 8 = 3 := of_decide_eq_true h20b
        refine wp_seq <| w_reg <| rl_buildSliceN F M tok49.k tok9 (ps := [(0, .string (str ([107, 48] : List UInt8))), (1, .string (str ([107, 49] : List UInt8))), (2, .string (str ([107, 50] : List UInt8))), (3, .string (str ([107, 51] : List UInt8)))]) (cs := [[.string (str ([107, 48] : List UInt8))], [.string (str ([107, 49] : List UInt8))], [.string (str ([107, 50] : List UInt8))], [.string (str ([107, 51] : List UInt8))]]) (fl := [.string (str ([107, 48] : List UInt8)), .string (str ([107, 49] : List UInt8)), .string (str ([107, 50] : List UInt8)), .string (str ([107, 51] : List UInt8))]) rfl rfl (by simp [Parts, Value.cells]) (by simp [ti9]) rfl (by simp [Value.oneCell']) (by decide) (by decide) rfl ?_; clear F M a; intro v21 w a M F
        obtain ⟨av21, cv21, rfl, hlev21, hcmv21, hlv21⟩ := M.row_shape (k := 0) rfl
        refine rl_run F (run_move (F.ev rfl)) rfl ?_; clear F a; intro a F
        refine rl_run F (run_quoi (F.ev rfl) (F.ev rfl) (by omega) (by omega) (in_u8 (by omega) (by omega))) rfl ?_; clear F a; intro a F
        refine rl_run F (run_remi (F.ev rfl) (F.ev rfl) (by omega) (by omega)) rfl ?_; clear F a; intro a F
        obtain ⟨Xe22, hXe22⟩ := get_of_lt (xs := nkyS) (i := (Xe4.toNat / 8) % 4) (by show _ < 4; omega)
        obtain ⟨be22, _, Ie22, hme22, _, Ae22, ⟨rfl, hsle22⟩⟩ := M.atRow (k := 0) rfl (by decide) nkyE hXe22
        refine rl_run F (run_indexI tok49.k tok9 (F.ev rfl) (F.ev rfl) (by omega) Ie22) rfl ?_; clear F a; intro a F
        refine rl_run F (run_load1 (agf tok9 rfl) (F.ev rfl) (cellE Ae22 0 (by omega) rfl)) rfl ?_; clear F a; intro a F
        refine rl_run F (run_fieldAddr tok30.k rfl rfl (F.ev rfl)) rfl ?_; clear F a; intro a F
        refine rl_store1 F M tok9 rfl (k := 1) rfl rfl rfl rfl rfl ?_; clear F M a; intro w a M F
        refine rl_nil <| q_tn <| wp_seq <| w_reg <| rl_run F (run_assign (F.ev rfl)) rfl ?_; clear F a; intro a F
        refine rl_nil <| q_tn <| wp_block <| w_loopN (fun m a' w' => ∃ (j : Nat), ∃ (kk : List UInt8), m = ps.length - j ∧ Fits 96 a' [(0, .slice (ca) (cs.length) (cc)), (1, .int .i64 ((((q : Nat) : Int)) + 1)), (2, .int .i64 (((lv : Nat) : Int))), (8, .slice (ay) (ny) (cy)), (10, .pointer (some ⟨b18, 0, none⟩)), (11, .int .i64 (((j : Nat) : Int)))] ∧ Mem w0 Gk17 (.row (.slice (av21) (4) (cv21)) (4) ([.string (str ([107, 48] : List UInt8)), .string (str ([107, 49] : List UInt8)), .string (str ([107, 50] : List UInt8)), .string (str ([107, 51] : List UInt8))]) 9 1 :: .blk b18 [.int .u8 (1), .string (str (tg16)), .string (str (kk)), .slice (ak17) (ssk17.length) (ck17), .string (str ([] : List UInt8)), .slice none (0) (0)] 30 :: .row (.slice (ay) (ny) (cy)) (ny) (csy) 30 6 :: L) w' ∧ (j ≤ ps.length) ∧ (kk = [] ∨ (kk = Xe22 ∧ ∀ (m : Nat) (d : NT), m < j → ps[m]? = some d → ¬ d.key = Xe22)) ∧ (kk = kyPick (ps.take j) Xe22)) _ ⟨0, Xe22, rfl, F.to ⟨rfl, rfl, rfl, rfl, rfl, rfl, trivial⟩, M, Nat.zero_le _, Or.inr ⟨rfl, fun m d h => by omega⟩, by simp [kyPick]⟩ ?_
        clear F M
        rintro m a w ⟨j, kk, rfl, F, M, hj, hkk, hkE⟩
        iterate 2 (refine wp_seq ?_)
        refine w_reg ?_
        iterate 2 (refine rl_run F (run_move (F.ev rfl)) rfl ?_; clear F a; intro a F)
        refine rl_run F (run_lenSl tok28.k (F.ev rfl)) rfl ?_; clear F a; intro a F
        refine rl_run F (run_lss (F.ev rfl) (F.ev rfl)) rfl ?_; clear F a; intro a F
        refine rl_nil <| q_tn <| w_cond F rfl ?_ ?_
        ·intro hc
         have h23b := hc; clear hc
         have h23 : ((j : Nat) : Int) < ((ny : Nat) : Int) := of_decide_eq_true h23b
         refine wp_skip <| q_tn <| wp_seq <| wp_block <| wp_seq <| w_plan2 [(.free, 0), (.free, 1), (.free, 2), (.free, 3), (.pure, 4), (.free, 5), (.pure, 6), (.free, 7)] [] (Keep Gk17 [.row (.slice (av21) (4) (cv21)) (4) ([.string (str ([107, 48] : List UInt8)), .string (str ([107, 49] : List UInt8)), .string (str ([107, 50] : List UInt8)), .string (str ([107, 51] : List UInt8))]) 9 1, .blk b18 [.int .u8 (1), .string (str (tg16)), .string (str (kk)), .slice (ak17) (ssk17.length) (ck17), .string (str ([] : List UInt8)), .slice none (0) (0)] 30, .row (.slice (ay) (ny) (cy)) (ny) (csy) 30 6]) rfl (by kernel_rfl) (fun c a d v w h => by cases d <;> exact h) ((M.drew _).keep (Gle.refl _) (by simp)) ?_
         replace M := M.drew (w.drawn + 1)
         iterate 2 (refine pk_free F (fun w _ => run_move (F.ev rfl)) rfl ?_; clear F a; intro a F)
         obtain ⟨Xe24, hXe24⟩ := get_of_lt (xs := ps) (i := j) (by omega)
         obtain ⟨be24, _, Ie24, hme24, _, Ae24, hTe24⟩ := M.atRowK (k := 2) rfl (by decide) Ey (Lr := [.row (.slice (av21) (4) (cv21)) (4) ([.string (str ([107, 48] : List UInt8)), .string (str ([107, 49] : List UInt8)), .string (str ([107, 50] : List UInt8)), .string (str ([107, 51] : List UInt8))]) 9 1, .blk b18 [.int .u8 (1), .string (str (tg16)), .string (str (kk)), .slice (ak17) (ssk17.length) (ck17), .string (str ([] : List UInt8)), .slice none (0) (0)] 30, .row (.slice (ay) (ny) (cy)) (ny) (csy) 30 6]) (k' := 2) rfl hXe24
         obtain ⟨tae24, tce24, kae24, kce24, rfl, hke24, hle24, SAe24, SKe24⟩ := rdT_open hTe24
         refine pk_free F (fun w _ => run_indexI tok28.k tok30 (F.ev rfl) (F.ev rfl) (by omega) Ie24) rfl ?_; clear F a; intro a F
         refine pk_free F (fun w _ => run_fieldAddr tok30.k rfl rfl (F.ev rfl)) rfl ?_; clear F a; intro a F
         refine pk_pure F (fun w M => run_load1 (agf tok9 rfl) (F.ev rfl) (cellE (Ae24 w M) 2 rfl rfl)) rfl ?_; clear F a; intro a F
         refine pk_free F (fun w _ => run_fieldAddr tok30.k rfl rfl (F.ev rfl)) rfl ?_; clear F a; intro a F
         refine pk_pure F (fun w M => run_load1 (agf tok9 rfl) (F.ev rfl) (M.cellL (k := 1) rfl rfl)) rfl ?_; clear F a; intro a F
         refine pk_free F (fun w _ => run_strEq (F.ev rfl) (F.ev rfl)) rfl ?_; clear F a; intro a F
         refine pk_nil ?_
         generalize ({ w with drawn := w.drawn + 1 } : World) = w at M ⊢
         refine q_tn <| w_cond F rfl ?_ ?_
         ·intro hc
          have h25b := hc; clear hc
          have h25 : Xe24.key = kk := of_decide_eq_true h25b
          refine w_reg <| rl_run F (run_fieldAddr tok30.k rfl rfl (F.ev rfl)) rfl ?_; clear F a; intro a F
          refine rl_store1 F M tok9 rfl (k := 1) rfl rfl rfl rfl rfl ?_; clear F M a; intro w a M F
          refine rl_nil <| q_bn <| q_tn <| w_reg <| rl_run F (run_move (F.ev rfl)) rfl ?_; clear F a; intro a F
          refine rl_run F (run_addi (F.ev rfl) (F.ev rfl) (in_i64 (by omega) (by omega))) rfl ?_; clear F a; intro a F
          refine rl_run F (run_assign (F.ev rfl)) rfl ?_; clear F a; intro a F
          refine rl_nil <| q_tn ?_
          exact ⟨_, by omega, j + 1, ([] : List UInt8), rfl, F.to ⟨rfl, rfl, rfl, rfl, rfl, rfl, trivial⟩, M, by omega, Or.inl rfl, kyPick_yes hkE hXe24 (by assumption)⟩
         ·intro hc
          have h26b := hc; clear hc
          have h26 : ¬ (Xe24.key = kk) := of_decide_eq_false h26b
          refine wp_skip <| q_bn <| q_tn <| w_reg <| rl_run F (run_move (F.ev rfl)) rfl ?_; clear F a; intro a F
          refine rl_run F (run_addi (F.ev rfl) (F.ev rfl) (in_i64 (by omega) (by omega))) rfl ?_; clear F a; intro a F
          refine rl_run F (run_assign (F.ev rfl)) rfl ?_; clear F a; intro a F
          refine rl_nil <| q_tn ?_
          exact ⟨_, by omega, j + 1, kk, rfl, F.to ⟨rfl, rfl, rfl, rfl, rfl, rfl, trivial⟩, M, by omega, key_step hkk hXe24 (by assumption), kyPick_no hkE hXe24 (by assumption)⟩
        ·intro hc
         have h27b := hc; clear hc
         have h27 : ¬ (((j : Nat) : Int) < ((ny : Nat) : Int)) := of_decide_eq_false h27b
         refine wp_exit ?_
         iterate 2 (refine q_te ?_)
         refine q_bh ?_
         exact ⟨kk, F.to ⟨rfl, rfl, rfl, rfl, rfl, trivial⟩, (M.weaken (.cons _ (.cons_cons _ (.cons_cons _ (List.Sublist.refl _))))), key_done hkk (by omega) (in_lit nkyS_ok hXe22), by rw [if_pos (by omega), pick_is hXe22]; exact kyPick_all hkE (by omega)⟩
       ·intro hc
        have h28b := hc; clear hc
        have h28 : ¬ ((nb Xe4) % 8 = 3) := of_decide_eq_false h28b
        refine wp_skip ?_
        exact ⟨([] : List UInt8), F.to ⟨rfl, rfl, rfl, rfl, rfl, trivial⟩, M, Or.inl rfl, by rw [if_neg (by omega)]⟩
      ·clear F M
       rintro a w ⟨kk9, F, M, hkk9, hkE9⟩
       refine q_tn ?_
       iterate 2 (refine wp_seq ?_)
       refine w_reg <| rl_run F (run_move (F.ev rfl)) rfl ?_; clear F a; intro a F
       refine rl_run F (run_lss (F.ev rfl) (F.ev rfl)) rfl ?_; clear F a; intro a F
       refine rl_nil <| q_tn <| w_cond F rfl ?_ ?_
       ·intro hc
        have h29b := hc; clear hc
        have h29 : ((lv : Nat) : Int) < 5 := of_decide_eq_true h29b
        obtain ⟨d2, rfl⟩ : ∃ d2, d = d2 + 1 := ⟨d - 1, by omega⟩
        refine w_reg ?_
        iterate 3 (refine rl_run F (run_move (F.ev rfl)) rfl ?_; clear F a; intro a F)
        refine rl_run F (run_addi (F.ev rfl) (F.ev rfl) (in_i64 (by omega) (by omega))) rfl ?_; clear F a; intro a F
        refine rl_call F ent55 rfl rfl (ih d2 rfl _ _ _ _ _ _ cs (q + 1) (lv + 1) M S (by omega) (by omega)) ?_; clear F M a; rintro _ Gk30 w a hGk30 M ⟨ak30, ck30, psk30, qk30, rfl, Sk30, hqk30, hrk30, hPk30, bqk30⟩ F
        replace S := S.mono mono_rdB hGk30
        replace Ey := Ey.mono mono_rdN hGk30
        replace Ae4 := Ae4.mono hGk30
        replace Sk17 := Sk17.mono mono_rdAttr hGk30
        refine rl_run F (run_move (F.ev rfl)) rfl ?_; clear F a; intro a F
        refine rl_run F (run_extract (v := .slice (ak30) (psk30.length) (ck30)) (F.ev rfl) rfl) rfl ?_; clear F a; intro a F
        refine rl_run F (run_extract (v := .int .i64 (((qk30 : Nat) : Int))) (F.ev rfl) rfl) rfl ?_; clear F a; intro a F
        refine rl_run F (run_fieldAddr tok30.k rfl rfl (F.ev rfl)) rfl ?_; clear F a; intro a F
        refine rl_store1 F M tok28 rfl (k := 0) rfl rfl rfl rfl rfl ?_; clear F M a; intro w a M F
        refine rl_run F (run_assign (F.ev rfl)) rfl ?_; clear F a; intro a F
        refine rl_nil <| q_tn ?_
        have hkl9 := key_len hkk9
        have hIl := hI.le
        refine w_reg <| rl_run F (run_move (F.ev rfl)) rfl ?_; clear F a; intro a F
        refine rl_run F (run_loadA tok30 rfl (F.ev rfl) (cs := [.int .u8 (1), .string (str (tg16)), .string (str (kk9)), .slice (ak17) (ssk17.length) (ck17), .string (str ([] : List UInt8)), .slice (ak30) (psk30.length) (ck30)]) rfl (M.cellsL (k := 0) rfl rfl)) rfl ?_; clear F a; intro a F
        refine rl_buildSlice1 F M tok28.k tok30 rfl rfl (cs := [.int .u8 (1), .string (str (tg16)), .string (str (kk9)), .slice (ak17) (ssk17.length) (ck17), .string (str ([] : List UInt8)), .slice (ak30) (psk30.length) (ck30)]) rfl rfl (by simp [Value.oneCell']) (by decide) rfl ?_; clear F M a; intro v31 w a M F
        obtain ⟨av31, cv31, rfl, hlev31, hcmv31, hlv31⟩ := M.row_shape (k := 0) rfl
        have E32 : Els rdN 6 Gk30 [.int .u8 (1), .string (str (tg16)), .string (str (kk9)), .slice (ak17) (ssk17.length) (ck17), .string (str ([] : List UInt8)), .slice (ak30) (psk30.length) (ck30)] [(.mk 1 tg16 kk9 ssk17 ([] : List UInt8) psk30 : NT)] := Els.one (rdT_close (x := (.mk 1 tg16 kk9 ssk17 ([] : List UInt8) psk30 : NT)) ⟨by show (0 : Int) ≤ 1; decide, by show (1 : Int) ≤ 255; decide⟩ ⟨by first | exact Nat.zero_le _ | (show _ ≤ _; omega) | (simp only [Tr.tag]; omega), by first | exact Nat.zero_le _ | (simp only [Tr.key]; omega), by first | exact Nat.zero_le _ | (simp only [Tr.text]; omega)⟩ Sk17 Sk30) rfl
        refine rl_append_row F M (k := 2) (k2 := 0) rfl rfl tok28.k tok30 rfl rfl (by decide) rfl rfl (by show _ * 104 ≤ _; (try simp only [List.length_drop, List.length_take, List.length_append, List.length_cons, List.length_nil]); omega) (by (try simp only [List.length_drop, List.length_take, List.length_append, List.length_cons, List.length_nil]); omega) rfl ?_; clear F M a; intro v33 w a M F
        have Ev33 := Els.append Ey E32
        obtain ⟨av33, cv33, rfl, hlev33, hcmv33, hlv33⟩ := M.row_shape (k := 2) rfl
        refine rl_run F (run_assign (F.ev rfl)) rfl ?_; clear F a; intro a F
        refine rl_nil <| q_bn <| q_tn ?_
        obtain ⟨f8, hB8, hf8⟩ := (lb_elem hB hf9 hXe4 (by assumption) (by assumption) (by omega) (by assumption) etg16 hkE9 eAk17).1 rfl (psk30, qk30) bqk30.symm (by show q < qk30; omega)
        dsimp only at hB8 hf8
        exact ⟨_, by omega, (qk30), (ps ++ ([(.mk 1 tg16 kk9 ssk17 ([] : List UInt8) psk30 : NT)])), (av33), (ny + 1), (cv33), (csy ++ ([.int .u8 (1), .string (str (tg16)), .string (str (kk9)), .slice (ak17) (ssk17.length) (ck17), .string (str ([] : List UInt8)), .slice (ak30) (psk30.length) (ck30)])), f8, rfl, Gk30, ((hG1.trans hGk17).trans hGk30), F.to ⟨rfl, rfl, rfl, rfl, trivial⟩, (M.weaken (.cons _ (.cons _ (.cons_cons _ (List.Sublist.refl _))))), by omega, hI.add (by omega) (okElemN (by assumption) (key_or hkk9).1 hSk17 (by have := hS3k17; omega) hPk30.le hPk30.keys hPk30.ok) (key_or hkk9).2 (by have := hPk30.sz; rw [Tr.size_eq]; simp only [Tr.kids]; omega), by rw [List.length_append, ← hny]; rfl, Ev33, hB8, hf8⟩
       ·intro hc
        have h34b := hc; clear hc
        have h34 : ¬ (((lv : Nat) : Int) < 5) := of_decide_eq_false h34b
        refine wp_skip <| q_tn ?_
        have hkl9 := key_len hkk9
        have hIl := hI.le
        refine w_reg <| rl_run F (run_move (F.ev rfl)) rfl ?_; clear F a; intro a F
        refine rl_run F (run_loadA tok30 rfl (F.ev rfl) (cs := [.int .u8 (1), .string (str (tg16)), .string (str (kk9)), .slice (ak17) (ssk17.length) (ck17), .string (str ([] : List UInt8)), .slice none (0) (0)]) rfl (M.cellsL (k := 0) rfl rfl)) rfl ?_; clear F a; intro a F
        refine rl_buildSlice1 F M tok28.k tok30 rfl rfl (cs := [.int .u8 (1), .string (str (tg16)), .string (str (kk9)), .slice (ak17) (ssk17.length) (ck17), .string (str ([] : List UInt8)), .slice none (0) (0)]) rfl rfl (by simp [Value.oneCell']) (by decide) rfl ?_; clear F M a; intro v35 w a M F
        obtain ⟨av35, cv35, rfl, hlev35, hcmv35, hlv35⟩ := M.row_shape (k := 0) rfl
        have E36 : Els rdN 6 Gk17 [.int .u8 (1), .string (str (tg16)), .string (str (kk9)), .slice (ak17) (ssk17.length) (ck17), .string (str ([] : List UInt8)), .slice none (0) (0)] [(.mk 1 tg16 kk9 ssk17 ([] : List UInt8) [] : NT)] := Els.one (rdT_close (x := (.mk 1 tg16 kk9 ssk17 ([] : List UInt8) [] : NT)) ⟨by show (0 : Int) ≤ 1; decide, by show (1 : Int) ≤ 255; decide⟩ ⟨by first | exact Nat.zero_le _ | (show _ ≤ _; omega) | (simp only [Tr.tag]; omega), by first | exact Nat.zero_le _ | (simp only [Tr.key]; omega), by first | exact Nat.zero_le _ | (simp only [Tr.text]; omega)⟩ Sk17 RdSl.nil) rfl
        refine rl_append_row F M (k := 2) (k2 := 0) rfl rfl tok28.k tok30 rfl rfl (by decide) rfl rfl (by show _ * 104 ≤ _; (try simp only [List.length_drop, List.length_take, List.length_append, List.length_cons, List.length_nil]); omega) (by (try simp only [List.length_drop, List.length_take, List.length_append, List.length_cons, List.length_nil]); omega) rfl ?_; clear F M a; intro v37 w a M F
        have Ev37 := Els.append Ey E36
        obtain ⟨av37, cv37, rfl, hlev37, hcmv37, hlv37⟩ := M.row_shape (k := 2) rfl
        refine rl_run F (run_assign (F.ev rfl)) rfl ?_; clear F a; intro a F
        refine rl_nil <| q_bn <| q_tn ?_
        obtain ⟨f8, hB8, hf8⟩ := (lb_elem hB hf9 hXe4 (by assumption) (by assumption) (by omega) (by assumption) etg16 hkE9 eAk17).2 (by rw [show d = 0 by omega]; rfl)
        exact ⟨_, by omega, (q + 1), (ps ++ ([(.mk 1 tg16 kk9 ssk17 ([] : List UInt8) [] : NT)])), (av37), (ny + 1), (cv37), (csy ++ ([.int .u8 (1), .string (str (tg16)), .string (str (kk9)), .slice (ak17) (ssk17.length) (ck17), .string (str ([] : List UInt8)), .slice none (0) (0)])), f8, rfl, Gk17, (hG1.trans hGk17), F.to ⟨rfl, rfl, rfl, rfl, trivial⟩, (M.weaken (.cons _ (.cons _ (.cons_cons _ (List.Sublist.refl _))))), by omega, hI.one (by omega) (okElemN (by assumption) (key_or hkk9).1 hSk17 (by have := hS3k17; omega) (by simp) keysNil (by simp)) (key_or hkk9).2 rfl, by rw [List.length_append, ← hny]; rfl, Ev37, hB8, hf8⟩
  ·intro hc
   have h38b := hc; clear hc
   have h38 : ¬ (((q : Nat) : Int) < 19) := of_decide_eq_false h38b
   refine wp_exit ?_
   iterate 2 (refine q_te ?_)
   refine q_bh <| q_tn <| wp_seq <| w_reg ?_
   iterate 2 (refine rl_run F (run_move (F.ev rfl)) rfl ?_; clear F a; intro a F)
   iterate 2 (refine rl_run F (run_assign (F.ev rfl)) rfl ?_; clear F a; intro a F)
   refine rl_nil <| q_tn <| wp_ret <| fin2 F rfl rfl rfl ?_
   change Mem w0 G1 (_ :: L) _ at M
   subst hny
   exact ⟨_, _, hG1, M.weaken (.cons_cons _ (List.Sublist.refl _)), _, _, _, ps, q, rfl, rfl, Ey, by omega, by omega, hI, lb_end hB hf9 (by first | exact Or.inl (by assumption) | exact Or.inr (by assumption))⟩
 ·skip
  have h39b := hc; clear hc
  have h39 : ¬ (((q : Nat) : Int) < ((cs.length : Nat) : Int)) := of_decide_eq_false h39b
  iterate 2 (refine rl_guard_f F rfl rfl rfl h39b ?_; clear F a; intro a F)
  refine rl_run F (run_pick_f (F.ev rfl) h39b (F.ev rfl)) rfl ?_; clear F a; intro a F
  refine rl_nil <| q_tn <| w_cond_f F rfl rfl ?_
  refine wp_exit ?_
  iterate 2 (refine q_te ?_)
  refine q_bh <| q_tn <| wp_seq <| w_reg ?_
  iterate 2 (refine rl_run F (run_move (F.ev rfl)) rfl ?_; clear F a; intro a F)
  iterate 2 (refine rl_run F (run_assign (F.ev rfl)) rfl ?_; clear F a; intro a F)
  refine rl_nil <| q_tn <| wp_ret <| fin2 F rfl rfl rfl ?_
  change Mem w0 G1 (_ :: L) _ at M
  subst hny
  exact ⟨_, _, hG1, M.weaken (.cons_cons _ (List.Sublist.refl _)), _, _, _, ps, q, rfl, rfl, Ey, by omega, by omega, hI, lb_end hB hf9 (by first | exact Or.inl (by assumption) | exact Or.inr (by assumption))⟩
theorem buildE_frz {d : Nat} {f : FuncId} {args : Array Value} {w0 w : World} {G : Ghost} {L : List Res} {cs : List UInt8} {q0 : Nat} (h : Calls Tryz.prog f args w (RetM w0 G fun G' L' v => ∃ a' c' cs' ps q', v = .tuple #[.slice a' ps.length c', .int .i64 ((q' : Nat) : Int)] ∧ L' = (.row (.slice a' ps.length c') ps.length cs' 30 6 :: L) ∧ Els rdN 6 G' cs' ps ∧ q' ≤ 19 ∧ q0 ≤ q' ∧ NsInv d q0 q' ps ∧ buildFn cs d q0 = (ps, q'))) : Calls Tryz.prog f args w (Ret w0 G L fun G' v => ∃ a' c' ps q', v = .tuple #[.slice a' ps.length c', .int .i64 ((q' : Nat) : Int)] ∧ RdSl rdN 6 G' (.slice a' ps.length c') ps ∧ q' ≤ 19 ∧ q0 ≤ q' ∧ NsInv d q0 q' ps ∧ buildFn cs d q0 = (ps, q')) := by
 refine h.mono fun q w' hq => ?_
 cases q with
 | returned v =>
  obtain ⟨G1, L', hG1, M', a', c', cs', ps, q', rfl, rfl, hE, h1, h2, h3, h4⟩ := hq
  obtain ⟨_, G2, _, _, hG2, _, S1, M1⟩ := M'.freeze_row mono_rdN (k := 0) rfl hE (by decide)
  exact ⟨G2, hG1.trans hG2, M1, a', c', ps, q', rfl, S1, h1, h2, h3, h4⟩
 | panicked c => exact hq.elim
 | outgrown => exact hq.elim
theorem buildE_all : ∀ d, BuildE d
 | 0 => fun w0 w G L ca cc cs q0 lv M S hq0 hlv => buildE_frz (buildE_step (fun e he => by omega) M S hq0 hlv)
 | d + 1 => fun w0 w G L ca cc cs q0 lv M S hq0 hlv => buildE_frz (buildE_step (fun e he => by rw [show e = d by omega]; exact buildE_all d) M S hq0 hlv)
theorem buildO {w0 w : World} {G : Ghost} {L : List Res} (M : Mem w0 G L w) {ca : Option Addr} {cc : Nat} {cs : List UInt8} (S : RdSl rdB 1 G (.slice ca cs.length cc) cs) : Calls Tryz.prog 55 #[.slice ca cs.length cc, .int .i64 ((0 : Nat) : Int), .int .i64 ((2 : Nat) : Int)] w (RetM w0 G fun G' L' v => ∃ a' c' cs' ps q', v = .tuple #[.slice a' ps.length c', .int .i64 ((q' : Nat) : Int)] ∧ L' = (.row (.slice a' ps.length c') ps.length cs' 30 6 :: L) ∧ Els rdN 6 G' cs' ps ∧ q' ≤ 19 ∧ 0 ≤ q' ∧ NsInv 3 0 q' ps ∧ buildFn cs 3 0 = (ps, q')) := buildE_step (d := 3) (fun e he => by rw [show e = 2 by omega]; exact buildE_all 2) M S (Nat.zero_le _) rfl
theorem nofO_spec {w0 w : World} {G : Ghost} {L : List Res} (M : Mem w0 G L w) {ca : Option Addr} {cc : Nat} {cs : List UInt8} (S : RdSl rdB 1 G (.slice ca cs.length cc) cs) {pt psl : Nat} (hpt : pt < 256) (hps : psl < 256) : Calls Tryz.prog 14 #[.agg #[.int .u8 (((pt : Nat) : Int)), .int .u8 (((psl : Nat) : Int)), .slice (ca) (cs.length) (cc)]] w (RetM w0 G fun G' L' v => ∃ (x : NT) (ta ka : Option Addr) (tc kc : Nat) (csa csk : List Value), v = .agg #[.int .u8 (x.kind), .string (str (x.tag)), .string (str (x.key)), .slice (ta) (x.as.length) (tc), .string (str (x.text)), .slice (ka) (x.kids.length) (kc)] ∧ L' = (.row (.slice ka x.kids.length kc) x.kids.length csk 30 6 :: .row (.slice ta x.as.length tc) x.as.length csa 87 2 :: L) ∧ Els rdAttr 2 G' csa x.as ∧ Els rdN 6 G' csk x.kids ∧ Valid x ∧ inKind .u8 x.kind ∧ (x.tag.length ≤ 9223372036854775807 ∧ x.key.length ≤ 9223372036854775807 ∧ x.text.length ≤ 9223372036854775807) ∧ x = nofFn cs pt psl) := by
 refine calls_start (vs := [_]) Tryz.func14 rfl (n := 24) rfl rfl ?_
 intro a F
 refine wp_seq <| w_reg <| rl_box F M rfl (cs := [.int .u8 (((pt : Nat) : Int)), .int .u8 (((psl : Nat) : Int)), .slice (ca) (cs.length) (cc)]) rfl rfl ?_; clear F M a; intro b1 w a M F
 refine rl_alloc F M tok30 rfl rfl ?_; clear F M a; intro b2 w a M F
 refine rl_nil <| q_tn <| wp_seq <| w_tree (.run 0 (.run 1 (.run 3 (.run 4 (.act 2 (.act 5 (.run 6 (.act 7 (.act 8 .fin .no) .no)) (.act 7 (.act 5 (.run 6 (.act 8 .fin .no)) .no) .no)) (.act 7 (.act 2 (.act 5 (.run 6 (.act 8 .fin .no)) .no) .no) .no)))))) (Keep G [.blk b1 [.int .u8 (((pt : Nat) : Int)), .int .u8 (((psl : Nat) : Int)), .slice (ca) (cs.length) (cc)] 24]) rfl (by kernel_rfl) (fun c a d v w h => by cases d <;> exact h) ((M.drew _).keep (Gle.refl _) (by simp)) ?_
 replace M := M.drew (w.drawn + 1)
 refine pt_run F (fun w M => run_fieldAddr tok24.k rfl rfl (F.ev rfl)) rfl ?_; clear F a; intro a F
 refine pt_run F (fun w M => run_load1 (agf tok5 rfl) (F.ev rfl) (M.cellL (k := 0) rfl rfl)) rfl ?_; clear F a; intro a F
 refine pt_run F (fun w M => run_fieldAddr tok24.k rfl rfl (F.ev rfl)) rfl ?_; clear F a; intro a F
 refine pt_run F (fun w M => run_load1 (agf tok5 rfl) (F.ev rfl) (M.cellL (k := 0) rfl rfl)) rfl ?_; clear F a; intro a F
 refine pt_act ?_ rfl ?_
 ·skip
  refine rl_callS F ent53 rfl rfl (etag_spec (n := pt) M (by omega)) ?_; clear F M a; rintro _ w a M ⟨tg4, rfl, htg4, etg4⟩ F
  have hltg4 := htg4.1.2
  refine rl_nil <| ⟨Keep G [.blk b1 [.int .u8 (((pt : Nat) : Int)), .int .u8 (((psl : Nat) : Int)), .slice (ca) (cs.length) (cc)] 24], M.keep (Gle.refl _) (by simp), fun w h => h.mono (Gle.refl _) (by simp), ?_⟩
  refine pt_act ?_ rfl ?_
  ·skip
   refine rl_callL F ent54 rfl rfl (eattrs_spec (n := psl) M (by omega)) ?_; clear F M a; rintro _ _ w a M ⟨ak5, ck5, csk5, ssk5, rfl, rfl, Ek5, hSk5, hS3k5, eAk5⟩ F
   refine rl_nil <| ⟨Keep G [.blk b1 [.int .u8 (((pt : Nat) : Int)), .int .u8 (((psl : Nat) : Int)), .slice (ca) (cs.length) (cc)] 24], M.keep (Gle.refl _) (by simp), fun w h => h.mono (Gle.refl _) (by simp), ?_⟩
   refine pt_run F (fun w M => run_buildS (cs := [.int .u8 (1), .string (str (tg4)), .string (str ([] : List UInt8)), .slice (ak5) (ssk5.length) (ck5), .string (str ([] : List UInt8)), .slice none (0) (0)]) (ps := [(0, .int .u8 (1)), (1, .string (str (tg4))), (3, .slice (ak5) (ssk5.length) (ck5))]) tok30.k rfl tok30 (F.evp rfl) rfl) rfl ?_; clear F a; intro a F
   refine pt_act ?_ rfl pt_no
   refine rl_alloc F M tok30 rfl rfl ?_; clear F M a; intro b6 w a M F
   refine rl_nil <| ⟨Keep G [.blk b1 [.int .u8 (((pt : Nat) : Int)), .int .u8 (((psl : Nat) : Int)), .slice (ca) (cs.length) (cc)] 24], M.keep (Gle.refl _) (by simp), fun w h => h.mono (Gle.refl _) (by simp), ?_⟩
   refine pt_act ?_ rfl pt_no
   refine rl_storeA F M tok30 (k := 0) rfl rfl rfl (us := [.int .u8 (1), .string (str (tg4)), .string (str ([] : List UInt8)), .slice (ak5) (ssk5.length) (ck5), .string (str ([] : List UInt8)), .slice none (0) (0)]) rfl rfl (by simp [Value.oneCell']) (by simp) ?_; clear F M a; intro w a M F
   change Mem w0 G (.blk b6 [.int .u8 (1), .string (str (tg4)), .string (str ([] : List UInt8)), .slice (ak5) (ssk5.length) (ck5), .string (str ([] : List UInt8)), .slice none (0) (0)] 30 :: _ :: _ :: _ :: L) _ at M
   refine rl_nil <| ⟨Keep G [.blk b1 [.int .u8 (((pt : Nat) : Int)), .int .u8 (((psl : Nat) : Int)), .slice (ca) (cs.length) (cc)] 24], M.keep (Gle.refl _) (by simp), fun w h => h.mono (Gle.refl _) (by simp), ?_⟩
   refine pt_fin <| q_tn ?_
   iterate 2 (refine wp_seq ?_)
   refine w_reg <| rl_run F (run_fieldAddr tok24.k rfl rfl (F.ev rfl)) rfl ?_; clear F a; intro a F
   refine rl_run F (run_load1 (agf tok5 rfl) (F.ev rfl) (M.cellL (k := 3) rfl rfl)) rfl ?_; clear F a; intro a F
   refine rl_run F (run_remi (F.ev rfl) (F.ev rfl) (by omega) (by omega)) rfl ?_; clear F a; intro a F
   refine rl_run F (run_eqi (F.ev rfl) (F.ev rfl)) rfl ?_; clear F a; intro a F
   refine rl_nil <| q_tn <| w_cut (fun a' w' => ∃ (kk9 : List UInt8), Fits 24 a' [(0, .agg #[.int .u8 (((pt : Nat) : Int)), .int .u8 (((psl : Nat) : Int)), .slice (ca) (cs.length) (cc)]), (1, .pointer (some ⟨b1, 0, none⟩)), (2, .pointer (some ⟨b2, 0, none⟩)), (3, .pointer (some ⟨b6, 0, none⟩))] ∧ Mem w0 G (.blk b6 [.int .u8 (1), .string (str (tg4)), .string (str (kk9)), .slice (ak5) (ssk5.length) (ck5), .string (str ([] : List UInt8)), .slice none (0) (0)] 30 :: .row (.slice (ak5) (ssk5.length) (ck5)) (ssk5.length) (csk5) 87 2 :: .blk b2 [.int .u8 (0), .string (str ([] : List UInt8)), .string (str ([] : List UInt8)), .slice none (0) (0), .string (str ([] : List UInt8)), .slice none (0) (0)] 30 :: .blk b1 [.int .u8 (((pt : Nat) : Int)), .int .u8 (((psl : Nat) : Int)), .slice (ca) (cs.length) (cc)] 24 :: L) w' ∧ (kk9 = [] ∨ Name kk9) ∧ (kk9 = if psl % 3 = 1 then [114, 111, 111, 116] else [])) ?_ ?_
   ·skip
    refine w_cond F rfl ?_ ?_
    ·intro hc
     have h8b := hc; clear hc
     have h8 : (((psl : Nat) : Int)) % 3 = 1 := of_decide_eq_true h8b
     refine w_reg <| rl_run F (run_fieldAddr tok30.k rfl rfl (F.ev rfl)) rfl ?_; clear F a; intro a F
     refine rl_store1 F M tok9 rfl (k := 0) rfl rfl rfl rfl rfl ?_; clear F M a; intro w a M F
     refine rl_nil ?_
     exact ⟨([114, 111, 111, 116] : List UInt8), F.to ⟨rfl, rfl, rfl, rfl, trivial⟩, M, Or.inr (by decide), by rw [if_pos (by omega)]⟩
    ·intro hc
     have h9b := hc; clear hc
     have h9 : ¬ ((((psl : Nat) : Int)) % 3 = 1) := of_decide_eq_false h9b
     refine wp_skip ?_
     exact ⟨([] : List UInt8), F.to ⟨rfl, rfl, rfl, rfl, trivial⟩, M, Or.inl rfl, by rw [if_neg (by omega)]⟩
   ·clear F M
    rintro a w ⟨kk9, F, M, hkk9, hkE9⟩
    refine q_tn <| wp_seq <| w_reg <| rl_run F (run_fieldAddr tok24.k rfl rfl (F.ev rfl)) rfl ?_; clear F a; intro a F
    refine rl_run F (run_load1 (agf tok22 rfl) (F.ev rfl) (M.cellL (k := 3) rfl rfl)) rfl ?_; clear F a; intro a F
    refine rl_callM F ent55 rfl rfl (buildO M S) ?_; clear F M a; rintro _ Gk10 _ w a hGk10 M ⟨ak10, ck10, csk10, psk10, qk10, rfl, rfl, Ek10, hqk10, hrk10, hPk10, bqk10⟩ F
    replace S := S.mono mono_rdB hGk10
    replace Ek5 := Ek5.mono mono_rdAttr hGk10
    refine rl_run F (run_move (F.ev rfl)) rfl ?_; clear F a; intro a F
    refine rl_run F (run_extract (v := .slice (ak10) (psk10.length) (ck10)) (F.ev rfl) rfl) rfl ?_; clear F a; intro a F
    refine rl_run F (run_extract (v := .int .i64 (((qk10 : Nat) : Int))) (F.ev rfl) rfl) rfl ?_; clear F a; intro a F
    refine rl_run F (run_fieldAddr tok30.k rfl rfl (F.ev rfl)) rfl ?_; clear F a; intro a F
    refine rl_store1 F M tok28 rfl (k := 1) rfl rfl rfl rfl rfl ?_; clear F M a; intro w a M F
    refine rl_nil <| q_tn <| wp_seq <| w_reg <| rl_run F (run_loadA tok30 rfl (F.ev rfl) (cs := [.int .u8 (1), .string (str (tg4)), .string (str (kk9)), .slice (ak5) (ssk5.length) (ck5), .string (str ([] : List UInt8)), .slice (ak10) (psk10.length) (ck10)]) rfl (M.cellsL (k := 1) rfl rfl)) rfl ?_; clear F a; intro a F
    refine rl_storeA F M tok30 (k := 3) rfl rfl rfl (us := [.int .u8 (1), .string (str (tg4)), .string (str (kk9)), .slice (ak5) (ssk5.length) (ck5), .string (str ([] : List UInt8)), .slice (ak10) (psk10.length) (ck10)]) rfl rfl (by simp [Value.oneCell']) (by simp) ?_; clear F M a; intro w a M F
    change Mem w0 Gk10 (_ :: .blk b6 [.int .u8 (1), .string (str (tg4)), .string (str (kk9)), .slice (ak5) (ssk5.length) (ck5), .string (str ([] : List UInt8)), .slice (ak10) (psk10.length) (ck10)] 30 :: _ :: .blk b2 [.int .u8 (1), .string (str (tg4)), .string (str (kk9)), .slice (ak5) (ssk5.length) (ck5), .string (str ([] : List UInt8)), .slice (ak10) (psk10.length) (ck10)] 30 :: _ :: L) _ at M
    refine rl_nil <| q_tn <| wp_ret <| fin_c F M (k := 3) rfl rfl tok30 rfl rfl rfl ?_
    replace M := M.perm (perm_front _ 2 _ rfl)
    replace M := M.perm (perm_front _ 1 _ rfl)
    change Mem w0 Gk10 (_ :: _ :: .blk b6 [.int .u8 (1), .string (str (tg4)), .string (str (kk9)), .slice (ak5) (ssk5.length) (ck5), .string (str ([] : List UInt8)), .slice (ak10) (psk10.length) (ck10)] 30 :: .blk b2 [.int .u8 (1), .string (str (tg4)), .string (str (kk9)), .slice (ak5) (ssk5.length) (ck5), .string (str ([] : List UInt8)), .slice (ak10) (psk10.length) (ck10)] 30 :: _ :: L) _ at M
    have hkl9 : kk9.length ≤ 16 := by rcases hkk9 with h | h; (subst h; simp); exact h.1.2
    exact ⟨_, _, hGk10, M.weaken (.cons_cons _ (.cons_cons _ (.cons _ (.cons _ (.cons _ (List.Sublist.refl _)))))), (.mk 1 tg4 kk9 ssk5 [] psk10 : NT), _, _, _, _, _, _, rfl, rfl, Ek5, Ek10, ⟨(okElemN (d := 4) (by assumption) hkk9 hSk5 (by have := hS3k5; omega) hPk10.le hPk10.keys hPk10.ok).mono (by decide), by have := hPk10.sz; rw [Tr.size_eq]; simp only [Tr.kids]; omega⟩, ⟨by show (0 : Int) ≤ 1; decide, by show (1 : Int) ≤ 255; decide⟩, ⟨by simp only [Tr.tag]; omega, by simp only [Tr.key]; omega, Nat.zero_le _⟩, by unfold nofFn; rw [← etg4, ← hkE9, ← eAk5, bqk10]⟩
  refine pt_act ?_ rfl ?_
  ·skip
   refine rl_alloc F M tok30 rfl rfl ?_; clear F M a; intro b11 w a M F
   refine rl_nil <| ⟨Keep G [.blk b1 [.int .u8 (((pt : Nat) : Int)), .int .u8 (((psl : Nat) : Int)), .slice (ca) (cs.length) (cc)] 24], M.keep (Gle.refl _) (by simp), fun w h => h.mono (Gle.refl _) (by simp), ?_⟩
   refine pt_act ?_ rfl pt_no
   refine rl_callL F ent54 rfl rfl (eattrs_spec (n := psl) M (by omega)) ?_; clear F M a; rintro _ _ w a M ⟨ak13, ck13, csk13, ssk13, rfl, rfl, Ek13, hSk13, hS3k13, eAk13⟩ F
   refine rl_nil <| ⟨Keep G [.blk b1 [.int .u8 (((pt : Nat) : Int)), .int .u8 (((psl : Nat) : Int)), .slice (ca) (cs.length) (cc)] 24], M.keep (Gle.refl _) (by simp), fun w h => h.mono (Gle.refl _) (by simp), ?_⟩
   refine pt_run F (fun w M => run_buildS (cs := [.int .u8 (1), .string (str (tg4)), .string (str ([] : List UInt8)), .slice (ak13) (ssk13.length) (ck13), .string (str ([] : List UInt8)), .slice none (0) (0)]) (ps := [(0, .int .u8 (1)), (1, .string (str (tg4))), (3, .slice (ak13) (ssk13.length) (ck13))]) tok30.k rfl tok30 (F.evp rfl) rfl) rfl ?_; clear F a; intro a F
   refine pt_act ?_ rfl pt_no
   refine rl_storeA F M tok30 (k := 1) rfl rfl rfl (us := [.int .u8 (1), .string (str (tg4)), .string (str ([] : List UInt8)), .slice (ak13) (ssk13.length) (ck13), .string (str ([] : List UInt8)), .slice none (0) (0)]) rfl rfl (by simp [Value.oneCell']) (by simp) ?_; clear F M a; intro w a M F
   change Mem w0 G (_ :: .blk b11 [.int .u8 (1), .string (str (tg4)), .string (str ([] : List UInt8)), .slice (ak13) (ssk13.length) (ck13), .string (str ([] : List UInt8)), .slice none (0) (0)] 30 :: _ :: _ :: L) _ at M
   refine rl_nil <| ⟨Keep G [.blk b1 [.int .u8 (((pt : Nat) : Int)), .int .u8 (((psl : Nat) : Int)), .slice (ca) (cs.length) (cc)] 24], M.keep (Gle.refl _) (by simp), fun w h => h.mono (Gle.refl _) (by simp), ?_⟩
   refine pt_fin <| q_tn ?_
   iterate 2 (refine wp_seq ?_)
   refine w_reg <| rl_run F (run_fieldAddr tok24.k rfl rfl (F.ev rfl)) rfl ?_; clear F a; intro a F
   refine rl_run F (run_load1 (agf tok5 rfl) (F.ev rfl) (M.cellL (k := 3) rfl rfl)) rfl ?_; clear F a; intro a F
   refine rl_run F (run_remi (F.ev rfl) (F.ev rfl) (by omega) (by omega)) rfl ?_; clear F a; intro a F
   refine rl_run F (run_eqi (F.ev rfl) (F.ev rfl)) rfl ?_; clear F a; intro a F
   refine rl_nil <| q_tn <| w_cut (fun a' w' => ∃ (kk9 : List UInt8), Fits 24 a' [(0, .agg #[.int .u8 (((pt : Nat) : Int)), .int .u8 (((psl : Nat) : Int)), .slice (ca) (cs.length) (cc)]), (1, .pointer (some ⟨b1, 0, none⟩)), (2, .pointer (some ⟨b2, 0, none⟩)), (3, .pointer (some ⟨b11, 0, none⟩))] ∧ Mem w0 G (.row (.slice (ak13) (ssk13.length) (ck13)) (ssk13.length) (csk13) 87 2 :: .blk b11 [.int .u8 (1), .string (str (tg4)), .string (str (kk9)), .slice (ak13) (ssk13.length) (ck13), .string (str ([] : List UInt8)), .slice none (0) (0)] 30 :: .blk b2 [.int .u8 (0), .string (str ([] : List UInt8)), .string (str ([] : List UInt8)), .slice none (0) (0), .string (str ([] : List UInt8)), .slice none (0) (0)] 30 :: .blk b1 [.int .u8 (((pt : Nat) : Int)), .int .u8 (((psl : Nat) : Int)), .slice (ca) (cs.length) (cc)] 24 :: L) w' ∧ (kk9 = [] ∨ Name kk9) ∧ (kk9 = if psl % 3 = 1 then [114, 111, 111, 116] else [])) ?_ ?_
   ·skip
    refine w_cond F rfl ?_ ?_
    ·intro hc
     have h14b := hc; clear hc
     have h14 : (((psl : Nat) : Int)) % 3 = 1 := of_decide_eq_true h14b
     refine w_reg <| rl_run F (run_fieldAddr tok30.k rfl rfl (F.ev rfl)) rfl ?_; clear F a; intro a F
     refine rl_store1 F M tok9 rfl (k := 1) rfl rfl rfl rfl rfl ?_; clear F M a; intro w a M F
     refine rl_nil ?_
     exact ⟨([114, 111, 111, 116] : List UInt8), F.to ⟨rfl, rfl, rfl, rfl, trivial⟩, M, Or.inr (by decide), by rw [if_pos (by omega)]⟩
    ·intro hc
     have h15b := hc; clear hc
     have h15 : ¬ ((((psl : Nat) : Int)) % 3 = 1) := of_decide_eq_false h15b
     refine wp_skip ?_
     exact ⟨([] : List UInt8), F.to ⟨rfl, rfl, rfl, rfl, trivial⟩, M, Or.inl rfl, by rw [if_neg (by omega)]⟩
   ·clear F M
    rintro a w ⟨kk9, F, M, hkk9, hkE9⟩
    refine q_tn <| wp_seq <| w_reg <| rl_run F (run_fieldAddr tok24.k rfl rfl (F.ev rfl)) rfl ?_; clear F a; intro a F
    refine rl_run F (run_load1 (agf tok22 rfl) (F.ev rfl) (M.cellL (k := 3) rfl rfl)) rfl ?_; clear F a; intro a F
    refine rl_callM F ent55 rfl rfl (buildO M S) ?_; clear F M a; rintro _ Gk16 _ w a hGk16 M ⟨ak16, ck16, csk16, psk16, qk16, rfl, rfl, Ek16, hqk16, hrk16, hPk16, bqk16⟩ F
    replace S := S.mono mono_rdB hGk16
    replace Ek13 := Ek13.mono mono_rdAttr hGk16
    refine rl_run F (run_move (F.ev rfl)) rfl ?_; clear F a; intro a F
    refine rl_run F (run_extract (v := .slice (ak16) (psk16.length) (ck16)) (F.ev rfl) rfl) rfl ?_; clear F a; intro a F
    refine rl_run F (run_extract (v := .int .i64 (((qk16 : Nat) : Int))) (F.ev rfl) rfl) rfl ?_; clear F a; intro a F
    refine rl_run F (run_fieldAddr tok30.k rfl rfl (F.ev rfl)) rfl ?_; clear F a; intro a F
    refine rl_store1 F M tok28 rfl (k := 2) rfl rfl rfl rfl rfl ?_; clear F M a; intro w a M F
    refine rl_nil <| q_tn <| wp_seq <| w_reg <| rl_run F (run_loadA tok30 rfl (F.ev rfl) (cs := [.int .u8 (1), .string (str (tg4)), .string (str (kk9)), .slice (ak13) (ssk13.length) (ck13), .string (str ([] : List UInt8)), .slice (ak16) (psk16.length) (ck16)]) rfl (M.cellsL (k := 2) rfl rfl)) rfl ?_; clear F a; intro a F
    refine rl_storeA F M tok30 (k := 3) rfl rfl rfl (us := [.int .u8 (1), .string (str (tg4)), .string (str (kk9)), .slice (ak13) (ssk13.length) (ck13), .string (str ([] : List UInt8)), .slice (ak16) (psk16.length) (ck16)]) rfl rfl (by simp [Value.oneCell']) (by simp) ?_; clear F M a; intro w a M F
    change Mem w0 Gk16 (_ :: _ :: .blk b11 [.int .u8 (1), .string (str (tg4)), .string (str (kk9)), .slice (ak13) (ssk13.length) (ck13), .string (str ([] : List UInt8)), .slice (ak16) (psk16.length) (ck16)] 30 :: .blk b2 [.int .u8 (1), .string (str (tg4)), .string (str (kk9)), .slice (ak13) (ssk13.length) (ck13), .string (str ([] : List UInt8)), .slice (ak16) (psk16.length) (ck16)] 30 :: _ :: L) _ at M
    refine rl_nil <| q_tn <| wp_ret <| fin_c F M (k := 3) rfl rfl tok30 rfl rfl rfl ?_
    replace M := M.perm (perm_front _ 1 _ rfl)
    replace M := M.perm (perm_front _ 1 _ rfl)
    change Mem w0 Gk16 (_ :: _ :: .blk b11 [.int .u8 (1), .string (str (tg4)), .string (str (kk9)), .slice (ak13) (ssk13.length) (ck13), .string (str ([] : List UInt8)), .slice (ak16) (psk16.length) (ck16)] 30 :: .blk b2 [.int .u8 (1), .string (str (tg4)), .string (str (kk9)), .slice (ak13) (ssk13.length) (ck13), .string (str ([] : List UInt8)), .slice (ak16) (psk16.length) (ck16)] 30 :: _ :: L) _ at M
    have hkl9 : kk9.length ≤ 16 := by rcases hkk9 with h | h; (subst h; simp); exact h.1.2
    exact ⟨_, _, hGk16, M.weaken (.cons_cons _ (.cons_cons _ (.cons _ (.cons _ (.cons _ (List.Sublist.refl _)))))), (.mk 1 tg4 kk9 ssk13 [] psk16 : NT), _, _, _, _, _, _, rfl, rfl, Ek13, Ek16, ⟨(okElemN (d := 4) (by assumption) hkk9 hSk13 (by have := hS3k13; omega) hPk16.le hPk16.keys hPk16.ok).mono (by decide), by have := hPk16.sz; rw [Tr.size_eq]; simp only [Tr.kids]; omega⟩, ⟨by show (0 : Int) ≤ 1; decide, by show (1 : Int) ≤ 255; decide⟩, ⟨by simp only [Tr.tag]; omega, by simp only [Tr.key]; omega, Nat.zero_le _⟩, by unfold nofFn; rw [← etg4, ← hkE9, ← eAk13, bqk16]⟩
  exact pt_no
 refine pt_act ?_ rfl ?_
 ·skip
  refine rl_alloc F M tok30 rfl rfl ?_; clear F M a; intro b17 w a M F
  refine rl_nil <| ⟨Keep G [.blk b1 [.int .u8 (((pt : Nat) : Int)), .int .u8 (((psl : Nat) : Int)), .slice (ca) (cs.length) (cc)] 24], M.keep (Gle.refl _) (by simp), fun w h => h.mono (Gle.refl _) (by simp), ?_⟩
  refine pt_act ?_ rfl pt_no
  refine rl_callS F ent53 rfl rfl (etag_spec (n := pt) M (by omega)) ?_; clear F M a; rintro _ w a M ⟨tg19, rfl, htg19, etg19⟩ F
  have hltg19 := htg19.1.2
  refine rl_nil <| ⟨Keep G [.blk b1 [.int .u8 (((pt : Nat) : Int)), .int .u8 (((psl : Nat) : Int)), .slice (ca) (cs.length) (cc)] 24], M.keep (Gle.refl _) (by simp), fun w h => h.mono (Gle.refl _) (by simp), ?_⟩
  refine pt_act ?_ rfl pt_no
  refine rl_callL F ent54 rfl rfl (eattrs_spec (n := psl) M (by omega)) ?_; clear F M a; rintro _ _ w a M ⟨ak20, ck20, csk20, ssk20, rfl, rfl, Ek20, hSk20, hS3k20, eAk20⟩ F
  refine rl_nil <| ⟨Keep G [.blk b1 [.int .u8 (((pt : Nat) : Int)), .int .u8 (((psl : Nat) : Int)), .slice (ca) (cs.length) (cc)] 24], M.keep (Gle.refl _) (by simp), fun w h => h.mono (Gle.refl _) (by simp), ?_⟩
  refine pt_run F (fun w M => run_buildS (cs := [.int .u8 (1), .string (str (tg19)), .string (str ([] : List UInt8)), .slice (ak20) (ssk20.length) (ck20), .string (str ([] : List UInt8)), .slice none (0) (0)]) (ps := [(0, .int .u8 (1)), (1, .string (str (tg19))), (3, .slice (ak20) (ssk20.length) (ck20))]) tok30.k rfl tok30 (F.evp rfl) rfl) rfl ?_; clear F a; intro a F
  refine pt_act ?_ rfl pt_no
  refine rl_storeA F M tok30 (k := 1) rfl rfl rfl (us := [.int .u8 (1), .string (str (tg19)), .string (str ([] : List UInt8)), .slice (ak20) (ssk20.length) (ck20), .string (str ([] : List UInt8)), .slice none (0) (0)]) rfl rfl (by simp [Value.oneCell']) (by simp) ?_; clear F M a; intro w a M F
  change Mem w0 G (_ :: .blk b17 [.int .u8 (1), .string (str (tg19)), .string (str ([] : List UInt8)), .slice (ak20) (ssk20.length) (ck20), .string (str ([] : List UInt8)), .slice none (0) (0)] 30 :: _ :: _ :: L) _ at M
  refine rl_nil <| ⟨Keep G [.blk b1 [.int .u8 (((pt : Nat) : Int)), .int .u8 (((psl : Nat) : Int)), .slice (ca) (cs.length) (cc)] 24], M.keep (Gle.refl _) (by simp), fun w h => h.mono (Gle.refl _) (by simp), ?_⟩
  refine pt_fin <| q_tn ?_
  iterate 2 (refine wp_seq ?_)
  refine w_reg <| rl_run F (run_fieldAddr tok24.k rfl rfl (F.ev rfl)) rfl ?_; clear F a; intro a F
  refine rl_run F (run_load1 (agf tok5 rfl) (F.ev rfl) (M.cellL (k := 3) rfl rfl)) rfl ?_; clear F a; intro a F
  refine rl_run F (run_remi (F.ev rfl) (F.ev rfl) (by omega) (by omega)) rfl ?_; clear F a; intro a F
  refine rl_run F (run_eqi (F.ev rfl) (F.ev rfl)) rfl ?_; clear F a; intro a F
  refine rl_nil <| q_tn <| w_cut (fun a' w' => ∃ (kk9 : List UInt8), Fits 24 a' [(0, .agg #[.int .u8 (((pt : Nat) : Int)), .int .u8 (((psl : Nat) : Int)), .slice (ca) (cs.length) (cc)]), (1, .pointer (some ⟨b1, 0, none⟩)), (2, .pointer (some ⟨b2, 0, none⟩)), (3, .pointer (some ⟨b17, 0, none⟩))] ∧ Mem w0 G (.row (.slice (ak20) (ssk20.length) (ck20)) (ssk20.length) (csk20) 87 2 :: .blk b17 [.int .u8 (1), .string (str (tg19)), .string (str (kk9)), .slice (ak20) (ssk20.length) (ck20), .string (str ([] : List UInt8)), .slice none (0) (0)] 30 :: .blk b2 [.int .u8 (0), .string (str ([] : List UInt8)), .string (str ([] : List UInt8)), .slice none (0) (0), .string (str ([] : List UInt8)), .slice none (0) (0)] 30 :: .blk b1 [.int .u8 (((pt : Nat) : Int)), .int .u8 (((psl : Nat) : Int)), .slice (ca) (cs.length) (cc)] 24 :: L) w' ∧ (kk9 = [] ∨ Name kk9) ∧ (kk9 = if psl % 3 = 1 then [114, 111, 111, 116] else [])) ?_ ?_
  ·skip
   refine w_cond F rfl ?_ ?_
   ·intro hc
    have h21b := hc; clear hc
    have h21 : (((psl : Nat) : Int)) % 3 = 1 := of_decide_eq_true h21b
    refine w_reg <| rl_run F (run_fieldAddr tok30.k rfl rfl (F.ev rfl)) rfl ?_; clear F a; intro a F
    refine rl_store1 F M tok9 rfl (k := 1) rfl rfl rfl rfl rfl ?_; clear F M a; intro w a M F
    refine rl_nil ?_
    exact ⟨([114, 111, 111, 116] : List UInt8), F.to ⟨rfl, rfl, rfl, rfl, trivial⟩, M, Or.inr (by decide), by rw [if_pos (by omega)]⟩
   ·intro hc
    have h22b := hc; clear hc
    have h22 : ¬ ((((psl : Nat) : Int)) % 3 = 1) := of_decide_eq_false h22b
    refine wp_skip ?_
    exact ⟨([] : List UInt8), F.to ⟨rfl, rfl, rfl, rfl, trivial⟩, M, Or.inl rfl, by rw [if_neg (by omega)]⟩
  ·clear F M
   rintro a w ⟨kk9, F, M, hkk9, hkE9⟩
   refine q_tn <| wp_seq <| w_reg <| rl_run F (run_fieldAddr tok24.k rfl rfl (F.ev rfl)) rfl ?_; clear F a; intro a F
   refine rl_run F (run_load1 (agf tok22 rfl) (F.ev rfl) (M.cellL (k := 3) rfl rfl)) rfl ?_; clear F a; intro a F
   refine rl_callM F ent55 rfl rfl (buildO M S) ?_; clear F M a; rintro _ Gk23 _ w a hGk23 M ⟨ak23, ck23, csk23, psk23, qk23, rfl, rfl, Ek23, hqk23, hrk23, hPk23, bqk23⟩ F
   replace S := S.mono mono_rdB hGk23
   replace Ek20 := Ek20.mono mono_rdAttr hGk23
   refine rl_run F (run_move (F.ev rfl)) rfl ?_; clear F a; intro a F
   refine rl_run F (run_extract (v := .slice (ak23) (psk23.length) (ck23)) (F.ev rfl) rfl) rfl ?_; clear F a; intro a F
   refine rl_run F (run_extract (v := .int .i64 (((qk23 : Nat) : Int))) (F.ev rfl) rfl) rfl ?_; clear F a; intro a F
   refine rl_run F (run_fieldAddr tok30.k rfl rfl (F.ev rfl)) rfl ?_; clear F a; intro a F
   refine rl_store1 F M tok28 rfl (k := 2) rfl rfl rfl rfl rfl ?_; clear F M a; intro w a M F
   refine rl_nil <| q_tn <| wp_seq <| w_reg <| rl_run F (run_loadA tok30 rfl (F.ev rfl) (cs := [.int .u8 (1), .string (str (tg19)), .string (str (kk9)), .slice (ak20) (ssk20.length) (ck20), .string (str ([] : List UInt8)), .slice (ak23) (psk23.length) (ck23)]) rfl (M.cellsL (k := 2) rfl rfl)) rfl ?_; clear F a; intro a F
   refine rl_storeA F M tok30 (k := 3) rfl rfl rfl (us := [.int .u8 (1), .string (str (tg19)), .string (str (kk9)), .slice (ak20) (ssk20.length) (ck20), .string (str ([] : List UInt8)), .slice (ak23) (psk23.length) (ck23)]) rfl rfl (by simp [Value.oneCell']) (by simp) ?_; clear F M a; intro w a M F
   change Mem w0 Gk23 (_ :: _ :: .blk b17 [.int .u8 (1), .string (str (tg19)), .string (str (kk9)), .slice (ak20) (ssk20.length) (ck20), .string (str ([] : List UInt8)), .slice (ak23) (psk23.length) (ck23)] 30 :: .blk b2 [.int .u8 (1), .string (str (tg19)), .string (str (kk9)), .slice (ak20) (ssk20.length) (ck20), .string (str ([] : List UInt8)), .slice (ak23) (psk23.length) (ck23)] 30 :: _ :: L) _ at M
   refine rl_nil <| q_tn <| wp_ret <| fin_c F M (k := 3) rfl rfl tok30 rfl rfl rfl ?_
   replace M := M.perm (perm_front _ 1 _ rfl)
   replace M := M.perm (perm_front _ 1 _ rfl)
   change Mem w0 Gk23 (_ :: _ :: .blk b17 [.int .u8 (1), .string (str (tg19)), .string (str (kk9)), .slice (ak20) (ssk20.length) (ck20), .string (str ([] : List UInt8)), .slice (ak23) (psk23.length) (ck23)] 30 :: .blk b2 [.int .u8 (1), .string (str (tg19)), .string (str (kk9)), .slice (ak20) (ssk20.length) (ck20), .string (str ([] : List UInt8)), .slice (ak23) (psk23.length) (ck23)] 30 :: _ :: L) _ at M
   have hkl9 : kk9.length ≤ 16 := by rcases hkk9 with h | h; (subst h; simp); exact h.1.2
   exact ⟨_, _, hGk23, M.weaken (.cons_cons _ (.cons_cons _ (.cons _ (.cons _ (.cons _ (List.Sublist.refl _)))))), (.mk 1 tg19 kk9 ssk20 [] psk23 : NT), _, _, _, _, _, _, rfl, rfl, Ek20, Ek23, ⟨(okElemN (d := 4) (by assumption) hkk9 hSk20 (by have := hS3k20; omega) hPk23.le hPk23.keys hPk23.ok).mono (by decide), by have := hPk23.sz; rw [Tr.size_eq]; simp only [Tr.kids]; omega⟩, ⟨by show (0 : Int) ≤ 1; decide, by show (1 : Int) ≤ 255; decide⟩, ⟨by simp only [Tr.tag]; omega, by simp only [Tr.key]; omega, Nat.zero_le _⟩, by unfold nofFn; rw [← etg19, ← hkE9, ← eAk20, bqk23]⟩
 exact pt_no
theorem nofE_spec {w0 w : World} {G : Ghost} {L : List Res} (M : Mem w0 G L w) {ca : Option Addr} {cc : Nat} {cs : List UInt8} (S : RdSl rdB 1 G (.slice ca cs.length cc) cs) {pt psl : Nat} (hpt : pt < 256) (hps : psl < 256) : Calls Tryz.prog 14 #[.agg #[.int .u8 (((pt : Nat) : Int)), .int .u8 (((psl : Nat) : Int)), .slice (ca) (cs.length) (cc)]] w (Ret w0 G L fun G' v => ∃ (x : NT) (ta ka : Option Addr) (tc kc : Nat), v = .agg #[.int .u8 (x.kind), .string (str (x.tag)), .string (str (x.key)), .slice (ta) (x.as.length) (tc), .string (str (x.text)), .slice (ka) (x.kids.length) (kc)] ∧ Valid x ∧ inKind .u8 x.kind ∧ (x.tag.length ≤ 9223372036854775807 ∧ x.key.length ≤ 9223372036854775807 ∧ x.text.length ≤ 9223372036854775807) ∧ RdSl rdAttr 2 G' (.slice ta x.as.length tc) x.as ∧ RdSl rdN 6 G' (.slice ka x.kids.length kc) x.kids ∧ x = nofFn cs pt psl) := by
 refine (nofO_spec M S hpt hps).mono fun q w' hq => ?_
 cases q with
 | returned v =>
  obtain ⟨G1, L', hG1, M', x, ta, ka, tc, kc, csa, csk, rfl, rfl, Ea, Ek, hV, hk, hl, e⟩ := hq
  obtain ⟨_, G2, _, _, hG2, _, S1, M1⟩ := M'.freeze_row mono_rdN (k := 0) rfl Ek (by decide)
  obtain ⟨_, G3, _, _, hG3, _, S2, M2⟩ := M1.freeze_row mono_rdAttr (k := 0) rfl (Ea.mono mono_rdAttr hG2) (by decide)
  exact ⟨G3, (hG1.trans hG2).trans hG3, M2, x, ta, ka, tc, kc, rfl, hV, hk, hl, S2, S1.mono mono_rdN hG3, e⟩
 | panicked c => exact hq.elim
 | outgrown => exact hq.elim
end Go.Proofs.YtlnehkjmmegkhaaGreat
