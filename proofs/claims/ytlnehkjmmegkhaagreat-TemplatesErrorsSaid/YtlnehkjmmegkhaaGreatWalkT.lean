/- The walks, part T. -/
import Derived.Test.YtlnehkjmmegkhaaGreatWalkS
namespace Go.Proofs.YtlnehkjmmegkhaaGreat
open Go Go.Y Go.Proofs
set_option linter.unusedSimpArgs false
set_option linter.unusedVariables false
theorem rend_same {p : PT} {x : ItemD} {m : Int} (h : rendE p x m = 0) : sameF (rendN p x m) (rendN p x m) = 1 := by
  have hv : Valid (rendN p x m) := by
    rw [rendN_ok h]
    by_cases h1 : m < 1 ∨ 64 < m
    · rw [rend_arg h1] at h; cases h
    by_cases h2 : ValidP p
    · by_cases h3 : ItemOk x
      · by_cases h4 : cntF (node1 x p) = 0 ∨ m < (cntF (node1 x p) : Int)
        · rw [rend_many h1 h2 h3 h4] at h; cases h
        · exact cntF_pos.1 (by omega)
      · rw [rend_item h1 h2 h3] at h; cases h
    · rw [rend_tree h1 h2] at h; cases h
  exact sameF_yes ⟨hv, hv, rfl⟩
/-- A template whose kind was spoilt. -/
def spoil (x : PT) : PT := .mk 2 x.tag x.key x.as x.text x.kids
theorem spoil_k {x : PT} : inKind .u8 (spoil x).kind := ⟨by show (0 : Int) ≤ 2; decide, by show (2 : Int) ≤ 255; decide⟩
theorem errlaw_ret {w0 w : World} {G : Ghost} {L : List Res} (M : Mem w0 G L w) {ca : Option Addr} {cc : Nat} {cs : List UInt8} (S : RdSl rdB 1 G (.slice ca cs.length cc) cs) {pt psl : Nat} (hpt : pt < 256) (hps : psl < 256) {x : ItemD} {ma : Option Addr} {mc : Nat} (ht : x.text.length ≤ 9223372036854775807) (SM : RdSl rdStr 1 G (.slice ma x.marks.length mc) x.marks) (hik : inKind .u64 x.key) {most : Int} {odd : Bool} : Calls Tryz.prog 7 #[.agg #[.int .u8 (((pt : Nat) : Int)), .int .u8 (((psl : Nat) : Int)), .slice (ca) (cs.length) (cc)], .agg #[.int .u64 (x.key), .int .u8 (x.typ), .string (str (x.text)), .slice (ma) (x.marks.length) (mc)], .agg #[.int .i64 most, .bool odd]] w (Ret w0 G L fun _ v => v = .bool true) := by
  refine calls_start (vs := [_, _, _]) Tryz.func7 rfl (n := 66) rfl rfl ?_
  intro a F
  refine wp_seq <| w_reg <| rl_box F M rfl (cs := [.int .u8 (((pt : Nat) : Int)), .int .u8 (((psl : Nat) : Int)), .slice (ca) (cs.length) (cc)]) rfl rfl ?_; clear F M a; intro b1 w a M F
  refine rl_box F M rfl (cs := [.int .u64 (x.key), .int .u8 (x.typ), .string (str (x.text)), .slice (ma) (x.marks.length) (mc)]) rfl rfl ?_; clear F M a; intro b2 w a M F
  refine rl_box F M rfl (cs := [.int .i64 (most), .bool (odd)]) rfl rfl ?_; clear F M a; intro b3 w a M F
  refine rl_run F (run_assign (F.ev rfl)) rfl ?_; clear F a; intro a F
  refine rl_nil <| q_tn ?_
  iterate 2 (refine wp_seq ?_)
  refine w_reg <| rl_run F (run_fieldAddr tok51.k rfl rfl (F.ev rfl)) rfl ?_; clear F a; intro a F
  refine rl_run F (run_load1 (agf tok49 rfl) (F.ev rfl) (M.cellL (k := 1) rfl rfl)) rfl ?_; clear F a; intro a F
  refine rl_run F (run_lenSl tok49.k (F.ev rfl)) rfl ?_; clear F a; intro a F
  refine rl_run F (run_gtr (F.ev rfl) (F.ev rfl)) rfl ?_; clear F a; intro a F
  refine rl_nil <| q_tn <| w_cond F rfl ?_ ?_
  · intro hc
    have h4b := hc; clear hc
    have h4 : 12 < ((x.marks.length : Nat) : Int) := of_decide_eq_true h4b
    refine wp_seq <| w_reg <| rl_callS F ent28 rfl rfl (lives_spec M) ?_; clear F M a; rintro _ w a M rfl F
    refine rl_run F (run_assign (F.ev rfl)) rfl ?_; clear F a; intro a F
    refine rl_nil <| q_tn <| wp_ret <| q_tr <| fin1 F rfl rfl ?_
    exact ⟨_, (Gle.refl _), M.weaken (.cons _ (.cons _ (.cons _ (List.Sublist.refl _)))), by rfl⟩
  · intro hc
    have h5b := hc; clear hc
    have h5 : ¬ (12 < ((x.marks.length : Nat) : Int)) := of_decide_eq_false h5b
    refine wp_skip <| q_tn <| wp_seq <| w_reg <| rl_run F (run_loadA tok39 rfl (F.ev rfl) (cs := [.int .u8 (((pt : Nat) : Int)), .int .u8 (((psl : Nat) : Int)), .slice (ca) (cs.length) (cc)]) rfl (M.cellsL (k := 2) rfl rfl)) rfl ?_; clear F a; intro a F
    refine rl_call F ent20 rfl rfl (pof_spec M S (pt := pt) (psl := psl) (by omega) (by omega)) ?_; clear F M a; rintro _ Gk6 w a hGk6 M ⟨xk6, tak6, kak6, tck6, kck6, rfl, hVk6, hlk6, SAk6, SKk6⟩ F
    replace SM := SM.mono mono_rdStr hGk6
    replace S := S.mono mono_rdB hGk6
    refine rl_alloc F M tok46 rfl rfl ?_; clear F M a; intro b7 w a M F
    refine rl_storeA F M tok46 (k := 0) rfl rfl rfl (us := [.int .u8 (xk6.kind), .string (str (xk6.tag)), .string (str (xk6.key)), .slice (tak6) (xk6.as.length) (tck6), .string (str (xk6.text)), .slice (kak6) (xk6.kids.length) (kck6)]) rfl rfl (by simp [Value.oneCell']) (by simp) ?_; clear F M a; intro w a M F
    change Mem w0 Gk6 (.blk b7 [.int .u8 (xk6.kind), .string (str (xk6.tag)), .string (str (xk6.key)), .slice (tak6) (xk6.as.length) (tck6), .string (str (xk6.text)), .slice (kak6) (xk6.kids.length) (kck6)] 46 :: .blk b3 [.int .i64 (most), .bool (odd)] 72 :: .blk b2 [.int .u64 (x.key), .int .u8 (x.typ), .string (str (x.text)), .slice (ma) (x.marks.length) (mc)] 51 :: .blk b1 [.int .u8 (((pt : Nat) : Int)), .int .u8 (((psl : Nat) : Int)), .slice (ca) (cs.length) (cc)] 39 :: L) _ at M
    refine rl_nil <| q_tn ?_
    iterate 2 (refine wp_seq ?_)
    refine w_reg <| rl_run F (run_fieldAddr tok72.k rfl rfl (F.ev rfl)) rfl ?_; clear F a; intro a F
    refine rl_run F (run_load1 (agf tok4 rfl) (F.ev rfl) (M.cellL (k := 1) rfl rfl)) rfl ?_; clear F a; intro a F
    refine rl_nil <| q_tn <| w_cond F rfl ?_ ?_
    · intro hc
      have h9b := hc; clear hc
      have h9 : (odd) = true := h9b
      refine w_reg <| rl_run F (run_fieldAddr tok46.k rfl rfl (F.ev rfl)) rfl ?_; clear F a; intro a F
      refine rl_store1 F M tok5 rfl (k := 0) rfl rfl rfl rfl rfl ?_; clear F M a; intro w a M F
      refine rl_nil <| q_tn ?_
      iterate 2 (refine wp_seq ?_)
      refine w_plan [(true, 0), (true, 2), (false, 1), (false, 3), (true, 4)] (Keep Gk6 [.blk b7 [.int .u8 (2), .string (str (xk6.tag)), .string (str (xk6.key)), .slice (tak6) (xk6.as.length) (tck6), .string (str (xk6.text)), .slice (kak6) (xk6.kids.length) (kck6)] 46, .blk b3 [.int .i64 (most), .bool (odd)] 72, .blk b2 [.int .u64 (x.key), .int .u8 (x.typ), .string (str (x.text)), .slice (ma) (x.marks.length) (mc)] 51, .blk b1 [.int .u8 (((pt : Nat) : Int)), .int .u8 (((psl : Nat) : Int)), .slice (ca) (cs.length) (cc)] 39]) rfl (by kernel_rfl) (fun c a d v w h => by cases d <;> exact h) ((M.drew _).keep (Gle.refl _) (by simp)) ?_
      replace M := M.drew (w.drawn + 1)
      iterate 2 (refine pl_run F (fun w M => run_loadA tok51 rfl (F.ev rfl) (cs := [.int .u64 (x.key), .int .u8 (x.typ), .string (str (x.text)), .slice (ma) (x.marks.length) (mc)]) rfl (M.cellsL (k := 2) rfl rfl)) rfl ?_; clear F a; intro a F)
      refine pl_act ?_ rfl
      refine rl_callS F ent27 rfl rfl (checkitem_spec (x := x) M ht SM) ?_; clear F M a; rintro _ w a M rfl F
      refine rl_nil <| ⟨Keep Gk6 [.blk b7 [.int .u8 (2), .string (str (xk6.tag)), .string (str (xk6.key)), .slice (tak6) (xk6.as.length) (tck6), .string (str (xk6.text)), .slice (kak6) (xk6.kids.length) (kck6)] 46, .blk b3 [.int .i64 (most), .bool (odd)] 72, .blk b2 [.int .u64 (x.key), .int .u8 (x.typ), .string (str (x.text)), .slice (ma) (x.marks.length) (mc)] 51, .blk b1 [.int .u8 (((pt : Nat) : Int)), .int .u8 (((psl : Nat) : Int)), .slice (ca) (cs.length) (cc)] 39], M.keep (Gle.refl _) (by simp), fun w h => h.mono (Gle.refl _) (by simp), ?_⟩
      refine pl_act ?_ rfl
      refine rl_callS F ent37 rfl rfl (rcheckitem_spec (x := x) M ht SM) ?_; clear F M a; rintro _ w a M rfl F
      refine rl_nil <| ⟨Keep Gk6 [.blk b7 [.int .u8 (2), .string (str (xk6.tag)), .string (str (xk6.key)), .slice (tak6) (xk6.as.length) (tck6), .string (str (xk6.text)), .slice (kak6) (xk6.kids.length) (kck6)] 46, .blk b3 [.int .i64 (most), .bool (odd)] 72, .blk b2 [.int .u64 (x.key), .int .u8 (x.typ), .string (str (x.text)), .slice (ma) (x.marks.length) (mc)] 51, .blk b1 [.int .u8 (((pt : Nat) : Int)), .int .u8 (((psl : Nat) : Int)), .slice (ca) (cs.length) (cc)] 39], M.keep (Gle.refl _) (by simp), fun w h => h.mono (Gle.refl _) (by simp), ?_⟩
      refine pl_run F (fun w M => run_nei (F.ev rfl) (F.ev rfl)) rfl ?_; clear F a; intro a F
      refine pl_nil <| q_tn <| w_cond_f F rfl (not_f (decide_eq_true rfl)) ?_
      refine wp_skip <| q_tn <| wp_seq <| w_reg <| rl_run F (run_loadA tok46 rfl (F.ev rfl) (cs := [.int .u8 (2), .string (str (xk6.tag)), .string (str (xk6.key)), .slice (tak6) (xk6.as.length) (tck6), .string (str (xk6.text)), .slice (kak6) (xk6.kids.length) (kck6)]) rfl (M.cellsL (k := 0) rfl rfl)) rfl ?_; clear F a; intro a F
      refine rl_run F (run_loadA tok51 rfl (F.ev rfl) (cs := [.int .u64 (x.key), .int .u8 (x.typ), .string (str (x.text)), .slice (ma) (x.marks.length) (mc)]) rfl (M.cellsL (k := 2) rfl rfl)) rfl ?_; clear F a; intro a F
      refine rl_run F (run_fieldAddr tok72.k rfl rfl (F.ev rfl)) rfl ?_; clear F a; intro a F
      refine rl_run F (run_load1 (agf tok3 rfl) (F.ev rfl) (M.cellL (k := 1) rfl rfl)) rfl ?_; clear F a; intro a F
      refine rl_call F ent22 rfl rfl (trender_at (p := (spoil xk6)) (x := x) (most := most) (e := (rendE (spoil xk6) x most)) (nn := (rendN (spoil xk6) x most)) M spoil_k hlk6 SAk6 SKk6 ht SM hik rfl rfl) ?_; clear F M a; rintro _ Gk10 w a hGk10 M ⟨tak10, tck10, kak10, kck10, rfl, hkk10, hlk10, SAk10, SKk10⟩ F
      replace SM := SM.mono mono_rdStr hGk10
      replace S := S.mono mono_rdB hGk10
      replace SAk6 := SAk6.mono mono_rdSlot hGk10
      replace SKk6 := SKk6.mono mono_rdP hGk10
      refine rl_run F (run_move (F.ev rfl)) rfl ?_; clear F a; intro a F
      refine rl_run F (run_extract (v := .agg #[.int .u8 ((rendN (spoil xk6) x most).kind), .string (str ((rendN (spoil xk6) x most).tag)), .string (str ((rendN (spoil xk6) x most).key)), .slice (tak10) ((rendN (spoil xk6) x most).as.length) (tck10), .string (str ((rendN (spoil xk6) x most).text)), .slice (kak10) ((rendN (spoil xk6) x most).kids.length) (kck10)]) (F.ev rfl) rfl) rfl ?_; clear F a; intro a F
      refine rl_run F (run_extract (v := .int .i64 ((rendE (spoil xk6) x most))) (F.ev rfl) rfl) rfl ?_; clear F a; intro a F
      refine rl_alloc F M tok30 rfl rfl ?_; clear F M a; intro b11 w a M F
      refine rl_storeA F M tok30 (k := 0) rfl rfl rfl (us := [.int .u8 ((rendN (spoil xk6) x most).kind), .string (str ((rendN (spoil xk6) x most).tag)), .string (str ((rendN (spoil xk6) x most).key)), .slice (tak10) ((rendN (spoil xk6) x most).as.length) (tck10), .string (str ((rendN (spoil xk6) x most).text)), .slice (kak10) ((rendN (spoil xk6) x most).kids.length) (kck10)]) rfl rfl (by simp [Value.oneCell']) (by simp) ?_; clear F M a; intro w a M F
      change Mem w0 Gk10 (.blk b11 [.int .u8 ((rendN (spoil xk6) x most).kind), .string (str ((rendN (spoil xk6) x most).tag)), .string (str ((rendN (spoil xk6) x most).key)), .slice (tak10) ((rendN (spoil xk6) x most).as.length) (tck10), .string (str ((rendN (spoil xk6) x most).text)), .slice (kak10) ((rendN (spoil xk6) x most).kids.length) (kck10)] 30 :: .blk b7 [.int .u8 (2), .string (str (xk6.tag)), .string (str (xk6.key)), .slice (tak6) (xk6.as.length) (tck6), .string (str (xk6.text)), .slice (kak6) (xk6.kids.length) (kck6)] 46 :: .blk b3 [.int .i64 (most), .bool (odd)] 72 :: .blk b2 [.int .u64 (x.key), .int .u8 (x.typ), .string (str (x.text)), .slice (ma) (x.marks.length) (mc)] 51 :: .blk b1 [.int .u8 (((pt : Nat) : Int)), .int .u8 (((psl : Nat) : Int)), .slice (ca) (cs.length) (cc)] 39 :: L) _ at M
      refine rl_run F (run_assign (F.ev rfl)) rfl ?_; clear F a; intro a F
      refine rl_nil <| q_tn <| wp_seq <| w_reg <| rl_run F (run_loadA tok46 rfl (F.ev rfl) (cs := [.int .u8 (2), .string (str (xk6.tag)), .string (str (xk6.key)), .slice (tak6) (xk6.as.length) (tck6), .string (str (xk6.text)), .slice (kak6) (xk6.kids.length) (kck6)]) rfl (M.cellsL (k := 1) rfl rfl)) rfl ?_; clear F a; intro a F
      refine rl_run F (run_loadA tok51 rfl (F.ev rfl) (cs := [.int .u64 (x.key), .int .u8 (x.typ), .string (str (x.text)), .slice (ma) (x.marks.length) (mc)]) rfl (M.cellsL (k := 3) rfl rfl)) rfl ?_; clear F a; intro a F
      refine rl_run F (run_fieldAddr tok72.k rfl rfl (F.ev rfl)) rfl ?_; clear F a; intro a F
      refine rl_run F (run_load1 (agf tok3 rfl) (F.ev rfl) (M.cellL (k := 2) rfl rfl)) rfl ?_; clear F a; intro a F
      refine rl_call F ent23 rfl rfl (rrender_at (p := (spoil xk6)) (x := x) (most := most) (e := (rendE (spoil xk6) x most)) (nn := (rendN (spoil xk6) x most)) M spoil_k hlk6 SAk6 SKk6 ht SM hik rfl rfl) ?_; clear F M a; rintro _ Gk13 w a hGk13 M ⟨tak13, tck13, kak13, kck13, rfl, hkk13, hlk13, SAk13, SKk13⟩ F
      replace SM := SM.mono mono_rdStr hGk13
      replace S := S.mono mono_rdB hGk13
      replace SAk6 := SAk6.mono mono_rdSlot hGk13
      replace SKk6 := SKk6.mono mono_rdP hGk13
      replace SAk10 := SAk10.mono mono_rdAttr hGk13
      replace SKk10 := SKk10.mono mono_rdN hGk13
      refine rl_run F (run_move (F.ev rfl)) rfl ?_; clear F a; intro a F
      refine rl_run F (run_extract (v := .agg #[.int .u8 ((rendN (spoil xk6) x most).kind), .string (str ((rendN (spoil xk6) x most).tag)), .string (str ((rendN (spoil xk6) x most).key)), .slice (tak13) ((rendN (spoil xk6) x most).as.length) (tck13), .string (str ((rendN (spoil xk6) x most).text)), .slice (kak13) ((rendN (spoil xk6) x most).kids.length) (kck13)]) (F.ev rfl) rfl) rfl ?_; clear F a; intro a F
      refine rl_run F (run_extract (v := .int .i64 ((rendE (spoil xk6) x most))) (F.ev rfl) rfl) rfl ?_; clear F a; intro a F
      refine rl_alloc F M tok30 rfl rfl ?_; clear F M a; intro b14 w a M F
      refine rl_storeA F M tok30 (k := 0) rfl rfl rfl (us := [.int .u8 ((rendN (spoil xk6) x most).kind), .string (str ((rendN (spoil xk6) x most).tag)), .string (str ((rendN (spoil xk6) x most).key)), .slice (tak13) ((rendN (spoil xk6) x most).as.length) (tck13), .string (str ((rendN (spoil xk6) x most).text)), .slice (kak13) ((rendN (spoil xk6) x most).kids.length) (kck13)]) rfl rfl (by simp [Value.oneCell']) (by simp) ?_; clear F M a; intro w a M F
      change Mem w0 Gk13 (.blk b14 [.int .u8 ((rendN (spoil xk6) x most).kind), .string (str ((rendN (spoil xk6) x most).tag)), .string (str ((rendN (spoil xk6) x most).key)), .slice (tak13) ((rendN (spoil xk6) x most).as.length) (tck13), .string (str ((rendN (spoil xk6) x most).text)), .slice (kak13) ((rendN (spoil xk6) x most).kids.length) (kck13)] 30 :: .blk b11 [.int .u8 ((rendN (spoil xk6) x most).kind), .string (str ((rendN (spoil xk6) x most).tag)), .string (str ((rendN (spoil xk6) x most).key)), .slice (tak10) ((rendN (spoil xk6) x most).as.length) (tck10), .string (str ((rendN (spoil xk6) x most).text)), .slice (kak10) ((rendN (spoil xk6) x most).kids.length) (kck10)] 30 :: .blk b7 [.int .u8 (2), .string (str (xk6.tag)), .string (str (xk6.key)), .slice (tak6) (xk6.as.length) (tck6), .string (str (xk6.text)), .slice (kak6) (xk6.kids.length) (kck6)] 46 :: .blk b3 [.int .i64 (most), .bool (odd)] 72 :: .blk b2 [.int .u64 (x.key), .int .u8 (x.typ), .string (str (x.text)), .slice (ma) (x.marks.length) (mc)] 51 :: .blk b1 [.int .u8 (((pt : Nat) : Int)), .int .u8 (((psl : Nat) : Int)), .slice (ca) (cs.length) (cc)] 39 :: L) _ at M
      refine rl_run F (run_assign (F.ev rfl)) rfl ?_; clear F a; intro a F
      refine rl_nil <| q_tn ?_
      iterate 2 (refine wp_seq ?_)
      refine w_reg ?_
      iterate 2 (refine rl_run F (run_move (F.ev rfl)) rfl ?_; clear F a; intro a F)
      refine rl_run F (run_nei (F.ev rfl) (F.ev rfl)) rfl ?_; clear F a; intro a F
      refine rl_nil <| q_tn <| w_cond_f F rfl (not_f (decide_eq_true rfl)) ?_
      refine wp_skip <| q_tn <| wp_seq <| w_reg <| rl_run F (run_move (F.ev rfl)) rfl ?_; clear F a; intro a F
      refine rl_run F (run_nei (F.ev rfl) (F.ev rfl)) rfl ?_; clear F a; intro a F
      refine rl_run F (run_move (F.ev rfl)) rfl ?_; clear F a; intro a F
      rcases Bool.eq_false_or_eq_true (!(decide ((rendE (spoil xk6) x most) = 0))) with hc | hc
      · skip
        have h16b := hc; clear hc
        have h16 : ¬ ((rendE (spoil xk6) x most) = 0) := of_decide_eq_false (of_not_t h16b)
        have h16c : (decide ((rendE (spoil xk6) x most) = 0)) = false := (of_not_t h16b)
        have hz9 : (rendN (spoil xk6) x most) = zeroN := rendN_no (by assumption)
        refine rl_guard_t F rfl rfl rfl (not_t h16c) ?_
        refine rl_run F (run_fieldAddr tok30.k rfl rfl (F.ev rfl)) rfl ?_; clear F a; intro a F
        refine rl_guard_t F rfl rfl rfl (not_t h16c) ?_
        refine rl_run F (run_load1 (agf tok5 rfl) (F.ev rfl) (M.cellL (k := 1) rfl rfl)) rfl ?_; clear F a; intro a F
        refine rl_guard_t F rfl rfl rfl (not_t h16c) ?_
        refine rl_run F (run_eqi (F.ev rfl) (F.ev rfl)) rfl ?_; clear F a; intro a F
        refine rl_run F (run_pick_t (F.ev rfl) (not_t h16c) (F.ev rfl)) rfl ?_; clear F a; intro a F
        refine rl_run F (run_move (F.ev rfl)) rfl ?_; clear F a; intro a F
        iterate 3 (refine rl_guard_f F rfl rfl rfl (decide_eq_true (by rw [hz9]; rfl)) ?_; clear F a; intro a F)
        iterate 4 (refine rl_guard_u F rfl rfl rfl ?_; clear F a; intro a F)
        refine rl_guard_f F rfl rfl rfl (decide_eq_true (by rw [hz9]; rfl)) ?_; clear F a; intro a F
        refine rl_run F (run_pick_t (F.ev rfl) (decide_eq_true (by rw [hz9]; rfl)) (F.ev rfl)) rfl ?_; clear F a; intro a F
        refine rl_run F (run_move (F.ev rfl)) rfl ?_; clear F a; intro a F
        refine rl_guard_t F rfl rfl rfl rfl ?_
        refine rl_callS F ent28 rfl rfl (lives_spec M) ?_; clear F M a; rintro _ w a M rfl F
        refine rl_run F (run_pick_t (F.ev rfl) rfl (F.ev rfl)) rfl ?_; clear F a; intro a F
        refine rl_run F (run_assign (F.ev rfl)) rfl ?_; clear F a; intro a F
        refine rl_nil <| q_tn <| wp_ret <| fin1 F rfl rfl ?_
        exact ⟨_, ((hGk6.trans hGk10).trans hGk13), M.weaken (.cons _ (.cons _ (.cons _ (.cons _ (.cons _ (.cons _ (List.Sublist.refl _))))))), by rfl⟩
      · skip
        have h17b := hc; clear hc
        have h17 : (rendE (spoil xk6) x most) = 0 := of_decide_eq_true (of_not_f h17b)
        have h17c : (decide ((rendE (spoil xk6) x most) = 0)) = true := (of_not_f h17b)
        iterate 3 (refine rl_guard_f F rfl rfl rfl (not_f h17c) ?_; clear F a; intro a F)
        refine rl_run F (run_pick_f (F.ev rfl) (not_f h17c) (F.ev rfl)) rfl ?_; clear F a; intro a F
        refine rl_run F (run_move (F.ev rfl)) rfl ?_; clear F a; intro a F
        refine rl_guard_t F rfl rfl rfl rfl ?_
        refine rl_run F (run_move (F.ev rfl)) rfl ?_; clear F a; intro a F
        refine rl_guard_t F rfl rfl rfl rfl ?_
        refine rl_run F (run_eqi (F.ev rfl) (F.ev rfl)) rfl ?_; clear F a; intro a F
        refine rl_guard_t F rfl rfl rfl rfl ?_
        refine rl_run F (run_move (F.ev rfl)) rfl ?_; clear F a; intro a F
        refine rl_guard_t F rfl rfl rfl (decide_eq_true h17) ?_
        refine rl_run F (run_loadA tok30 rfl (F.ev rfl) (cs := [.int .u8 ((rendN (spoil xk6) x most).kind), .string (str ((rendN (spoil xk6) x most).tag)), .string (str ((rendN (spoil xk6) x most).key)), .slice (tak10) ((rendN (spoil xk6) x most).as.length) (tck10), .string (str ((rendN (spoil xk6) x most).text)), .slice (kak10) ((rendN (spoil xk6) x most).kids.length) (kck10)]) rfl (M.cellsL (k := 1) rfl rfl)) rfl ?_; clear F a; intro a F
        refine rl_guard_t F rfl rfl rfl (decide_eq_true h17) ?_
        refine rl_run F (run_loadA tok30 rfl (F.ev rfl) (cs := [.int .u8 ((rendN (spoil xk6) x most).kind), .string (str ((rendN (spoil xk6) x most).tag)), .string (str ((rendN (spoil xk6) x most).key)), .slice (tak13) ((rendN (spoil xk6) x most).as.length) (tck13), .string (str ((rendN (spoil xk6) x most).text)), .slice (kak13) ((rendN (spoil xk6) x most).kids.length) (kck13)]) rfl (M.cellsL (k := 0) rfl rfl)) rfl ?_; clear F a; intro a F
        refine rl_guard_t F rfl rfl rfl (decide_eq_true h17) ?_
        refine rl_callS F ent18 rfl rfl (rsame_spec (x := (rendN (spoil xk6) x most)) (u := (rendN (spoil xk6) x most)) M hkk10 hlk10 SAk10 SKk10 hkk13 hlk13 SAk13 SKk13) ?_; clear F M a; rintro _ w a M rfl F
        refine rl_guard_t F rfl rfl rfl (decide_eq_true h17) ?_
        refine rl_run F (run_eqi (F.ev rfl) (F.ev rfl)) rfl ?_; clear F a; intro a F
        refine rl_guard_t F rfl rfl rfl rfl ?_
        refine rl_run F (run_pick_t (F.ev rfl) (decide_eq_true h17) (F.ev rfl)) rfl ?_; clear F a; intro a F
        refine rl_run F (run_pick_f (F.ev rfl) rfl (F.ev rfl)) rfl ?_; clear F a; intro a F
        refine rl_run F (run_move (F.ev rfl)) rfl ?_; clear F a; intro a F
        refine rl_guard_t F rfl rfl rfl (decide_eq_true (rend_same (by assumption))) ?_
        refine rl_callS F ent28 rfl rfl (lives_spec M) ?_; clear F M a; rintro _ w a M rfl F
        refine rl_run F (run_pick_t (F.ev rfl) (decide_eq_true (rend_same (by assumption))) (F.ev rfl)) rfl ?_; clear F a; intro a F
        refine rl_run F (run_assign (F.ev rfl)) rfl ?_; clear F a; intro a F
        refine rl_nil <| q_tn <| wp_ret <| fin1 F rfl rfl ?_
        exact ⟨_, ((hGk6.trans hGk10).trans hGk13), M.weaken (.cons _ (.cons _ (.cons _ (.cons _ (.cons _ (.cons _ (List.Sublist.refl _))))))), by rfl⟩
    · intro hc
      have h18b := hc; clear hc
      have h18 : (odd) = false := h18b
      refine wp_skip <| q_tn ?_
      iterate 2 (refine wp_seq ?_)
      refine w_plan [(true, 0), (true, 2), (false, 1), (false, 3), (true, 4)] (Keep Gk6 [.blk b7 [.int .u8 (xk6.kind), .string (str (xk6.tag)), .string (str (xk6.key)), .slice (tak6) (xk6.as.length) (tck6), .string (str (xk6.text)), .slice (kak6) (xk6.kids.length) (kck6)] 46, .blk b3 [.int .i64 (most), .bool (odd)] 72, .blk b2 [.int .u64 (x.key), .int .u8 (x.typ), .string (str (x.text)), .slice (ma) (x.marks.length) (mc)] 51, .blk b1 [.int .u8 (((pt : Nat) : Int)), .int .u8 (((psl : Nat) : Int)), .slice (ca) (cs.length) (cc)] 39]) rfl (by kernel_rfl) (fun c a d v w h => by cases d <;> exact h) ((M.drew _).keep (Gle.refl _) (by simp)) ?_
      replace M := M.drew (w.drawn + 1)
      iterate 2 (refine pl_run F (fun w M => run_loadA tok51 rfl (F.ev rfl) (cs := [.int .u64 (x.key), .int .u8 (x.typ), .string (str (x.text)), .slice (ma) (x.marks.length) (mc)]) rfl (M.cellsL (k := 2) rfl rfl)) rfl ?_; clear F a; intro a F)
      refine pl_act ?_ rfl
      refine rl_callS F ent27 rfl rfl (checkitem_spec (x := x) M ht SM) ?_; clear F M a; rintro _ w a M rfl F
      refine rl_nil <| ⟨Keep Gk6 [.blk b7 [.int .u8 (xk6.kind), .string (str (xk6.tag)), .string (str (xk6.key)), .slice (tak6) (xk6.as.length) (tck6), .string (str (xk6.text)), .slice (kak6) (xk6.kids.length) (kck6)] 46, .blk b3 [.int .i64 (most), .bool (odd)] 72, .blk b2 [.int .u64 (x.key), .int .u8 (x.typ), .string (str (x.text)), .slice (ma) (x.marks.length) (mc)] 51, .blk b1 [.int .u8 (((pt : Nat) : Int)), .int .u8 (((psl : Nat) : Int)), .slice (ca) (cs.length) (cc)] 39], M.keep (Gle.refl _) (by simp), fun w h => h.mono (Gle.refl _) (by simp), ?_⟩
      refine pl_act ?_ rfl
      refine rl_callS F ent37 rfl rfl (rcheckitem_spec (x := x) M ht SM) ?_; clear F M a; rintro _ w a M rfl F
      refine rl_nil <| ⟨Keep Gk6 [.blk b7 [.int .u8 (xk6.kind), .string (str (xk6.tag)), .string (str (xk6.key)), .slice (tak6) (xk6.as.length) (tck6), .string (str (xk6.text)), .slice (kak6) (xk6.kids.length) (kck6)] 46, .blk b3 [.int .i64 (most), .bool (odd)] 72, .blk b2 [.int .u64 (x.key), .int .u8 (x.typ), .string (str (x.text)), .slice (ma) (x.marks.length) (mc)] 51, .blk b1 [.int .u8 (((pt : Nat) : Int)), .int .u8 (((psl : Nat) : Int)), .slice (ca) (cs.length) (cc)] 39], M.keep (Gle.refl _) (by simp), fun w h => h.mono (Gle.refl _) (by simp), ?_⟩
      refine pl_run F (fun w M => run_nei (F.ev rfl) (F.ev rfl)) rfl ?_; clear F a; intro a F
      refine pl_nil <| q_tn <| w_cond_f F rfl (not_f (decide_eq_true rfl)) ?_
      refine wp_skip <| q_tn <| wp_seq <| w_reg <| rl_run F (run_loadA tok46 rfl (F.ev rfl) (cs := [.int .u8 (xk6.kind), .string (str (xk6.tag)), .string (str (xk6.key)), .slice (tak6) (xk6.as.length) (tck6), .string (str (xk6.text)), .slice (kak6) (xk6.kids.length) (kck6)]) rfl (M.cellsL (k := 0) rfl rfl)) rfl ?_; clear F a; intro a F
      refine rl_run F (run_loadA tok51 rfl (F.ev rfl) (cs := [.int .u64 (x.key), .int .u8 (x.typ), .string (str (x.text)), .slice (ma) (x.marks.length) (mc)]) rfl (M.cellsL (k := 2) rfl rfl)) rfl ?_; clear F a; intro a F
      refine rl_run F (run_fieldAddr tok72.k rfl rfl (F.ev rfl)) rfl ?_; clear F a; intro a F
      refine rl_run F (run_load1 (agf tok3 rfl) (F.ev rfl) (M.cellL (k := 1) rfl rfl)) rfl ?_; clear F a; intro a F
      refine rl_call F ent22 rfl rfl (trender_at (p := xk6) (x := x) (most := most) (e := (rendE xk6 x most)) (nn := (rendN xk6 x most)) M (validP_kind hVk6) hlk6 SAk6 SKk6 ht SM hik rfl rfl) ?_; clear F M a; rintro _ Gk19 w a hGk19 M ⟨tak19, tck19, kak19, kck19, rfl, hkk19, hlk19, SAk19, SKk19⟩ F
      replace SM := SM.mono mono_rdStr hGk19
      replace S := S.mono mono_rdB hGk19
      replace SAk6 := SAk6.mono mono_rdSlot hGk19
      replace SKk6 := SKk6.mono mono_rdP hGk19
      refine rl_run F (run_move (F.ev rfl)) rfl ?_; clear F a; intro a F
      refine rl_run F (run_extract (v := .agg #[.int .u8 ((rendN xk6 x most).kind), .string (str ((rendN xk6 x most).tag)), .string (str ((rendN xk6 x most).key)), .slice (tak19) ((rendN xk6 x most).as.length) (tck19), .string (str ((rendN xk6 x most).text)), .slice (kak19) ((rendN xk6 x most).kids.length) (kck19)]) (F.ev rfl) rfl) rfl ?_; clear F a; intro a F
      refine rl_run F (run_extract (v := .int .i64 ((rendE xk6 x most))) (F.ev rfl) rfl) rfl ?_; clear F a; intro a F
      refine rl_alloc F M tok30 rfl rfl ?_; clear F M a; intro b20 w a M F
      refine rl_storeA F M tok30 (k := 0) rfl rfl rfl (us := [.int .u8 ((rendN xk6 x most).kind), .string (str ((rendN xk6 x most).tag)), .string (str ((rendN xk6 x most).key)), .slice (tak19) ((rendN xk6 x most).as.length) (tck19), .string (str ((rendN xk6 x most).text)), .slice (kak19) ((rendN xk6 x most).kids.length) (kck19)]) rfl rfl (by simp [Value.oneCell']) (by simp) ?_; clear F M a; intro w a M F
      change Mem w0 Gk19 (.blk b20 [.int .u8 ((rendN xk6 x most).kind), .string (str ((rendN xk6 x most).tag)), .string (str ((rendN xk6 x most).key)), .slice (tak19) ((rendN xk6 x most).as.length) (tck19), .string (str ((rendN xk6 x most).text)), .slice (kak19) ((rendN xk6 x most).kids.length) (kck19)] 30 :: .blk b7 [.int .u8 (xk6.kind), .string (str (xk6.tag)), .string (str (xk6.key)), .slice (tak6) (xk6.as.length) (tck6), .string (str (xk6.text)), .slice (kak6) (xk6.kids.length) (kck6)] 46 :: .blk b3 [.int .i64 (most), .bool (odd)] 72 :: .blk b2 [.int .u64 (x.key), .int .u8 (x.typ), .string (str (x.text)), .slice (ma) (x.marks.length) (mc)] 51 :: .blk b1 [.int .u8 (((pt : Nat) : Int)), .int .u8 (((psl : Nat) : Int)), .slice (ca) (cs.length) (cc)] 39 :: L) _ at M
      refine rl_run F (run_assign (F.ev rfl)) rfl ?_; clear F a; intro a F
      refine rl_nil <| q_tn <| wp_seq <| w_reg <| rl_run F (run_loadA tok46 rfl (F.ev rfl) (cs := [.int .u8 (xk6.kind), .string (str (xk6.tag)), .string (str (xk6.key)), .slice (tak6) (xk6.as.length) (tck6), .string (str (xk6.text)), .slice (kak6) (xk6.kids.length) (kck6)]) rfl (M.cellsL (k := 1) rfl rfl)) rfl ?_; clear F a; intro a F
      refine rl_run F (run_loadA tok51 rfl (F.ev rfl) (cs := [.int .u64 (x.key), .int .u8 (x.typ), .string (str (x.text)), .slice (ma) (x.marks.length) (mc)]) rfl (M.cellsL (k := 3) rfl rfl)) rfl ?_; clear F a; intro a F
      refine rl_run F (run_fieldAddr tok72.k rfl rfl (F.ev rfl)) rfl ?_; clear F a; intro a F
      refine rl_run F (run_load1 (agf tok3 rfl) (F.ev rfl) (M.cellL (k := 2) rfl rfl)) rfl ?_; clear F a; intro a F
      refine rl_call F ent23 rfl rfl (rrender_at (p := xk6) (x := x) (most := most) (e := (rendE xk6 x most)) (nn := (rendN xk6 x most)) M (validP_kind hVk6) hlk6 SAk6 SKk6 ht SM hik rfl rfl) ?_; clear F M a; rintro _ Gk22 w a hGk22 M ⟨tak22, tck22, kak22, kck22, rfl, hkk22, hlk22, SAk22, SKk22⟩ F
      replace SM := SM.mono mono_rdStr hGk22
      replace S := S.mono mono_rdB hGk22
      replace SAk6 := SAk6.mono mono_rdSlot hGk22
      replace SKk6 := SKk6.mono mono_rdP hGk22
      replace SAk19 := SAk19.mono mono_rdAttr hGk22
      replace SKk19 := SKk19.mono mono_rdN hGk22
      refine rl_run F (run_move (F.ev rfl)) rfl ?_; clear F a; intro a F
      refine rl_run F (run_extract (v := .agg #[.int .u8 ((rendN xk6 x most).kind), .string (str ((rendN xk6 x most).tag)), .string (str ((rendN xk6 x most).key)), .slice (tak22) ((rendN xk6 x most).as.length) (tck22), .string (str ((rendN xk6 x most).text)), .slice (kak22) ((rendN xk6 x most).kids.length) (kck22)]) (F.ev rfl) rfl) rfl ?_; clear F a; intro a F
      refine rl_run F (run_extract (v := .int .i64 ((rendE xk6 x most))) (F.ev rfl) rfl) rfl ?_; clear F a; intro a F
      refine rl_alloc F M tok30 rfl rfl ?_; clear F M a; intro b23 w a M F
      refine rl_storeA F M tok30 (k := 0) rfl rfl rfl (us := [.int .u8 ((rendN xk6 x most).kind), .string (str ((rendN xk6 x most).tag)), .string (str ((rendN xk6 x most).key)), .slice (tak22) ((rendN xk6 x most).as.length) (tck22), .string (str ((rendN xk6 x most).text)), .slice (kak22) ((rendN xk6 x most).kids.length) (kck22)]) rfl rfl (by simp [Value.oneCell']) (by simp) ?_; clear F M a; intro w a M F
      change Mem w0 Gk22 (.blk b23 [.int .u8 ((rendN xk6 x most).kind), .string (str ((rendN xk6 x most).tag)), .string (str ((rendN xk6 x most).key)), .slice (tak22) ((rendN xk6 x most).as.length) (tck22), .string (str ((rendN xk6 x most).text)), .slice (kak22) ((rendN xk6 x most).kids.length) (kck22)] 30 :: .blk b20 [.int .u8 ((rendN xk6 x most).kind), .string (str ((rendN xk6 x most).tag)), .string (str ((rendN xk6 x most).key)), .slice (tak19) ((rendN xk6 x most).as.length) (tck19), .string (str ((rendN xk6 x most).text)), .slice (kak19) ((rendN xk6 x most).kids.length) (kck19)] 30 :: .blk b7 [.int .u8 (xk6.kind), .string (str (xk6.tag)), .string (str (xk6.key)), .slice (tak6) (xk6.as.length) (tck6), .string (str (xk6.text)), .slice (kak6) (xk6.kids.length) (kck6)] 46 :: .blk b3 [.int .i64 (most), .bool (odd)] 72 :: .blk b2 [.int .u64 (x.key), .int .u8 (x.typ), .string (str (x.text)), .slice (ma) (x.marks.length) (mc)] 51 :: .blk b1 [.int .u8 (((pt : Nat) : Int)), .int .u8 (((psl : Nat) : Int)), .slice (ca) (cs.length) (cc)] 39 :: L) _ at M
      refine rl_run F (run_assign (F.ev rfl)) rfl ?_; clear F a; intro a F
      refine rl_nil <| q_tn ?_
      iterate 2 (refine wp_seq ?_)
      refine w_reg ?_
      iterate 2 (refine rl_run F (run_move (F.ev rfl)) rfl ?_; clear F a; intro a F)
      refine rl_run F (run_nei (F.ev rfl) (F.ev rfl)) rfl ?_; clear F a; intro a F
      refine rl_nil <| q_tn <| w_cond_f F rfl (not_f (decide_eq_true rfl)) ?_
      refine wp_skip <| q_tn <| wp_seq <| w_reg <| rl_run F (run_move (F.ev rfl)) rfl ?_; clear F a; intro a F
      refine rl_run F (run_nei (F.ev rfl) (F.ev rfl)) rfl ?_; clear F a; intro a F
      refine rl_run F (run_move (F.ev rfl)) rfl ?_; clear F a; intro a F
      rcases Bool.eq_false_or_eq_true (!(decide ((rendE xk6 x most) = 0))) with hc | hc
      · skip
        have h25b := hc; clear hc
        have h25 : ¬ ((rendE xk6 x most) = 0) := of_decide_eq_false (of_not_t h25b)
        have h25c : (decide ((rendE xk6 x most) = 0)) = false := (of_not_t h25b)
        have hz9 : (rendN xk6 x most) = zeroN := rendN_no (by assumption)
        refine rl_guard_t F rfl rfl rfl (not_t h25c) ?_
        refine rl_run F (run_fieldAddr tok30.k rfl rfl (F.ev rfl)) rfl ?_; clear F a; intro a F
        refine rl_guard_t F rfl rfl rfl (not_t h25c) ?_
        refine rl_run F (run_load1 (agf tok5 rfl) (F.ev rfl) (M.cellL (k := 1) rfl rfl)) rfl ?_; clear F a; intro a F
        refine rl_guard_t F rfl rfl rfl (not_t h25c) ?_
        refine rl_run F (run_eqi (F.ev rfl) (F.ev rfl)) rfl ?_; clear F a; intro a F
        refine rl_run F (run_pick_t (F.ev rfl) (not_t h25c) (F.ev rfl)) rfl ?_; clear F a; intro a F
        refine rl_run F (run_move (F.ev rfl)) rfl ?_; clear F a; intro a F
        iterate 3 (refine rl_guard_f F rfl rfl rfl (decide_eq_true (by rw [hz9]; rfl)) ?_; clear F a; intro a F)
        iterate 4 (refine rl_guard_u F rfl rfl rfl ?_; clear F a; intro a F)
        refine rl_guard_f F rfl rfl rfl (decide_eq_true (by rw [hz9]; rfl)) ?_; clear F a; intro a F
        refine rl_run F (run_pick_t (F.ev rfl) (decide_eq_true (by rw [hz9]; rfl)) (F.ev rfl)) rfl ?_; clear F a; intro a F
        refine rl_run F (run_move (F.ev rfl)) rfl ?_; clear F a; intro a F
        refine rl_guard_t F rfl rfl rfl rfl ?_
        refine rl_callS F ent28 rfl rfl (lives_spec M) ?_; clear F M a; rintro _ w a M rfl F
        refine rl_run F (run_pick_t (F.ev rfl) rfl (F.ev rfl)) rfl ?_; clear F a; intro a F
        refine rl_run F (run_assign (F.ev rfl)) rfl ?_; clear F a; intro a F
        refine rl_nil <| q_tn <| wp_ret <| fin1 F rfl rfl ?_
        exact ⟨_, ((hGk6.trans hGk19).trans hGk22), M.weaken (.cons _ (.cons _ (.cons _ (.cons _ (.cons _ (.cons _ (List.Sublist.refl _))))))), by rfl⟩
      · skip
        have h26b := hc; clear hc
        have h26 : (rendE xk6 x most) = 0 := of_decide_eq_true (of_not_f h26b)
        have h26c : (decide ((rendE xk6 x most) = 0)) = true := (of_not_f h26b)
        iterate 3 (refine rl_guard_f F rfl rfl rfl (not_f h26c) ?_; clear F a; intro a F)
        refine rl_run F (run_pick_f (F.ev rfl) (not_f h26c) (F.ev rfl)) rfl ?_; clear F a; intro a F
        refine rl_run F (run_move (F.ev rfl)) rfl ?_; clear F a; intro a F
        refine rl_guard_t F rfl rfl rfl rfl ?_
        refine rl_run F (run_move (F.ev rfl)) rfl ?_; clear F a; intro a F
        refine rl_guard_t F rfl rfl rfl rfl ?_
        refine rl_run F (run_eqi (F.ev rfl) (F.ev rfl)) rfl ?_; clear F a; intro a F
        refine rl_guard_t F rfl rfl rfl rfl ?_
        refine rl_run F (run_move (F.ev rfl)) rfl ?_; clear F a; intro a F
        refine rl_guard_t F rfl rfl rfl (decide_eq_true h26) ?_
        refine rl_run F (run_loadA tok30 rfl (F.ev rfl) (cs := [.int .u8 ((rendN xk6 x most).kind), .string (str ((rendN xk6 x most).tag)), .string (str ((rendN xk6 x most).key)), .slice (tak19) ((rendN xk6 x most).as.length) (tck19), .string (str ((rendN xk6 x most).text)), .slice (kak19) ((rendN xk6 x most).kids.length) (kck19)]) rfl (M.cellsL (k := 1) rfl rfl)) rfl ?_; clear F a; intro a F
        refine rl_guard_t F rfl rfl rfl (decide_eq_true h26) ?_
        refine rl_run F (run_loadA tok30 rfl (F.ev rfl) (cs := [.int .u8 ((rendN xk6 x most).kind), .string (str ((rendN xk6 x most).tag)), .string (str ((rendN xk6 x most).key)), .slice (tak22) ((rendN xk6 x most).as.length) (tck22), .string (str ((rendN xk6 x most).text)), .slice (kak22) ((rendN xk6 x most).kids.length) (kck22)]) rfl (M.cellsL (k := 0) rfl rfl)) rfl ?_; clear F a; intro a F
        refine rl_guard_t F rfl rfl rfl (decide_eq_true h26) ?_
        refine rl_callS F ent18 rfl rfl (rsame_spec (x := (rendN xk6 x most)) (u := (rendN xk6 x most)) M hkk19 hlk19 SAk19 SKk19 hkk22 hlk22 SAk22 SKk22) ?_; clear F M a; rintro _ w a M rfl F
        refine rl_guard_t F rfl rfl rfl (decide_eq_true h26) ?_
        refine rl_run F (run_eqi (F.ev rfl) (F.ev rfl)) rfl ?_; clear F a; intro a F
        refine rl_guard_t F rfl rfl rfl rfl ?_
        refine rl_run F (run_pick_t (F.ev rfl) (decide_eq_true h26) (F.ev rfl)) rfl ?_; clear F a; intro a F
        refine rl_run F (run_pick_f (F.ev rfl) rfl (F.ev rfl)) rfl ?_; clear F a; intro a F
        refine rl_run F (run_move (F.ev rfl)) rfl ?_; clear F a; intro a F
        refine rl_guard_t F rfl rfl rfl (decide_eq_true (rend_same (by assumption))) ?_
        refine rl_callS F ent28 rfl rfl (lives_spec M) ?_; clear F M a; rintro _ w a M rfl F
        refine rl_run F (run_pick_t (F.ev rfl) (decide_eq_true (rend_same (by assumption))) (F.ev rfl)) rfl ?_; clear F a; intro a F
        refine rl_run F (run_assign (F.ev rfl)) rfl ?_; clear F a; intro a F
        refine rl_nil <| q_tn <| wp_ret <| fin1 F rfl rfl ?_
        exact ⟨_, ((hGk6.trans hGk19).trans hGk22), M.weaken (.cons _ (.cons _ (.cons _ (.cons _ (.cons _ (.cons _ (List.Sublist.refl _))))))), by rfl⟩
theorem errlaw_spec {w0 w : World} {G : Ghost} {L : List Res} (M : Mem w0 G L w) {ca : Option Addr} {cc : Nat} {cs : List UInt8} (S : RdSl rdB 1 G (.slice ca cs.length cc) cs) {pt psl : Nat} (hpt : pt < 256) (hps : psl < 256) {x : ItemD} {ma : Option Addr} {mc : Nat} (ht : x.text.length ≤ 9223372036854775807) (SM : RdSl rdStr 1 G (.slice ma x.marks.length mc) x.marks) (hik : inKind .u64 x.key) {most : Int} {odd : Bool} : Calls Tryz.prog 7 #[.agg #[.int .u8 (((pt : Nat) : Int)), .int .u8 (((psl : Nat) : Int)), .slice (ca) (cs.length) (cc)], .agg #[.int .u64 (x.key), .int .u8 (x.typ), .string (str (x.text)), .slice (ma) (x.marks.length) (mc)], .agg #[.int .i64 most, .bool odd]] w (RetS w0 G L fun v => v = .bool true) := Ret.plain M (errlaw_ret M S hpt hps ht SM hik)
theorem u8_nat {n : Int} (h : inKind .u8 n) : ∃ m : Nat, n = (m : Int) ∧ m < 256 := by
  have h1 : (0 : Int) ≤ n := h.1
  have h2 : n ≤ 255 := h.2
  exact ⟨n.toNat, by omega, by omega⟩
theorem errlaw_law {w0 w : World} {G : Ghost} {L : List Res} (M : Mem w0 G L w) {ca : Option Addr} {cc : Nat} {cs : List UInt8} (S : RdSl rdB 1 G (.slice ca cs.length cc) cs) {n0 n1 : Int} (k0 : inKind .u8 n0) (k1 : inKind .u8 n1) {n2 n3 : Int} {tx : List UInt8} {xs : List (List UInt8)} {ma : Option Addr} {mc : Nat} (ht : tx.length ≤ 9223372036854775807) (SM : RdSl rdStr 1 G (.slice ma xs.length mc) xs) (hik : inKind .u64 n2) {most : Int} {odd : Bool} :
    Calls Tryz.prog 7 #[.agg #[.int .u8 n0, .int .u8 n1, .slice ca cs.length cc], .agg #[.int .u64 n2, .int .u8 n3, .string (str tx), .slice ma xs.length mc], .agg #[.int .i64 most, .bool odd]] w (RetS w0 G L fun v => v = .bool true) := by
  obtain ⟨pt, rfl, hpt⟩ := u8_nat k0
  obtain ⟨psl, rfl, hps⟩ := u8_nat k1
  exact errlaw_spec (x := ⟨n2, n3, tx, xs⟩) M S hpt hps ht SM hik
end Go.Proofs.YtlnehkjmmegkhaaGreat
