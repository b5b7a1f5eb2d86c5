/- The walks, part L. -/
import Derived.Test.YtlnehkjmmegkhaaGreatWalkK
namespace Go.Proofs.YtlnehkjmmegkhaaGreat
open Go Go.Y Go.Proofs
set_option linter.unusedSimpArgs false
set_option linter.unusedVariables false
theorem trender_spec {w0 w : World} {G : Ghost} {L : List Res} (M : Mem w0 G L w) {p : PT} {tap : Option Addr} {tcp : Nat} {kap : Option Addr} {kcp : Nat} (hkp : inKind .u8 p.kind) (hlp : (p.tag.length ≤ 9223372036854775807 ∧ p.key.length ≤ 9223372036854775807 ∧ p.text.length ≤ 9223372036854775807)) (SAp : RdSl rdSlot 3 G (.slice tap p.as.length tcp) p.as) (SKp : RdSl rdP 6 G (.slice kap p.kids.length kcp) p.kids) {x : ItemD} {ma : Option Addr} {mc : Nat} (ht : x.text.length ≤ 9223372036854775807) (SM : RdSl rdStr 1 G (.slice ma x.marks.length mc) x.marks) (hik : inKind .u64 x.key) {most : Int} : Calls Tryz.prog 22 #[.agg #[.int .u8 (p.kind), .string (str (p.tag)), .string (str (p.key)), .slice (tap) (p.as.length) (tcp), .string (str (p.text)), .slice (kap) (p.kids.length) (kcp)], .agg #[.int .u64 (x.key), .int .u8 (x.typ), .string (str (x.text)), .slice (ma) (x.marks.length) (mc)], .int .i64 most] w (Ret w0 G L fun G' v => ∃ a1 a2, v = .tuple #[.agg #[.int .u8 (rendN p x most).kind, .string (str (rendN p x most).tag), .string (str (rendN p x most).key), .slice a1 (rendN p x most).as.length (rendN p x most).as.length, .string (str (rendN p x most).text), .slice a2 (rendN p x most).kids.length (rendN p x most).kids.length], .int .i64 (rendE p x most)] ∧ RdSl rdAttr 2 G' (.slice a1 (rendN p x most).as.length (rendN p x most).as.length) (rendN p x most).as ∧ RdSl rdNE 6 G' (.slice a2 (rendN p x most).kids.length (rendN p x most).kids.length) (rendN p x most).kids) := by
  refine calls_start (vs := [_, _, _]) Tryz.func22 rfl (n := 49) rfl rfl ?_
  intro a F
  refine wp_seq <| w_reg <| rl_box F M rfl (cs := [.int .u8 (p.kind), .string (str (p.tag)), .string (str (p.key)), .slice (tap) (p.as.length) (tcp), .string (str (p.text)), .slice (kap) (p.kids.length) (kcp)]) rfl rfl ?_; clear F M a; intro b1 w a M F
  refine rl_box F M rfl (cs := [.int .u64 (x.key), .int .u8 (x.typ), .string (str (x.text)), .slice (ma) (x.marks.length) (mc)]) rfl rfl ?_; clear F M a; intro b2 w a M F
  refine rl_alloc F M tok30 rfl rfl ?_; clear F M a; intro b3 w a M F
  refine rl_run F (run_assign (F.ev rfl)) rfl ?_; clear F a; intro a F
  refine rl_nil <| q_tn ?_
  iterate 2 (refine wp_seq ?_)
  refine w_reg <| rl_run F (run_move (F.ev rfl)) rfl ?_; clear F a; intro a F
  refine rl_run F (run_lss (F.ev rfl) (F.ev rfl)) rfl ?_; clear F a; intro a F
  refine rl_run F (run_move (F.ev rfl)) rfl ?_; clear F a; intro a F
  rcases Bool.eq_false_or_eq_true (decide (most < 1)) with hc | hc
  · skip
    have h5b := hc; clear hc
    have h5 : most < 1 := of_decide_eq_true h5b
    iterate 2 (refine rl_guard_f F rfl rfl rfl h5b ?_; clear F a; intro a F)
    refine rl_run F (run_pick_t (F.ev rfl) h5b (F.ev rfl)) rfl ?_; clear F a; intro a F
    refine rl_nil <| q_tn <| w_cond_t F rfl rfl ?_
    refine wp_seq <| w_reg <| rl_run F (run_buildS (cs := [.int .u8 (0), .string (str ([] : List UInt8)), .string (str ([] : List UInt8)), .slice none (0) (0), .string (str ([] : List UInt8)), .slice none (0) (0)]) (ps := []) tok30.k rfl tok30 (F.evp rfl) rfl) rfl ?_; clear F a; intro a F
    refine rl_storeA F M tok30 (k := 0) rfl rfl rfl (us := [.int .u8 (0), .string (str ([] : List UInt8)), .string (str ([] : List UInt8)), .slice none (0) (0), .string (str ([] : List UInt8)), .slice none (0) (0)]) rfl rfl (by simp [Value.oneCell']) (by simp) ?_; clear F M a; intro w a M F
    change Mem w0 G (.blk b3 [.int .u8 (0), .string (str ([] : List UInt8)), .string (str ([] : List UInt8)), .slice none (0) (0), .string (str ([] : List UInt8)), .slice none (0) (0)] 30 :: .blk b2 [.int .u64 (x.key), .int .u8 (x.typ), .string (str (x.text)), .slice (ma) (x.marks.length) (mc)] 51 :: .blk b1 [.int .u8 (p.kind), .string (str (p.tag)), .string (str (p.key)), .slice (tap) (p.as.length) (tcp), .string (str (p.text)), .slice (kap) (p.kids.length) (kcp)] 46 :: L) _ at M
    refine rl_run F (run_assign (F.ev rfl)) rfl ?_; clear F a; intro a F
    refine rl_nil <| q_tn <| wp_ret <| q_tr <| fin_ct F M (k := 0) rfl rfl tok30 rfl rfl rfl rfl ?_
    have hE : rendE p x most = 1 := rend_arg (by omega)
    have hN : rendN p x most = zeroN := rendN_no (by rw [hE]; (first | decide | omega))
    exact ⟨_, (Gle.refl _), (M.weaken (.cons _ (.cons _ (.cons _ (List.Sublist.refl _))))), none, none, by rw [hE, hN]; rfl, by rw [hN]; exact RdSl.nil, by rw [hN]; exact RdSl.nil⟩
  · skip
    have h6b := hc; clear hc
    have h6 : ¬ (most < 1) := of_decide_eq_false h6b
    refine rl_guard_t F rfl rfl rfl h6b ?_
    refine rl_run F (run_move (F.ev rfl)) rfl ?_; clear F a; intro a F
    refine rl_guard_t F rfl rfl rfl h6b ?_
    refine rl_run F (run_gtr (F.ev rfl) (F.ev rfl)) rfl ?_; clear F a; intro a F
    refine rl_run F (run_pick_f (F.ev rfl) h6b (F.ev rfl)) rfl ?_; clear F a; intro a F
    refine rl_nil <| q_tn <| w_cond F rfl ?_ ?_
    · intro hc
      have h7b := hc; clear hc
      have h7 : 64 < most := of_decide_eq_true h7b
      refine wp_seq <| w_reg <| rl_run F (run_buildS (cs := [.int .u8 (0), .string (str ([] : List UInt8)), .string (str ([] : List UInt8)), .slice none (0) (0), .string (str ([] : List UInt8)), .slice none (0) (0)]) (ps := []) tok30.k rfl tok30 (F.evp rfl) rfl) rfl ?_; clear F a; intro a F
      refine rl_storeA F M tok30 (k := 0) rfl rfl rfl (us := [.int .u8 (0), .string (str ([] : List UInt8)), .string (str ([] : List UInt8)), .slice none (0) (0), .string (str ([] : List UInt8)), .slice none (0) (0)]) rfl rfl (by simp [Value.oneCell']) (by simp) ?_; clear F M a; intro w a M F
      change Mem w0 G (.blk b3 [.int .u8 (0), .string (str ([] : List UInt8)), .string (str ([] : List UInt8)), .slice none (0) (0), .string (str ([] : List UInt8)), .slice none (0) (0)] 30 :: .blk b2 [.int .u64 (x.key), .int .u8 (x.typ), .string (str (x.text)), .slice (ma) (x.marks.length) (mc)] 51 :: .blk b1 [.int .u8 (p.kind), .string (str (p.tag)), .string (str (p.key)), .slice (tap) (p.as.length) (tcp), .string (str (p.text)), .slice (kap) (p.kids.length) (kcp)] 46 :: L) _ at M
      refine rl_run F (run_assign (F.ev rfl)) rfl ?_; clear F a; intro a F
      refine rl_nil <| q_tn <| wp_ret <| q_tr <| fin_ct F M (k := 0) rfl rfl tok30 rfl rfl rfl rfl ?_
      have hE : rendE p x most = 1 := rend_arg (by omega)
      have hN : rendN p x most = zeroN := rendN_no (by rw [hE]; (first | decide | omega))
      exact ⟨_, (Gle.refl _), (M.weaken (.cons _ (.cons _ (.cons _ (List.Sublist.refl _))))), none, none, by rw [hE, hN]; rfl, by rw [hN]; exact RdSl.nil, by rw [hN]; exact RdSl.nil⟩
    · intro hc
      have h8b := hc; clear hc
      have h8 : ¬ (64 < most) := of_decide_eq_false h8b
      refine wp_skip <| q_tn ?_
      iterate 2 (refine wp_seq ?_)
      refine w_reg <| rl_run F (run_loadA tok46 rfl (F.ev rfl) (cs := [.int .u8 (p.kind), .string (str (p.tag)), .string (str (p.key)), .slice (tap) (p.as.length) (tcp), .string (str (p.text)), .slice (kap) (p.kids.length) (kcp)]) rfl (M.cellsL (k := 2) rfl rfl)) rfl ?_; clear F a; intro a F
      refine rl_callS F ent26 rfl rfl (tcheck_spec (x := p) M hkp hlp SAp SKp) ?_; clear F M a; rintro _ w a M rfl F
      refine rl_run F (run_assign (F.ev rfl)) rfl ?_; clear F a; intro a F
      refine rl_nil <| q_tn <| wp_seq <| w_reg <| rl_run F (run_move (F.ev rfl)) rfl ?_; clear F a; intro a F
      refine rl_run F (run_nei (F.ev rfl) (F.ev rfl)) rfl ?_; clear F a; intro a F
      refine rl_nil <| q_tn <| w_cond F rfl ?_ ?_
      · intro hc
        have h9b := hc; clear hc
        have h9 : ¬ (chkP p = 0) := of_decide_eq_false (of_not_t h9b)
        have h9c : (decide (chkP p = 0)) = false := (of_not_t h9b)
        have hV : ¬ ValidP p := fun h_ => by have := chkP_zero.2 h_; omega
        refine wp_seq <| w_reg <| rl_run F (run_buildS (cs := [.int .u8 (0), .string (str ([] : List UInt8)), .string (str ([] : List UInt8)), .slice none (0) (0), .string (str ([] : List UInt8)), .slice none (0) (0)]) (ps := []) tok30.k rfl tok30 (F.evp rfl) rfl) rfl ?_; clear F a; intro a F
        refine rl_run F (run_move (F.ev rfl)) rfl ?_; clear F a; intro a F
        refine rl_storeA F M tok30 (k := 0) rfl rfl rfl (us := [.int .u8 (0), .string (str ([] : List UInt8)), .string (str ([] : List UInt8)), .slice none (0) (0), .string (str ([] : List UInt8)), .slice none (0) (0)]) rfl rfl (by simp [Value.oneCell']) (by simp) ?_; clear F M a; intro w a M F
        change Mem w0 G (.blk b3 [.int .u8 (0), .string (str ([] : List UInt8)), .string (str ([] : List UInt8)), .slice none (0) (0), .string (str ([] : List UInt8)), .slice none (0) (0)] 30 :: .blk b2 [.int .u64 (x.key), .int .u8 (x.typ), .string (str (x.text)), .slice (ma) (x.marks.length) (mc)] 51 :: .blk b1 [.int .u8 (p.kind), .string (str (p.tag)), .string (str (p.key)), .slice (tap) (p.as.length) (tcp), .string (str (p.text)), .slice (kap) (p.kids.length) (kcp)] 46 :: L) _ at M
        refine rl_run F (run_assign (F.ev rfl)) rfl ?_; clear F a; intro a F
        refine rl_nil <| q_tn <| wp_ret <| q_tr <| fin_ct F M (k := 0) rfl rfl tok30 rfl rfl rfl rfl ?_
        have hE : rendE p x most = chkP p := by rw [chkP_no hV]; exact rend_tree (by omega) hV
        have hN : rendN p x most = zeroN := rendN_no (by rw [hE]; (first | decide | omega))
        exact ⟨_, (Gle.refl _), (M.weaken (.cons _ (.cons _ (.cons _ (List.Sublist.refl _))))), none, none, by rw [hE, hN]; rfl, by rw [hN]; exact RdSl.nil, by rw [hN]; exact RdSl.nil⟩
      · intro hc
        have h10b := hc; clear hc
        have h10 : chkP p = 0 := of_decide_eq_true (of_not_f h10b)
        have h10c : (decide (chkP p = 0)) = true := (of_not_f h10b)
        have hV : ValidP p := chkP_zero.1 (by omega)
        refine wp_skip <| q_tn ?_
        iterate 2 (refine wp_seq ?_)
        refine w_reg <| rl_run F (run_loadA tok51 rfl (F.ev rfl) (cs := [.int .u64 (x.key), .int .u8 (x.typ), .string (str (x.text)), .slice (ma) (x.marks.length) (mc)]) rfl (M.cellsL (k := 1) rfl rfl)) rfl ?_; clear F a; intro a F
        refine rl_callS F ent27 rfl rfl (checkitem_spec (x := x) M ht SM) ?_; clear F M a; rintro _ w a M rfl F
        refine rl_run F (run_assign (F.ev rfl)) rfl ?_; clear F a; intro a F
        refine rl_nil <| q_tn <| wp_seq <| w_reg <| rl_run F (run_move (F.ev rfl)) rfl ?_; clear F a; intro a F
        refine rl_run F (run_nei (F.ev rfl) (F.ev rfl)) rfl ?_; clear F a; intro a F
        refine rl_nil <| q_tn <| w_cond F rfl ?_ ?_
        · intro hc
          have h11b := hc; clear hc
          have h11 : ¬ (itmF x = 0) := of_decide_eq_false (of_not_t h11b)
          have h11c : (decide (itmF x = 0)) = false := (of_not_t h11b)
          have hio : ¬ ItemOk x := fun h_ => by have := itmF_zero.2 h_; omega
          refine wp_seq <| w_reg <| rl_run F (run_buildS (cs := [.int .u8 (0), .string (str ([] : List UInt8)), .string (str ([] : List UInt8)), .slice none (0) (0), .string (str ([] : List UInt8)), .slice none (0) (0)]) (ps := []) tok30.k rfl tok30 (F.evp rfl) rfl) rfl ?_; clear F a; intro a F
          refine rl_run F (run_move (F.ev rfl)) rfl ?_; clear F a; intro a F
          refine rl_storeA F M tok30 (k := 0) rfl rfl rfl (us := [.int .u8 (0), .string (str ([] : List UInt8)), .string (str ([] : List UInt8)), .slice none (0) (0), .string (str ([] : List UInt8)), .slice none (0) (0)]) rfl rfl (by simp [Value.oneCell']) (by simp) ?_; clear F M a; intro w a M F
          change Mem w0 G (.blk b3 [.int .u8 (0), .string (str ([] : List UInt8)), .string (str ([] : List UInt8)), .slice none (0) (0), .string (str ([] : List UInt8)), .slice none (0) (0)] 30 :: .blk b2 [.int .u64 (x.key), .int .u8 (x.typ), .string (str (x.text)), .slice (ma) (x.marks.length) (mc)] 51 :: .blk b1 [.int .u8 (p.kind), .string (str (p.tag)), .string (str (p.key)), .slice (tap) (p.as.length) (tcp), .string (str (p.text)), .slice (kap) (p.kids.length) (kcp)] 46 :: L) _ at M
          refine rl_run F (run_assign (F.ev rfl)) rfl ?_; clear F a; intro a F
          refine rl_nil <| q_tn <| wp_ret <| q_tr <| fin_ct F M (k := 0) rfl rfl tok30 rfl rfl rfl rfl ?_
          have hE : rendE p x most = itmF x := by rw [itmF_no hio]; exact rend_item (by omega) hV hio
          have hN : rendN p x most = zeroN := rendN_no (by rw [hE]; (first | decide | omega))
          exact ⟨_, (Gle.refl _), (M.weaken (.cons _ (.cons _ (.cons _ (List.Sublist.refl _))))), none, none, by rw [hE, hN]; rfl, by rw [hN]; exact RdSl.nil, by rw [hN]; exact RdSl.nil⟩
        · intro hc
          have h12b := hc; clear hc
          have h12 : itmF x = 0 := of_decide_eq_true (of_not_f h12b)
          have h12c : (decide (itmF x = 0)) = true := (of_not_f h12b)
          have hio : ItemOk x := itmF_zero.1 (by omega)
          refine wp_skip <| q_tn <| wp_seq <| w_reg <| rl_run F (run_loadA tok51 rfl (F.ev rfl) (cs := [.int .u64 (x.key), .int .u8 (x.typ), .string (str (x.text)), .slice (ma) (x.marks.length) (mc)]) rfl (M.cellsL (k := 1) rfl rfl)) rfl ?_; clear F a; intro a F
          refine rl_run F (run_buildS (cs := [.int .u64 (x.key), .int .u8 (x.typ), .string (str (x.text)), .slice (ma) (x.marks.length) (mc)]) (ps := [(0, .agg #[.int .u64 (x.key), .int .u8 (x.typ), .string (str (x.text)), .slice (ma) (x.marks.length) (mc)])]) tok102.k rfl tok102 (F.evp rfl) rfl) rfl ?_; clear F a; intro a F
          refine rl_run F (run_loadA tok46 rfl (F.ev rfl) (cs := [.int .u8 (p.kind), .string (str (p.tag)), .string (str (p.key)), .slice (tap) (p.as.length) (tcp), .string (str (p.text)), .slice (kap) (p.kids.length) (kcp)]) rfl (M.cellsL (k := 2) rfl rfl)) rfl ?_; clear F a; intro a F
          refine rl_buildSlice1 F M tok44.k tok46 rfl rfl (cs := [.int .u8 (p.kind), .string (str (p.tag)), .string (str (p.key)), .slice (tap) (p.as.length) (tcp), .string (str (p.text)), .slice (kap) (p.kids.length) (kcp)]) rfl rfl (by simp [Value.oneCell']) (by decide) rfl ?_; clear F M a; intro v13 w a M F
          obtain ⟨av13, cv13, rfl, hlev13, hcmv13, hlv13⟩ := M.row_shape (k := 0) rfl
          have E14 : Els rdP 6 G [.int .u8 (p.kind), .string (str (p.tag)), .string (str (p.key)), .slice (tap) (p.as.length) (tcp), .string (str (p.text)), .slice (kap) (p.kids.length) (kcp)] [p] := Els.one (rdT_close (x := p) hkp hlp SAp SKp) rfl
          obtain ⟨hnz15, Gz15, az15, cz15, hGz15, hez15, Sz15, M⟩ := M.freeze_row mono_rdP (k := 0) rfl E14 (by decide)
          clear hez15 az15 cz15
          replace SAp := SAp.mono mono_rdSlot hGz15
          replace SKp := SKp.mono mono_rdP hGz15
          replace SM := SM.mono mono_rdStr hGz15
          clear hnz15
          replace Sz15 : RdSl rdP 6 Gz15 (.slice (av13) ([p]).length (cv13)) ([p]) := Sz15
          refine rl_call F ent62 rfl rfl (mmake_all hik hio ht [p] _ _ _ _ _ _ _ _ M SM Sz15 (by simp) (fun q hq => by rw [List.mem_singleton] at hq; subst hq; exact validP_elem hV)) ?_; clear F M a; rintro _ Gk16 w a hGk16 M ⟨ak16, ck16, rfl, Sk16⟩ F
          replace SAp := SAp.mono mono_rdSlot hGk16
          replace SKp := SKp.mono mono_rdP hGk16
          replace SM := SM.mono mono_rdStr hGk16
          replace Sz15 := Sz15.mono mono_rdP hGk16
          have hN1 : (madesF x [p])[0]? = some (node1 x p) := by rw [mades_one hV.1]; rfl
          obtain ⟨be17, oe17, _, Ie17, _, Ae17, hTe17⟩ := Sk16.at hN1
          obtain ⟨tae17, kae17, rfl, hke17, hle17, SAe17, SKe17⟩ := rdNE_open hTe17
          refine rl_run F (run_indexI tok28.k tok30 (F.ev rfl) (F.ev rfl) (by omega) Ie17) rfl ?_; clear F a; intro a F
          refine rl_run F (run_loadA tok30 rfl (F.ev rfl) (cs := [.int .u8 ((node1 x p).kind), .string (str ((node1 x p).tag)), .string (str ((node1 x p).key)), .slice (tae17) ((node1 x p).as.length) ((node1 x p).as.length), .string (str ((node1 x p).text)), .slice (kae17) ((node1 x p).kids.length) ((node1 x p).kids.length)]) rfl (M.cellsA Ae17 0 (by omega) rfl)) rfl ?_; clear F a; intro a F
          refine rl_alloc F M tok30 rfl rfl ?_; clear F M a; intro b18 w a M F
          refine rl_storeA F M tok30 (k := 0) rfl rfl rfl (us := [.int .u8 ((node1 x p).kind), .string (str ((node1 x p).tag)), .string (str ((node1 x p).key)), .slice (tae17) ((node1 x p).as.length) ((node1 x p).as.length), .string (str ((node1 x p).text)), .slice (kae17) ((node1 x p).kids.length) ((node1 x p).kids.length)]) rfl rfl (by simp [Value.oneCell']) (by simp) ?_; clear F M a; intro w a M F
          change Mem w0 Gk16 (.blk b18 [.int .u8 ((node1 x p).kind), .string (str ((node1 x p).tag)), .string (str ((node1 x p).key)), .slice (tae17) ((node1 x p).as.length) ((node1 x p).as.length), .string (str ((node1 x p).text)), .slice (kae17) ((node1 x p).kids.length) ((node1 x p).kids.length)] 30 :: .blk b3 [.int .u8 (0), .string (str ([] : List UInt8)), .string (str ([] : List UInt8)), .slice none (0) (0), .string (str ([] : List UInt8)), .slice none (0) (0)] 30 :: .blk b2 [.int .u64 (x.key), .int .u8 (x.typ), .string (str (x.text)), .slice (ma) (x.marks.length) (mc)] 51 :: .blk b1 [.int .u8 (p.kind), .string (str (p.tag)), .string (str (p.key)), .slice (tap) (p.as.length) (tcp), .string (str (p.text)), .slice (kap) (p.kids.length) (kcp)] 46 :: L) _ at M
          refine rl_nil <| q_tn ?_
          iterate 2 (refine wp_seq ?_)
          refine w_reg <| rl_run F (run_loadA tok30 rfl (F.ev rfl) (cs := [.int .u8 ((node1 x p).kind), .string (str ((node1 x p).tag)), .string (str ((node1 x p).key)), .slice (tae17) ((node1 x p).as.length) ((node1 x p).as.length), .string (str ((node1 x p).text)), .slice (kae17) ((node1 x p).kids.length) ((node1 x p).kids.length)]) rfl (M.cellsL (k := 0) rfl rfl)) rfl ?_; clear F a; intro a F
          refine rl_callS F ent17 rfl rfl (ncount_spec (x := (node1 x p)) M hke17 hle17 SAe17 (weakN SKe17)) ?_; clear F M a; rintro _ w a M rfl F
          refine rl_run F (run_assign (F.ev rfl)) rfl ?_; clear F a; intro a F
          refine rl_nil <| q_tn <| wp_seq <| w_reg <| rl_run F (run_move (F.ev rfl)) rfl ?_; clear F a; intro a F
          refine rl_run F (run_eqi (F.ev rfl) (F.ev rfl)) rfl ?_; clear F a; intro a F
          refine rl_run F (run_move (F.ev rfl)) rfl ?_; clear F a; intro a F
          rcases Bool.eq_false_or_eq_true (decide (((cntF (node1 x p) : Nat) : Int) = 0)) with hc | hc
          · skip
            have h20b := hc; clear hc
            have h20 : ((cntF (node1 x p) : Nat) : Int) = 0 := of_decide_eq_true h20b
            iterate 3 (refine rl_guard_f F rfl rfl rfl h20b ?_; clear F a; intro a F)
            refine rl_run F (run_pick_t (F.ev rfl) h20b (F.ev rfl)) rfl ?_; clear F a; intro a F
            refine rl_nil <| q_tn <| w_cond_t F rfl rfl ?_
            refine wp_seq <| w_reg <| rl_run F (run_buildS (cs := [.int .u8 (0), .string (str ([] : List UInt8)), .string (str ([] : List UInt8)), .slice none (0) (0), .string (str ([] : List UInt8)), .slice none (0) (0)]) (ps := []) tok30.k rfl tok30 (F.evp rfl) rfl) rfl ?_; clear F a; intro a F
            refine rl_storeA F M tok30 (k := 1) rfl rfl rfl (us := [.int .u8 (0), .string (str ([] : List UInt8)), .string (str ([] : List UInt8)), .slice none (0) (0), .string (str ([] : List UInt8)), .slice none (0) (0)]) rfl rfl (by simp [Value.oneCell']) (by simp) ?_; clear F M a; intro w a M F
            change Mem w0 Gk16 (.blk b18 [.int .u8 ((node1 x p).kind), .string (str ((node1 x p).tag)), .string (str ((node1 x p).key)), .slice (tae17) ((node1 x p).as.length) ((node1 x p).as.length), .string (str ((node1 x p).text)), .slice (kae17) ((node1 x p).kids.length) ((node1 x p).kids.length)] 30 :: .blk b3 [.int .u8 (0), .string (str ([] : List UInt8)), .string (str ([] : List UInt8)), .slice none (0) (0), .string (str ([] : List UInt8)), .slice none (0) (0)] 30 :: .blk b2 [.int .u64 (x.key), .int .u8 (x.typ), .string (str (x.text)), .slice (ma) (x.marks.length) (mc)] 51 :: .blk b1 [.int .u8 (p.kind), .string (str (p.tag)), .string (str (p.key)), .slice (tap) (p.as.length) (tcp), .string (str (p.text)), .slice (kap) (p.kids.length) (kcp)] 46 :: L) _ at M
            refine rl_run F (run_assign (F.ev rfl)) rfl ?_; clear F a; intro a F
            refine rl_nil <| q_tn <| wp_ret <| q_tr <| fin_ct F M (k := 1) rfl rfl tok30 rfl rfl rfl rfl ?_
            have hE : rendE p x most = 14 := rend_many (by omega) hV hio (by omega)
            have hN : rendN p x most = zeroN := rendN_no (by rw [hE]; (first | decide | omega))
            exact ⟨_, (hGz15.trans hGk16), (M.weaken (.cons _ (.cons _ (.cons _ (.cons _ (List.Sublist.refl _)))))), none, none, by rw [hE, hN]; rfl, by rw [hN]; exact RdSl.nil, by rw [hN]; exact RdSl.nil⟩
          · skip
            have h21b := hc; clear hc
            have h21 : ¬ (((cntF (node1 x p) : Nat) : Int) = 0) := of_decide_eq_false h21b
            refine rl_guard_t F rfl rfl rfl h21b ?_
            refine rl_run F (run_move (F.ev rfl)) rfl ?_; clear F a; intro a F
            refine rl_guard_t F rfl rfl rfl h21b ?_
            refine rl_run F (run_move (F.ev rfl)) rfl ?_; clear F a; intro a F
            refine rl_guard_t F rfl rfl rfl h21b ?_
            refine rl_run F (run_gtr (F.ev rfl) (F.ev rfl)) rfl ?_; clear F a; intro a F
            refine rl_run F (run_pick_f (F.ev rfl) h21b (F.ev rfl)) rfl ?_; clear F a; intro a F
            refine rl_nil <| q_tn <| w_cond F rfl ?_ ?_
            · intro hc
              have h22b := hc; clear hc
              have h22 : most < ((cntF (node1 x p) : Nat) : Int) := of_decide_eq_true h22b
              refine wp_seq <| w_reg <| rl_run F (run_buildS (cs := [.int .u8 (0), .string (str ([] : List UInt8)), .string (str ([] : List UInt8)), .slice none (0) (0), .string (str ([] : List UInt8)), .slice none (0) (0)]) (ps := []) tok30.k rfl tok30 (F.evp rfl) rfl) rfl ?_; clear F a; intro a F
              refine rl_storeA F M tok30 (k := 1) rfl rfl rfl (us := [.int .u8 (0), .string (str ([] : List UInt8)), .string (str ([] : List UInt8)), .slice none (0) (0), .string (str ([] : List UInt8)), .slice none (0) (0)]) rfl rfl (by simp [Value.oneCell']) (by simp) ?_; clear F M a; intro w a M F
              change Mem w0 Gk16 (.blk b18 [.int .u8 ((node1 x p).kind), .string (str ((node1 x p).tag)), .string (str ((node1 x p).key)), .slice (tae17) ((node1 x p).as.length) ((node1 x p).as.length), .string (str ((node1 x p).text)), .slice (kae17) ((node1 x p).kids.length) ((node1 x p).kids.length)] 30 :: .blk b3 [.int .u8 (0), .string (str ([] : List UInt8)), .string (str ([] : List UInt8)), .slice none (0) (0), .string (str ([] : List UInt8)), .slice none (0) (0)] 30 :: .blk b2 [.int .u64 (x.key), .int .u8 (x.typ), .string (str (x.text)), .slice (ma) (x.marks.length) (mc)] 51 :: .blk b1 [.int .u8 (p.kind), .string (str (p.tag)), .string (str (p.key)), .slice (tap) (p.as.length) (tcp), .string (str (p.text)), .slice (kap) (p.kids.length) (kcp)] 46 :: L) _ at M
              refine rl_run F (run_assign (F.ev rfl)) rfl ?_; clear F a; intro a F
              refine rl_nil <| q_tn <| wp_ret <| q_tr <| fin_ct F M (k := 1) rfl rfl tok30 rfl rfl rfl rfl ?_
              have hE : rendE p x most = 14 := rend_many (by omega) hV hio (by omega)
              have hN : rendN p x most = zeroN := rendN_no (by rw [hE]; (first | decide | omega))
              exact ⟨_, (hGz15.trans hGk16), (M.weaken (.cons _ (.cons _ (.cons _ (.cons _ (List.Sublist.refl _)))))), none, none, by rw [hE, hN]; rfl, by rw [hN]; exact RdSl.nil, by rw [hN]; exact RdSl.nil⟩
            · intro hc
              have h23b := hc; clear hc
              have h23 : ¬ (most < ((cntF (node1 x p) : Nat) : Int)) := of_decide_eq_false h23b
              refine wp_skip <| q_tn <| wp_seq <| w_reg <| rl_run F (run_loadA tok30 rfl (F.ev rfl) (cs := [.int .u8 ((node1 x p).kind), .string (str ((node1 x p).tag)), .string (str ((node1 x p).key)), .slice (tae17) ((node1 x p).as.length) ((node1 x p).as.length), .string (str ((node1 x p).text)), .slice (kae17) ((node1 x p).kids.length) ((node1 x p).kids.length)]) rfl (M.cellsL (k := 0) rfl rfl)) rfl ?_; clear F a; intro a F
              refine rl_storeA F M tok30 (k := 1) rfl rfl rfl (us := [.int .u8 ((node1 x p).kind), .string (str ((node1 x p).tag)), .string (str ((node1 x p).key)), .slice (tae17) ((node1 x p).as.length) ((node1 x p).as.length), .string (str ((node1 x p).text)), .slice (kae17) ((node1 x p).kids.length) ((node1 x p).kids.length)]) rfl rfl (by simp [Value.oneCell']) (by simp) ?_; clear F M a; intro w a M F
              change Mem w0 Gk16 (.blk b18 [.int .u8 ((node1 x p).kind), .string (str ((node1 x p).tag)), .string (str ((node1 x p).key)), .slice (tae17) ((node1 x p).as.length) ((node1 x p).as.length), .string (str ((node1 x p).text)), .slice (kae17) ((node1 x p).kids.length) ((node1 x p).kids.length)] 30 :: .blk b3 [.int .u8 ((node1 x p).kind), .string (str ((node1 x p).tag)), .string (str ((node1 x p).key)), .slice (tae17) ((node1 x p).as.length) ((node1 x p).as.length), .string (str ((node1 x p).text)), .slice (kae17) ((node1 x p).kids.length) ((node1 x p).kids.length)] 30 :: .blk b2 [.int .u64 (x.key), .int .u8 (x.typ), .string (str (x.text)), .slice (ma) (x.marks.length) (mc)] 51 :: .blk b1 [.int .u8 (p.kind), .string (str (p.tag)), .string (str (p.key)), .slice (tap) (p.as.length) (tcp), .string (str (p.text)), .slice (kap) (p.kids.length) (kcp)] 46 :: L) _ at M
              refine rl_run F (run_assign (F.ev rfl)) rfl ?_; clear F a; intro a F
              refine rl_nil <| q_tn <| wp_ret <| fin_ct F M (k := 1) rfl rfl tok30 rfl rfl rfl rfl ?_
              have hE : rendE p x most = 0 := rend_ok (by omega) hV hio (by omega)
              have hN := rendN_ok hE
              exact ⟨_, (hGz15.trans hGk16), (M.weaken (.cons _ (.cons _ (.cons _ (.cons _ (List.Sublist.refl _)))))), _, _, by rw [hE, hN], by rw [hN]; exact SAe17, by rw [hN]; exact SKe17⟩
end Go.Proofs.YtlnehkjmmegkhaaGreat
