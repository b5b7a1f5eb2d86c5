/- The walks, part NT. -/
import Derived.Test.YtlnehkjmmegkhaaGreatWalkNO
import Derived.Test.YtlnehkjmmegkhaaGreatRdb
namespace Go.Proofs.YtlnehkjmmegkhaaGreat
open Go Go.Y Go.Proofs
set_option linter.unusedSimpArgs false
set_option linter.unusedVariables false
theorem strip_key (x : NT) : (stripF x).key = [] := by cases x; rfl
theorem strip_kids (x : NT) : (stripF x).kids = x.kids.map stripF := by cases x; simp only [stripF, Tr.kids, stripsF_map]
theorem strip_rest (x : NT) : (stripF x).kind = x.kind ∧ (stripF x).tag = x.tag ∧ (stripF x).as = x.as ∧ (stripF x).text = x.text := by cases x; exact ⟨rfl, rfl, rfl, rfl⟩
theorem strip_size (x : NT) : (stripF x).size = x.size := by
 induction x using Tr.ind with
 | _ x ih =>
  rw [Tr.size_eq, Tr.size_eq x, strip_kids]
  have : ∀ l : List NT, (∀ c ∈ l, (stripF c).size = c.size) → Tr.sizes (l.map stripF) = Tr.sizes l := by
   intro l
   induction l with
   | nil => intro _; rfl
   | cons c l ih2 => intro h; simp only [List.map_cons, Tr.sizes]; rw [h c (by simp), ih2 fun d hd => h d (by simp [hd])]
  rw [this _ ih]
theorem strip_ok : ∀ {n : Nat} {x : NT}, Tr.Ok Alone n x → Tr.Ok Alone n (stripF x)
 | 0, x, h => h.elim
 | n + 1, x, h => by
  obtain ⟨e1, e2, e3, e4⟩ := strip_rest x
  refine ⟨?_, fun c hc => ?_⟩
  ·rcases h.1 with ⟨a, b, c, d, e, f⟩ | ⟨a, a1, c, d, e, f, g, g2, g3⟩
   ·exact Or.inl ⟨by rw [e1]; exact a, by rw [e4]; exact b, by rw [e2]; exact c, strip_key x, by rw [e3]; exact e, by rw [strip_kids, List.length_map]; exact f⟩
   ·refine Or.inr ⟨by rw [e1]; exact a, by rw [e1]; exact a1, by rw [e2]; exact c, Or.inl (strip_key x), by rw [e4]; exact e, by rw [e3]; exact f, by rw [strip_kids, List.length_map]; exact g, by rw [e3]; exact g2, ?_⟩
    rw [strip_kids]
    intro i j p q hij hp hq hne
    rw [List.getElem?_map] at hq
    cases hc : x.kids[j]? with
    | none => rw [hc] at hq; cases hq
    | some y => rw [hc] at hq; simp only [Option.map_some, Option.some.injEq] at hq; subst hq; exact absurd (strip_key y) hne
  ·rw [strip_kids] at hc
   obtain ⟨y, hy, rfl⟩ := List.mem_map.1 hc
   exact strip_ok (h.2 y hy)
theorem strF_valid {x : NT} (h : Valid x) : Valid (strF x) := by
 rw [strF_yes h, copF_false]; exact ⟨strip_ok h.1, by rw [strip_size]; exact h.2⟩
theorem strip_twice (x : NT) : stripF (stripF x) = stripF x := by
 induction x using Tr.ind with
 | _ x ih =>
  obtain ⟨e1, e2, e3, e4⟩ := strip_rest x
  obtain ⟨f1, f2, f3, f4⟩ := strip_rest (stripF x)
  refine tree_eq (f1.trans e1 |>.trans e1.symm) (f2.trans e2 |>.trans e2.symm) ((strip_key _).trans (strip_key _).symm) (f3.trans e3 |>.trans e3.symm) (f4.trans e4 |>.trans e4.symm) ?_
  rw [strip_kids, strip_kids, List.map_map]
  exact List.map_congr_left fun y hy => ih y hy
theorem strF_twice {x : NT} (h : Valid x) : strF (strF x) = strF x := by
 rw [strF_yes (strF_valid h), strF_yes h, copF_false, copF_false, strip_twice]
theorem nsamF_yes {x : NT} (h : Valid x) : nsamF x x = true := by unfold nsamF; rw [if_pos ⟨h, h, rfl⟩]
theorem text_valid {x : NT} (h : Valid x) : chkF x = 0 ∧ (if chkF x = 0 then textN x else []) = textN x := ⟨chkF_yes h, by rw [chkF_yes h, if_pos rfl]⟩
set_option maxHeartbeats 2000000 in
theorem nodesText_ret {w0 w : World} {G : Ghost} {L : List Res} (M : Mem w0 G L w) {ca : Option Addr} {cc : Nat} {cs : List UInt8} (S : RdSl rdB 1 G (.slice ca cs.length cc) cs) {pt psl : Nat} (hpt : pt < 256) (hps : psl < 256) : Calls Tryz.prog 9 #[.agg #[.int .u8 (((pt : Nat) : Int)), .int .u8 (((psl : Nat) : Int)), .slice (ca) (cs.length) (cc)]] w (Ret w0 G L fun _ v => v = .bool true) := by
 refine calls_start (vs := [_]) Tryz.func9 rfl (n := 80) rfl rfl ?_
 intro a F
 refine wp_seq <| w_reg <| rl_box F M rfl (cs := [.int .u8 (((pt : Nat) : Int)), .int .u8 (((psl : Nat) : Int)), .slice (ca) (cs.length) (cc)]) rfl rfl ?_; clear F M a; intro b1 w a M F
 refine rl_run F (run_assign (F.ev rfl)) rfl ?_; clear F a; intro a F
 refine rl_nil <| q_tn <| wp_seq <| w_reg <| rl_run F (run_loadA tok24 rfl (F.ev rfl) (cs := [.int .u8 (((pt : Nat) : Int)), .int .u8 (((psl : Nat) : Int)), .slice (ca) (cs.length) (cc)]) rfl (M.cellsL (k := 0) rfl rfl)) rfl ?_; clear F a; intro a F
 refine rl_call F ent14 rfl rfl (nof_spec M S (pt := pt) (psl := psl) (by omega) (by omega)) ?_; clear F M a; rintro _ Gk2 w a hGk2 M ⟨xk2, tak2, kak2, tck2, kck2, rfl, hVk2, hkk2, hlk2, SAk2, SKk2⟩ F
 replace S := S.mono mono_rdB hGk2
 refine rl_alloc F M tok30 rfl rfl ?_; clear F M a; intro b3 w a M F
 refine rl_storeA F M tok30 (k := 0) rfl rfl rfl (us := [.int .u8 (xk2.kind), .string (str (xk2.tag)), .string (str (xk2.key)), .slice (tak2) (xk2.as.length) (tck2), .string (str (xk2.text)), .slice (kak2) (xk2.kids.length) (kck2)]) rfl rfl (by simp [Value.oneCell']) (by simp) ?_; clear F M a; intro w a M F
 change Mem w0 Gk2 (.blk b3 [.int .u8 (xk2.kind), .string (str (xk2.tag)), .string (str (xk2.key)), .slice (tak2) (xk2.as.length) (tck2), .string (str (xk2.text)), .slice (kak2) (xk2.kids.length) (kck2)] 30 :: .blk b1 [.int .u8 (((pt : Nat) : Int)), .int .u8 (((psl : Nat) : Int)), .slice (ca) (cs.length) (cc)] 24 :: L) _ at M
 refine rl_nil <| q_tn <| wp_seq <| w_reg <| rl_run F (run_loadA tok30 rfl (F.ev rfl) (cs := [.int .u8 (xk2.kind), .string (str (xk2.tag)), .string (str (xk2.key)), .slice (tak2) (xk2.as.length) (tck2), .string (str (xk2.text)), .slice (kak2) (xk2.kids.length) (kck2)]) rfl (M.cellsL (k := 0) rfl rfl)) rfl ?_; clear F a; intro a F
 refine rl_callS F ent38 rfl rfl (ntextF_at (x := xk2) (y := textN xk2) (e := 0) M hkk2 hlk2 SAk2 SKk2 (text_valid hVk2)) ?_; clear F M a; rintro _ w a M rfl F
 refine rl_run F (run_move (F.ev rfl)) rfl ?_; clear F a; intro a F
 refine rl_run F (run_extract (v := .string (str (textN xk2))) (F.ev rfl) rfl) rfl ?_; clear F a; intro a F
 refine rl_run F (run_extract (v := .int .i64 (0)) (F.ev rfl) rfl) rfl ?_; clear F a; intro a F
 iterate 2 (refine rl_run F (run_assign (F.ev rfl)) rfl ?_; clear F a; intro a F)
 refine rl_nil <| q_tn ?_
 iterate 2 (refine wp_seq ?_)
 refine w_reg <| rl_run F (run_move (F.ev rfl)) rfl ?_; clear F a; intro a F
 refine rl_run F (run_nei (F.ev rfl) (F.ev rfl)) rfl ?_; clear F a; intro a F
 refine rl_run F (run_move (F.ev rfl)) rfl ?_; clear F a; intro a F
 refine rl_guard_t F rfl rfl rfl (not_f (decide_eq_true (by decide))) ?_
 refine rl_run F (run_move (F.ev rfl)) rfl ?_; clear F a; intro a F
 refine rl_guard_t F rfl rfl rfl (not_f (decide_eq_true (by decide))) ?_
 refine rl_run F (run_loadA tok30 rfl (F.ev rfl) (cs := [.int .u8 (xk2.kind), .string (str (xk2.tag)), .string (str (xk2.key)), .slice (tak2) (xk2.as.length) (tck2), .string (str (xk2.text)), .slice (kak2) (xk2.kids.length) (kck2)]) rfl (M.cellsL (k := 0) rfl rfl)) rfl ?_; clear F a; intro a F
 refine rl_guard_t F rfl rfl rfl (not_f (decide_eq_true (by decide))) ?_
 refine rl_callS F ent39 rfl rfl (rtext_all xk2 6 _ _ _ _ _ _ _ _ (ok_lim hVk2.1) M hkk2 hlk2 SAk2 SKk2 (by first | exact valid_len (by assumption) | exact valid_len (strF_valid (by assumption)))) ?_; clear F M a; rintro _ w a M rfl F
 refine rl_guard_t F rfl rfl rfl (not_f (decide_eq_true (by decide))) ?_
 refine rl_run F (run_strNe (F.ev rfl) (F.ev rfl)) rfl ?_; clear F a; intro a F
 refine rl_run F (run_pick_f (F.ev rfl) (not_f (decide_eq_true (by decide))) (F.ev rfl)) rfl ?_; clear F a; intro a F
 refine rl_nil <| q_tn <| w_cond_f F rfl (not_f (decide_eq_true rfl)) ?_
 refine wp_skip <| q_tn <| wp_seq <| w_reg <| rl_run F (run_move (F.ev rfl)) rfl ?_; clear F a; intro a F
 refine rl_call F ent40 rfl rfl (parse_at (s := (textN xk2)) (y := xk2) (i := 0) (e := 0) M (parR_text hVk2)) ?_; clear F M a; rintro _ Gk5 w a hGk5 M ⟨tak5, kak5, rfl, hkk5, hlk5, SAk5, SKk5⟩ F
 replace S := S.mono mono_rdB hGk5
 replace SAk2 := SAk2.mono mono_rdAttr hGk5
 replace SKk2 := SKk2.mono mono_rdN hGk5
 refine rl_run F (run_move (F.ev rfl)) rfl ?_; clear F a; intro a F
 refine rl_run F (run_extract (v := .agg #[.int .u8 (xk2.kind), .string (str (xk2.tag)), .string (str (xk2.key)), .slice (tak5) (xk2.as.length) (xk2.as.length), .string (str (xk2.text)), .slice (kak5) (xk2.kids.length) (xk2.kids.length)]) (F.ev rfl) rfl) rfl ?_; clear F a; intro a F
 refine rl_run F (run_extract (v := .int .i64 (((0 : Nat) : Int))) (F.ev rfl) rfl) rfl ?_; clear F a; intro a F
 refine rl_run F (run_extract (v := .int .i64 (0)) (F.ev rfl) rfl) rfl ?_; clear F a; intro a F
 refine rl_alloc F M tok30 rfl rfl ?_; clear F M a; intro b6 w a M F
 refine rl_storeA F M tok30 (k := 0) rfl rfl rfl (us := [.int .u8 (xk2.kind), .string (str (xk2.tag)), .string (str (xk2.key)), .slice (tak5) (xk2.as.length) (xk2.as.length), .string (str (xk2.text)), .slice (kak5) (xk2.kids.length) (xk2.kids.length)]) rfl rfl (by simp [Value.oneCell']) (by simp) ?_; clear F M a; intro w a M F
 change Mem w0 Gk5 (.blk b6 [.int .u8 (xk2.kind), .string (str (xk2.tag)), .string (str (xk2.key)), .slice (tak5) (xk2.as.length) (xk2.as.length), .string (str (xk2.text)), .slice (kak5) (xk2.kids.length) (xk2.kids.length)] 30 :: .blk b3 [.int .u8 (xk2.kind), .string (str (xk2.tag)), .string (str (xk2.key)), .slice (tak2) (xk2.as.length) (tck2), .string (str (xk2.text)), .slice (kak2) (xk2.kids.length) (kck2)] 30 :: .blk b1 [.int .u8 (((pt : Nat) : Int)), .int .u8 (((psl : Nat) : Int)), .slice (ca) (cs.length) (cc)] 24 :: L) _ at M
 iterate 2 (refine rl_run F (run_assign (F.ev rfl)) rfl ?_; clear F a; intro a F)
 refine rl_nil <| q_tn ?_
 iterate 2 (refine wp_seq ?_)
 refine w_reg <| rl_run F (run_move (F.ev rfl)) rfl ?_; clear F a; intro a F
 refine rl_run F (run_nei (F.ev rfl) (F.ev rfl)) rfl ?_; clear F a; intro a F
 refine rl_run F (run_move (F.ev rfl)) rfl ?_; clear F a; intro a F
 refine rl_guard_t F rfl rfl rfl (not_f (decide_eq_true (by decide))) ?_
 refine rl_run F (run_move (F.ev rfl)) rfl ?_; clear F a; intro a F
 refine rl_guard_t F rfl rfl rfl (not_f (decide_eq_true (by decide))) ?_
 refine rl_run F (run_nei (F.ev rfl) (F.ev rfl)) rfl ?_; clear F a; intro a F
 refine rl_run F (run_pick_f (F.ev rfl) (not_f (decide_eq_true (by decide))) (F.ev rfl)) rfl ?_; clear F a; intro a F
 refine rl_run F (run_move (F.ev rfl)) rfl ?_; clear F a; intro a F
 refine rl_guard_t F rfl rfl rfl (not_f (decide_eq_true (by decide))) ?_
 refine rl_run F (run_loadA tok30 rfl (F.ev rfl) (cs := [.int .u8 (xk2.kind), .string (str (xk2.tag)), .string (str (xk2.key)), .slice (tak5) (xk2.as.length) (xk2.as.length), .string (str (xk2.text)), .slice (kak5) (xk2.kids.length) (xk2.kids.length)]) rfl (M.cellsL (k := 0) rfl rfl)) rfl ?_; clear F a; intro a F
 refine rl_guard_t F rfl rfl rfl (not_f (decide_eq_true (by decide))) ?_
 refine rl_run F (run_loadA tok30 rfl (F.ev rfl) (cs := [.int .u8 (xk2.kind), .string (str (xk2.tag)), .string (str (xk2.key)), .slice (tak2) (xk2.as.length) (tck2), .string (str (xk2.text)), .slice (kak2) (xk2.kids.length) (kck2)]) rfl (M.cellsL (k := 1) rfl rfl)) rfl ?_; clear F a; intro a F
 refine rl_guard_t F rfl rfl rfl (not_f (decide_eq_true (by decide))) ?_
 refine rl_callS F ent41 rfl rfl (nsame_spec (x := xk2) (u := xk2) M hkk5 hlk5 SAk5 (weakN SKk5) hkk2 hlk2 SAk2 SKk2) ?_; clear F M a; rintro _ w a M rfl F
 refine rl_guard_t F rfl rfl rfl (not_f (decide_eq_true (by decide))) ?_
 refine rl_run F (run_not (F.ev rfl)) rfl ?_; clear F a; intro a F
 refine rl_run F (run_pick_f (F.ev rfl) (not_f (decide_eq_true (by decide))) (F.ev rfl)) rfl ?_; clear F a; intro a F
 refine rl_run F (run_move (F.ev rfl)) rfl ?_; clear F a; intro a F
 refine rl_guard_t F rfl rfl rfl (not_f (nsamF_yes hVk2)) ?_
 refine rl_run F (run_loadA tok30 rfl (F.ev rfl) (cs := [.int .u8 (xk2.kind), .string (str (xk2.tag)), .string (str (xk2.key)), .slice (tak5) (xk2.as.length) (xk2.as.length), .string (str (xk2.text)), .slice (kak5) (xk2.kids.length) (xk2.kids.length)]) rfl (M.cellsL (k := 0) rfl rfl)) rfl ?_; clear F a; intro a F
 refine rl_guard_t F rfl rfl rfl (not_f (nsamF_yes hVk2)) ?_
 refine rl_run F (run_loadA tok30 rfl (F.ev rfl) (cs := [.int .u8 (xk2.kind), .string (str (xk2.tag)), .string (str (xk2.key)), .slice (tak2) (xk2.as.length) (tck2), .string (str (xk2.text)), .slice (kak2) (xk2.kids.length) (kck2)]) rfl (M.cellsL (k := 1) rfl rfl)) rfl ?_; clear F a; intro a F
 refine rl_guard_t F rfl rfl rfl (not_f (nsamF_yes hVk2)) ?_
 refine rl_callS F ent18 rfl rfl (rsame_spec (x := xk2) (u := xk2) M hkk5 hlk5 SAk5 (weakN SKk5) hkk2 hlk2 SAk2 SKk2) ?_; clear F M a; rintro _ w a M rfl F
 rw [sameF_yes ⟨hVk2, hVk2, rfl⟩] at F
 refine rl_guard_t F rfl rfl rfl (not_f (nsamF_yes hVk2)) ?_
 refine rl_run F (run_eqi (F.ev rfl) (F.ev rfl)) rfl ?_; clear F a; intro a F
 refine rl_run F (run_pick_f (F.ev rfl) (not_f (nsamF_yes hVk2)) (F.ev rfl)) rfl ?_; clear F a; intro a F
 refine rl_run F (run_move (F.ev rfl)) rfl ?_; clear F a; intro a F
 refine rl_guard_t F rfl rfl rfl (decide_eq_false (by decide)) ?_
 refine rl_run F (run_loadA tok30 rfl (F.ev rfl) (cs := [.int .u8 (xk2.kind), .string (str (xk2.tag)), .string (str (xk2.key)), .slice (tak5) (xk2.as.length) (xk2.as.length), .string (str (xk2.text)), .slice (kak5) (xk2.kids.length) (xk2.kids.length)]) rfl (M.cellsL (k := 0) rfl rfl)) rfl ?_; clear F a; intro a F
 refine rl_guard_t F rfl rfl rfl (decide_eq_false (by decide)) ?_
 refine rl_callS F ent19 rfl rfl (nown_all xk2 _ _ _ _ _ _ M SAk5 SKk5) ?_; clear F M a; rintro _ w a M rfl F
 refine rl_guard_t F rfl rfl rfl (decide_eq_false (by decide)) ?_
 refine rl_run F (run_eqi (F.ev rfl) (F.ev rfl)) rfl ?_; clear F a; intro a F
 refine rl_run F (run_pick_f (F.ev rfl) (decide_eq_false (by decide)) (F.ev rfl)) rfl ?_; clear F a; intro a F
 refine rl_nil <| q_tn <| w_cond_f F rfl (decide_eq_false (by decide)) ?_
 refine wp_skip <| q_tn <| wp_seq <| w_reg <| rl_run F (run_loadA tok30 rfl (F.ev rfl) (cs := [.int .u8 (xk2.kind), .string (str (xk2.tag)), .string (str (xk2.key)), .slice (tak2) (xk2.as.length) (tck2), .string (str (xk2.text)), .slice (kak2) (xk2.kids.length) (kck2)]) rfl (M.cellsL (k := 1) rfl rfl)) rfl ?_; clear F a; intro a F
 refine rl_call F ent42 rfl rfl (strip_at (x := xk2) (y := (strF xk2)) M hkk2 hlk2 SAk2 SKk2 rfl) ?_; clear F M a; rintro _ Gk8 w a hGk8 M ⟨tak8, kak8, rfl, hkk8, hlk8, SAk8, SKk8⟩ F
 replace S := S.mono mono_rdB hGk8
 replace SAk2 := SAk2.mono mono_rdAttr hGk8
 replace SKk2 := SKk2.mono mono_rdN hGk8
 replace SAk5 := SAk5.mono mono_rdAttr hGk8
 replace SKk5 := SKk5.mono mono_rdNE hGk8
 refine rl_alloc F M tok30 rfl rfl ?_; clear F M a; intro b9 w a M F
 refine rl_storeA F M tok30 (k := 0) rfl rfl rfl (us := [.int .u8 ((strF xk2).kind), .string (str ((strF xk2).tag)), .string (str ((strF xk2).key)), .slice (tak8) ((strF xk2).as.length) ((strF xk2).as.length), .string (str ((strF xk2).text)), .slice (kak8) ((strF xk2).kids.length) ((strF xk2).kids.length)]) rfl rfl (by simp [Value.oneCell']) (by simp) ?_; clear F M a; intro w a M F
 change Mem w0 Gk8 (.blk b9 [.int .u8 ((strF xk2).kind), .string (str ((strF xk2).tag)), .string (str ((strF xk2).key)), .slice (tak8) ((strF xk2).as.length) ((strF xk2).as.length), .string (str ((strF xk2).text)), .slice (kak8) ((strF xk2).kids.length) ((strF xk2).kids.length)] 30 :: .blk b6 [.int .u8 (xk2.kind), .string (str (xk2.tag)), .string (str (xk2.key)), .slice (tak5) (xk2.as.length) (xk2.as.length), .string (str (xk2.text)), .slice (kak5) (xk2.kids.length) (xk2.kids.length)] 30 :: .blk b3 [.int .u8 (xk2.kind), .string (str (xk2.tag)), .string (str (xk2.key)), .slice (tak2) (xk2.as.length) (tck2), .string (str (xk2.text)), .slice (kak2) (xk2.kids.length) (kck2)] 30 :: .blk b1 [.int .u8 (((pt : Nat) : Int)), .int .u8 (((psl : Nat) : Int)), .slice (ca) (cs.length) (cc)] 24 :: L) _ at M
 refine rl_nil <| q_tn <| wp_seq <| w_reg <| rl_run F (run_loadA tok30 rfl (F.ev rfl) (cs := [.int .u8 ((strF xk2).kind), .string (str ((strF xk2).tag)), .string (str ((strF xk2).key)), .slice (tak8) ((strF xk2).as.length) ((strF xk2).as.length), .string (str ((strF xk2).text)), .slice (kak8) ((strF xk2).kids.length) ((strF xk2).kids.length)]) rfl (M.cellsL (k := 0) rfl rfl)) rfl ?_; clear F a; intro a F
 refine rl_callS F ent38 rfl rfl (ntextF_at (x := (strF xk2)) (y := textN (strF xk2)) (e := 0) M hkk8 hlk8 SAk8 (weakN SKk8) (text_valid (strF_valid hVk2))) ?_; clear F M a; rintro _ w a M rfl F
 refine rl_run F (run_move (F.ev rfl)) rfl ?_; clear F a; intro a F
 refine rl_run F (run_extract (v := .string (str (textN (strF xk2)))) (F.ev rfl) rfl) rfl ?_; clear F a; intro a F
 refine rl_run F (run_extract (v := .int .i64 (0)) (F.ev rfl) rfl) rfl ?_; clear F a; intro a F
 iterate 2 (refine rl_run F (run_assign (F.ev rfl)) rfl ?_; clear F a; intro a F)
 refine rl_nil <| q_tn <| wp_seq <| w_plan3 [(.free, 0), (.free, 1), (.free, 2), (.free, 3), (.pure, 4), (.keep, 5), (.keep, 6), (.free, 7), (.free, 8), (.free, 9), (.pure, 10), (.pure, 11), (.keep, 12), (.keep, 13), (.free, 14), (.free, 15), (.free, 16), (.keep, 17), (.free, 18), (.free, 19)] [] (Keep Gk8 [.blk b9 [.int .u8 ((strF xk2).kind), .string (str ((strF xk2).tag)), .string (str ((strF xk2).key)), .slice (tak8) ((strF xk2).as.length) ((strF xk2).as.length), .string (str ((strF xk2).text)), .slice (kak8) ((strF xk2).kids.length) ((strF xk2).kids.length)] 30, .blk b6 [.int .u8 (xk2.kind), .string (str (xk2.tag)), .string (str (xk2.key)), .slice (tak5) (xk2.as.length) (xk2.as.length), .string (str (xk2.text)), .slice (kak5) (xk2.kids.length) (xk2.kids.length)] 30, .blk b3 [.int .u8 (xk2.kind), .string (str (xk2.tag)), .string (str (xk2.key)), .slice (tak2) (xk2.as.length) (tck2), .string (str (xk2.text)), .slice (kak2) (xk2.kids.length) (kck2)] 30, .blk b1 [.int .u8 (((pt : Nat) : Int)), .int .u8 (((psl : Nat) : Int)), .slice (ca) (cs.length) (cc)] 24]) rfl (by kernel_rfl) (fun c a d v w h => by cases d <;> exact h) ((M.drew _).keep (Gle.refl _) (by simp)) ?_
 replace M := M.drew (w.drawn + 1)
 refine pk_free F (fun w _ => run_move (F.ev rfl)) rfl ?_; clear F a; intro a F
 refine pk_free F (fun w _ => run_eqi (F.ev rfl) (F.ev rfl)) rfl ?_; clear F a; intro a F
 refine pk_free F (fun w _ => run_move (F.ev rfl)) rfl ?_; clear F a; intro a F
 refine pk_free_g F rfl rfl (decide_eq_true (by decide)) (fun w _ => run_move (F.ev rfl)) rfl ?_; clear F a; intro a F
 refine pk_pure_g F rfl rfl (decide_eq_true (by decide)) (fun w M => run_loadA tok30 rfl (F.ev rfl) (cs := [.int .u8 (xk2.kind), .string (str (xk2.tag)), .string (str (xk2.key)), .slice (tak2) (xk2.as.length) (tck2), .string (str (xk2.text)), .slice (kak2) (xk2.kids.length) (kck2)]) rfl (M.cellsL (k := 2) rfl rfl)) rfl ?_; clear F a; intro a F
 refine pk_keep_g F rfl rfl (decide_eq_true (by decide)) ?_
 refine rl_guard_t F rfl rfl rfl (decide_eq_true (by decide)) ?_
 refine rl_call F ent43 rfl rfl (rstrip_all xk2 _ _ _ _ _ _ _ _ M hkk2 hlk2 SAk2 SKk2) ?_; clear F M a; rintro _ Gk11 w a hGk11 M ⟨tak11, tck11, kak11, kck11, rfl, hkk11, hlk11, SAk11, SKk11⟩ F
 replace S := S.mono mono_rdB hGk11
 replace SAk2 := SAk2.mono mono_rdAttr hGk11
 replace SKk2 := SKk2.mono mono_rdN hGk11
 replace SAk5 := SAk5.mono mono_rdAttr hGk11
 replace SKk5 := SKk5.mono mono_rdNE hGk11
 replace SAk8 := SAk8.mono mono_rdAttr hGk11
 replace SKk8 := SKk8.mono mono_rdNE hGk11
 refine rl_nil <| ⟨Keep Gk11 [.blk b9 [.int .u8 ((strF xk2).kind), .string (str ((strF xk2).tag)), .string (str ((strF xk2).key)), .slice (tak8) ((strF xk2).as.length) ((strF xk2).as.length), .string (str ((strF xk2).text)), .slice (kak8) ((strF xk2).kids.length) ((strF xk2).kids.length)] 30, .blk b6 [.int .u8 (xk2.kind), .string (str (xk2.tag)), .string (str (xk2.key)), .slice (tak5) (xk2.as.length) (xk2.as.length), .string (str (xk2.text)), .slice (kak5) (xk2.kids.length) (xk2.kids.length)] 30, .blk b3 [.int .u8 (xk2.kind), .string (str (xk2.tag)), .string (str (xk2.key)), .slice (tak2) (xk2.as.length) (tck2), .string (str (xk2.text)), .slice (kak2) (xk2.kids.length) (kck2)] 30, .blk b1 [.int .u8 (((pt : Nat) : Int)), .int .u8 (((psl : Nat) : Int)), .slice (ca) (cs.length) (cc)] 24], M.keep (Gle.refl _) (by simp), fun w h => h.mono hGk11 (by simp), ?_⟩
 refine pk_keep_g F rfl rfl (decide_eq_true (by decide)) ?_
 refine rl_guard_t F rfl rfl rfl (decide_eq_true (by decide)) ?_
 refine rl_callS F ent39 rfl rfl (rtext_all (strF xk2) 6 _ _ _ _ _ _ _ _ (ok_lim (strF_valid hVk2).1) M hkk11 hlk11 SAk11 SKk11 (by first | exact valid_len (by assumption) | exact valid_len (strF_valid (by assumption)))) ?_; clear F M a; rintro _ w a M rfl F
 refine rl_nil <| ⟨Keep Gk11 [.blk b9 [.int .u8 ((strF xk2).kind), .string (str ((strF xk2).tag)), .string (str ((strF xk2).key)), .slice (tak8) ((strF xk2).as.length) ((strF xk2).as.length), .string (str ((strF xk2).text)), .slice (kak8) ((strF xk2).kids.length) ((strF xk2).kids.length)] 30, .blk b6 [.int .u8 (xk2.kind), .string (str (xk2.tag)), .string (str (xk2.key)), .slice (tak5) (xk2.as.length) (xk2.as.length), .string (str (xk2.text)), .slice (kak5) (xk2.kids.length) (xk2.kids.length)] 30, .blk b3 [.int .u8 (xk2.kind), .string (str (xk2.tag)), .string (str (xk2.key)), .slice (tak2) (xk2.as.length) (tck2), .string (str (xk2.text)), .slice (kak2) (xk2.kids.length) (kck2)] 30, .blk b1 [.int .u8 (((pt : Nat) : Int)), .int .u8 (((psl : Nat) : Int)), .slice (ca) (cs.length) (cc)] 24], M.keep (Gle.refl _) (by simp), fun w h => h.mono (Gle.refl _) (by simp), ?_⟩
 refine pk_free_g F rfl rfl (decide_eq_true (by decide)) (fun w _ => run_strEq (F.ev rfl) (F.ev rfl)) rfl ?_; clear F a; intro a F
 refine pk_free F (fun w _ => run_pick_t (F.ev rfl) (decide_eq_true (by decide)) (F.ev rfl)) rfl ?_; clear F a; intro a F
 refine pk_free F (fun w _ => run_move (F.ev rfl)) rfl ?_; clear F a; intro a F
 iterate 2 (refine pk_pure_g F rfl rfl (decide_eq_true rfl) (fun w M => run_loadA tok30 rfl (F.ev rfl) (cs := [.int .u8 ((strF xk2).kind), .string (str ((strF xk2).tag)), .string (str ((strF xk2).key)), .slice (tak8) ((strF xk2).as.length) ((strF xk2).as.length), .string (str ((strF xk2).text)), .slice (kak8) ((strF xk2).kids.length) ((strF xk2).kids.length)]) rfl (M.cellsL (k := 0) rfl rfl)) rfl ?_; clear F a; intro a F)
 refine pk_keep_g F rfl rfl (decide_eq_true rfl) ?_
 refine rl_guard_t F rfl rfl rfl (decide_eq_true rfl) ?_
 refine rl_call F ent42 rfl rfl (strip_at (x := (strF xk2)) (y := (strF xk2)) M hkk8 hlk8 SAk8 (weakN SKk8) (strF_twice hVk2)) ?_; clear F M a; rintro _ Gk12 w a hGk12 M ⟨tak12, kak12, rfl, hkk12, hlk12, SAk12, SKk12⟩ F
 replace S := S.mono mono_rdB hGk12
 replace SAk2 := SAk2.mono mono_rdAttr hGk12
 replace SKk2 := SKk2.mono mono_rdN hGk12
 replace SAk5 := SAk5.mono mono_rdAttr hGk12
 replace SKk5 := SKk5.mono mono_rdNE hGk12
 replace SAk8 := SAk8.mono mono_rdAttr hGk12
 replace SKk8 := SKk8.mono mono_rdNE hGk12
 replace SAk11 := SAk11.mono mono_rdAttr hGk12
 replace SKk11 := SKk11.mono mono_rdN hGk12
 refine rl_nil <| ⟨Keep Gk12 [.blk b9 [.int .u8 ((strF xk2).kind), .string (str ((strF xk2).tag)), .string (str ((strF xk2).key)), .slice (tak8) ((strF xk2).as.length) ((strF xk2).as.length), .string (str ((strF xk2).text)), .slice (kak8) ((strF xk2).kids.length) ((strF xk2).kids.length)] 30, .blk b6 [.int .u8 (xk2.kind), .string (str (xk2.tag)), .string (str (xk2.key)), .slice (tak5) (xk2.as.length) (xk2.as.length), .string (str (xk2.text)), .slice (kak5) (xk2.kids.length) (xk2.kids.length)] 30, .blk b3 [.int .u8 (xk2.kind), .string (str (xk2.tag)), .string (str (xk2.key)), .slice (tak2) (xk2.as.length) (tck2), .string (str (xk2.text)), .slice (kak2) (xk2.kids.length) (kck2)] 30, .blk b1 [.int .u8 (((pt : Nat) : Int)), .int .u8 (((psl : Nat) : Int)), .slice (ca) (cs.length) (cc)] 24], M.keep (Gle.refl _) (by simp), fun w h => h.mono hGk12 (by simp), ?_⟩
 refine pk_keep_g F rfl rfl (decide_eq_true rfl) ?_
 refine rl_guard_t F rfl rfl rfl (decide_eq_true rfl) ?_
 refine rl_callS F ent18 rfl rfl (rsame_spec (x := (strF xk2)) (u := (strF xk2)) M hkk8 hlk8 SAk8 (weakN SKk8) hkk12 hlk12 SAk12 (weakN SKk12)) ?_; clear F M a; rintro _ w a M rfl F
 refine rl_nil <| ⟨Keep Gk12 [.blk b9 [.int .u8 ((strF xk2).kind), .string (str ((strF xk2).tag)), .string (str ((strF xk2).key)), .slice (tak8) ((strF xk2).as.length) ((strF xk2).as.length), .string (str ((strF xk2).text)), .slice (kak8) ((strF xk2).kids.length) ((strF xk2).kids.length)] 30, .blk b6 [.int .u8 (xk2.kind), .string (str (xk2.tag)), .string (str (xk2.key)), .slice (tak5) (xk2.as.length) (xk2.as.length), .string (str (xk2.text)), .slice (kak5) (xk2.kids.length) (xk2.kids.length)] 30, .blk b3 [.int .u8 (xk2.kind), .string (str (xk2.tag)), .string (str (xk2.key)), .slice (tak2) (xk2.as.length) (tck2), .string (str (xk2.text)), .slice (kak2) (xk2.kids.length) (kck2)] 30, .blk b1 [.int .u8 (((pt : Nat) : Int)), .int .u8 (((psl : Nat) : Int)), .slice (ca) (cs.length) (cc)] 24], M.keep (Gle.refl _) (by simp), fun w h => h.mono (Gle.refl _) (by simp), ?_⟩
 rw [sameF_yes ⟨(strF_valid hVk2), (strF_valid hVk2), rfl⟩] at F
 refine pk_free_g F rfl rfl (decide_eq_true rfl) (fun w _ => run_eqi (F.ev rfl) (F.ev rfl)) rfl ?_; clear F a; intro a F
 refine pk_free F (fun w _ => run_pick_t (F.ev rfl) (decide_eq_true rfl) (F.ev rfl)) rfl ?_; clear F a; intro a F
 refine pk_free F (fun w _ => run_move (F.ev rfl)) rfl ?_; clear F a; intro a F
 refine pk_keep_g F rfl rfl (decide_eq_true (by decide)) ?_
 refine rl_guard_t F rfl rfl rfl (decide_eq_true (by decide)) ?_
 refine rl_callS F ent13 rfl rfl (nlives_spec M) ?_; clear F M a; rintro _ w a M rfl F
 refine rl_nil <| ⟨Keep Gk12 [.blk b9 [.int .u8 ((strF xk2).kind), .string (str ((strF xk2).tag)), .string (str ((strF xk2).key)), .slice (tak8) ((strF xk2).as.length) ((strF xk2).as.length), .string (str ((strF xk2).text)), .slice (kak8) ((strF xk2).kids.length) ((strF xk2).kids.length)] 30, .blk b6 [.int .u8 (xk2.kind), .string (str (xk2.tag)), .string (str (xk2.key)), .slice (tak5) (xk2.as.length) (xk2.as.length), .string (str (xk2.text)), .slice (kak5) (xk2.kids.length) (xk2.kids.length)] 30, .blk b3 [.int .u8 (xk2.kind), .string (str (xk2.tag)), .string (str (xk2.key)), .slice (tak2) (xk2.as.length) (tck2), .string (str (xk2.text)), .slice (kak2) (xk2.kids.length) (kck2)] 30, .blk b1 [.int .u8 (((pt : Nat) : Int)), .int .u8 (((psl : Nat) : Int)), .slice (ca) (cs.length) (cc)] 24], M.keep (Gle.refl _) (by simp), fun w h => h.mono (Gle.refl _) (by simp), ?_⟩
 refine pk_free F (fun w _ => run_pick_t (F.ev rfl) (decide_eq_true (by decide)) (F.ev rfl)) rfl ?_; clear F a; intro a F
 refine pk_free F (fun w _ => run_assign (F.ev rfl)) rfl ?_; clear F a; intro a F
 refine pk_nil <| q_tn <| wp_ret <| fin1 F rfl rfl ?_
 exact ⟨_, ((((hGk2.trans hGk5).trans hGk8).trans hGk11).trans hGk12), M.weaken (.cons _ (.cons _ (.cons _ (.cons _ (List.Sublist.refl _))))), by rfl⟩
theorem nodesText_law {w0 w : World} {G : Ghost} {L : List Res} (M : Mem w0 G L w) {ca : Option Addr} {cc : Nat} {cs : List UInt8} (S : RdSl rdB 1 G (.slice ca cs.length cc) cs) {n0 n1 : Int} (k0 : inKind .u8 n0) (k1 : inKind .u8 n1) : Calls Tryz.prog 9 #[.agg #[.int .u8 n0, .int .u8 n1, .slice ca cs.length cc]] w (RetS w0 G L fun v => v = .bool true) := by
 obtain ⟨pt, rfl, hpt⟩ := u8_natN k0
 obtain ⟨psl, rfl, hps⟩ := u8_natN k1
 exact Ret.plain M (nodesText_ret M S hpt hps)
end Go.Proofs.YtlnehkjmmegkhaaGreat
