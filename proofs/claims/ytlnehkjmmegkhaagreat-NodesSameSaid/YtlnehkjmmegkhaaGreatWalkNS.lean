/- The walks, part NS. -/
import Derived.Test.YtlnehkjmmegkhaaGreatWalkNR
namespace Go.Proofs.YtlnehkjmmegkhaaGreat
open Go Go.Y Go.Proofs
set_option linter.unusedSimpArgs false
set_option linter.unusedVariables false
theorem set_last {α : Type} {l : List α} {z x : α} {n : Nat} (h : n = l.length) : (l ++ [z]).set n x = l ++ [x] := by
 subst h; rw [List.set_append_right _ _ (Nat.le_refl _), Nat.sub_self]; rfl
theorem rchild_step {d : Nat} (ih : NodeQ d) {w0 w : World} {G : Ghost} {L : List Res} {rb i nd lv nb : Nat} {s tag key : List UInt8} {va : Value} (hlv : lv + 1 + d = 7) (hi : i ≤ s.length) (hs : s.length ≤ 2000000) (hnd : nd ≤ 64) (htag : tag.length ≤ 16) (hz : ∀ b ∈ tag, Go.Y.nb b ≠ 0) (M : Mem w0 G (RB rb s i nd :: .blk nb [.int .u8 1, .string (str tag), .string (str key), va, .string (str []), .slice none 0 0] 30 :: L) w) :
  Calls Tryz.prog 104 #[.pointer (some ⟨rb, 0, none⟩), .pointer (some ⟨nb, 0, none⟩), .int .i64 (lv : Int)] w (RetRx w0 G L rb s (fun G' _ i' nd' L' => ∃ a c ks, L' = .blk nb [.int .u8 1, .string (str tag), .string (str key), va, .string (str []), .slice a ks.length c] 30 :: L ∧ chF s d tag i nd = .ok (ks, i', nd') ∧ RdSl rdN 6 G' (.slice a ks.length c) ks ∧ i ≤ i' ∧ i' ≤ s.length ∧ nd' ≤ 64) (fun e => chF s d tag i nd = .error e)) := by
 change Mem w0 G (.blk rb [.string (str (s)), .int .i64 (((i : Nat) : Int)), .int .i64 (((nd : Nat) : Int))] 122 :: .blk nb [.int .u8 (1), .string (str (tag)), .string (str (key)), va, .string (str ([] : List UInt8)), .slice none (0) (0)] 30 :: L) _ at M
 refine calls_start (vs := [_, _, _]) Tryz.func104 rfl (n := 47) rfl rfl ?_
 intro a F
 refine wp_seq <| wp_block ?_
 have M := M.nilrow 30 6
 refine w_loopN (fun m a' w' => ∃ (f : Nat), ∃ (j : Nat), ∃ (ndj : Nat), ∃ (acc : List NT), ∃ (ay : Option Addr), ∃ (ny : Nat), ∃ (cy : Nat), ∃ (csy : List Value), m = s.length + 1 - j ∧ ∃ G1, Gle G G1 ∧ Fits 47 a' [(0, .pointer (some ⟨rb, 0, none⟩)), (1, .pointer (some ⟨nb, 0, none⟩)), (2, .int .i64 (((lv : Nat) : Int)))] ∧ Mem w0 G1 (.row (.slice (ay) (ny) (cy)) (ny) (csy) 30 6 :: .blk rb [.string (str (s)), .int .i64 (((j : Nat) : Int)), .int .i64 (((ndj : Nat) : Int))] 122 :: .blk nb [.int .u8 (1), .string (str (tag)), .string (str (key)), va, .string (str ([] : List UInt8)), .slice (ay) (ny) (cy)] 30 :: L) w' ∧ (chF s d tag i nd = childF (nodeF s d) s tag f j ndj acc) ∧ (s.length + 1 ≤ f + j) ∧ (i ≤ j ∧ j ≤ s.length) ∧ (ndj ≤ 64) ∧ (acc.length ≤ j) ∧ (ny = acc.length) ∧ (Els rdN 6 G1 csy acc)) _ ⟨(s.length + 1), i, nd, [], (none), (0), (0), ([]), rfl, G, Gle.refl _, F.to ⟨rfl, rfl, rfl, trivial⟩, M, rfl, by omega, ⟨Nat.le_refl _, hi⟩, hnd, Nat.zero_le _, rfl, Els.nil⟩ ?_
 clear F M
 rintro m a w ⟨f, j, ndj, acc, ay, ny, cy, csy, rfl, G1, hG1, F, M, hX, hf, hj, hdj, hacc, hny, Ey⟩
 iterate 2 (refine wp_seq ?_)
 obtain ⟨f', rfl⟩ : ∃ f', f = f' + 1 := ⟨f - 1, by omega⟩
 refine w_plan2 [(.free, 0), (.free, 1), (.free, 2), (.pure, 3), (.pure, 4), (.free, 5), (.free, 6), (.free, 7), (.free, 8), (.free, 9), (.pure, 10), (.free, 11), (.free, 12), (.free, 13), (.pure, 14), (.free, 15), (.keep, 16), (.free, 17), (.free, 18)] [] (Keep G1 [.row (.slice (ay) (ny) (cy)) (ny) (csy) 30 6, .blk rb [.string (str (s)), .int .i64 (((j : Nat) : Int)), .int .i64 (((ndj : Nat) : Int))] 122, .blk nb [.int .u8 (1), .string (str (tag)), .string (str (key)), va, .string (str ([] : List UInt8)), .slice (ay) (ny) (cy)] 30]) rfl (by kernel_rfl) (fun c a d v w h => by cases d <;> exact h) ((M.drew _).keep (Gle.refl _) (by simp)) ?_
 replace M := M.drew (w.drawn + 1)
 refine pk_free F (fun w _ => run_move (F.ev rfl)) rfl ?_; clear F a; intro a F
 refine pk_free F (fun w _ => run_nilCheck (F.ev rfl)) rfl ?_; clear F a; intro a F
 refine pk_free F (fun w _ => run_fieldAddr tok30.k rfl rfl (F.ev rfl)) rfl ?_; clear F a; intro a F
 refine pk_pure F (fun w M => run_load1 (agf tok28 rfl) (F.ev rfl) (M.cellL (k := 2) rfl rfl)) rfl ?_; clear F a; intro a F
 refine pk_pure F (fun w M => run_lenSl tok28.k (F.ev rfl)) rfl ?_; clear F a; intro a F
 refine pk_free F (fun w _ => run_eqi (F.ev rfl) (F.ev rfl)) rfl ?_; clear F a; intro a F
 refine pk_free F (fun w _ => run_move (F.ev rfl)) rfl ?_; clear F a; intro a F
 rcases Bool.eq_false_or_eq_true (decide (((ny : Nat) : Int) = 0)) with hc | hc
 ·skip
  have h2b := hc; clear hc
  have h2 : ((ny : Nat) : Int) = 0 := of_decide_eq_true h2b
  iterate 11 (refine pk_skip F rfl rfl h2b rfl ?_; clear F a; intro a F)
  refine pk_free F (fun w _ => run_pick_t (F.ev rfl) h2b (F.ev rfl)) rfl ?_; clear F a; intro a F
  refine pk_nil ?_
  generalize ({ w with drawn := w.drawn + 1 } : World) = w at M ⊢
  refine q_tn <| w_cond_t F rfl rfl ?_
  refine wp_skip <| q_tn <| wp_block <| w_tree (.run 0 (.run 1 (.run 2 (.run 4 (.run 5 (.run 6 (.act 3 (.run 8 (.act 7 (.act 9 (.act 10 (.run 11 (.run 13 (.run 14 (.act 12 (.act 15 .fin .no) (.act 15 (.act 12 .fin .no) .no))))) .no) .no) (.act 9 (.act 7 (.act 10 (.run 11 (.run 13 (.run 14 (.act 12 (.act 15 .fin .no) (.act 15 (.act 12 .fin .no) .no))))) .no) .no) .no))) (.act 7 (.act 3 (.run 8 (.act 9 (.act 10 (.run 11 (.run 13 (.run 14 (.act 12 (.act 15 .fin .no) (.act 15 (.act 12 .fin .no) .no))))) .no) .no)) (.act 9 (.act 3 (.run 8 (.act 10 (.run 11 (.run 13 (.run 14 (.act 12 (.act 15 .fin .no) (.act 15 (.act 12 .fin .no) .no))))) .no)) .no) .no)) (.act 9 (.act 3 (.run 8 (.act 7 (.act 10 (.run 11 (.run 13 (.run 14 (.act 12 (.act 15 .fin .no) (.act 15 (.act 12 .fin .no) .no))))) .no) .no)) (.act 7 (.act 3 (.run 8 (.act 10 (.run 11 (.run 13 (.run 14 (.act 12 (.act 15 .fin .no) (.act 15 (.act 12 .fin .no) .no))))) .no)) .no) .no)) .no))))))))) (Keep G1 []) rfl (by kernel_rfl) (fun c a d v w h => by cases d <;> exact h) ((M.drew _).keep (Gle.refl _) (by simp)) ?_
  replace M := M.drew (w.drawn + 1)
  refine pt_run F (fun w M => run_move (F.ev rfl)) rfl ?_; clear F a; intro a F
  refine pt_run F (fun w M => run_nilCheck (F.ev rfl)) rfl ?_; clear F a; intro a F
  refine pt_run F (fun w M => run_fieldAddr tok30.k rfl rfl (F.ev rfl)) rfl ?_; clear F a; intro a F
  iterate 2 (refine pt_run F (fun w M => run_move (F.ev rfl)) rfl ?_; clear F a; intro a F)
  refine pt_run F (fun w M => run_addi (F.ev rfl) (F.ev rfl) (in_i64 (by omega) (by omega))) rfl ?_; clear F a; intro a F
  refine pt_act ?_ rfl ?_
  ·skip
   refine rl_run F (run_load1 (agf tok28 rfl) (F.ev rfl) (M.cellL (k := 2) rfl rfl)) rfl ?_; clear F a; intro a F
   refine rl_nil ?_
   change Mem w0 G1 (.row (.slice (ay) (ny) (cy)) (ny) (csy) 30 6 :: .blk rb [.string (str (s)), .int .i64 (((j : Nat) : Int)), .int .i64 (((ndj : Nat) : Int))] 122 :: .blk nb [.int .u8 (1), .string (str (tag)), .string (str (key)), va, .string (str ([] : List UInt8)), .slice (ay) (ny) (cy)] 30 :: L) _ at M
   refine ⟨Keep G1 [], M.keep (Gle.refl _) (by simp), fun w h => h.mono (Gle.refl _) (by simp), ?_⟩
   refine pt_run F (fun w M => run_lenSl tok28.k (F.ev rfl)) rfl ?_; clear F a; intro a F
   refine pt_act ?_ rfl ?_
   ·skip
    replace M := M.perm (perm_front _ 1 _ rfl)
    change Mem w0 G1 (_ :: _ :: _ :: L) _ at M
    change Mem w0 G1 (_ :: _ :: _ :: L) _ at M
    refine rl_callRd (G := G1) (L := .row (.slice (ay) (ny) (cy)) (ny) (csy) 30 6 :: .blk nb [.int .u8 (1), .string (str (tag)), .string (str (key)), va, .string (str ([] : List UInt8)), .slice (ay) (ny) (cy)] 30 :: L) (rb := rb) (s := s) F ent81 (run_callF F ent81 rfl rfl) rfl (ih _ _ _ _ _ (j) (ndj) (lv + 1) _ (by omega) (by omega) hs (by omega) M) (fun e_ w_ G_ i_ nd_ hg_ M_ h_ => finRx (P := Tryz.prog) (fn := Tryz.f104) F (hG1.trans hg_) (M_.weaken (.cons_cons _ (.cons _ (.cons _ (List.Sublist.refl _))))) (child_no hX (by first | exact Or.inl (by omega) | exact Or.inr (fun h9 => absurd ((pre2 (by omega)).2 h9) (by assumption))) h_)) ?_; clear F M a; rintro v_ Gk3 ik3 ndk3 w a hGk3 M ⟨xk3, tak3, tck3, kak3, kck3, hNk3, rfl, hkk3, hlk3, SAk3, SKk3, hik3, hjk3, hdk3⟩ F
    replace Ey := Ey.mono mono_rdN hGk3
    change Mem w0 Gk3 (.blk rb [.string (str (s)), .int .i64 (((ik3 : Nat) : Int)), .int .i64 (((ndk3 : Nat) : Int))] 122 :: _ :: _ :: L) _ at M
    refine rl_nil ?_
    change Mem w0 Gk3 (.blk rb [.string (str (s)), .int .i64 (((ik3 : Nat) : Int)), .int .i64 (((ndk3 : Nat) : Int))] 122 :: .row (.slice (ay) (ny) (cy)) (ny) (csy) 30 6 :: .blk nb [.int .u8 (1), .string (str (tag)), .string (str (key)), va, .string (str ([] : List UInt8)), .slice (ay) (ny) (cy)] 30 :: L) _ at M
    refine ⟨Keep Gk3 [], M.keep (Gle.refl _) (by simp), fun w h => h.mono hGk3 (by simp), ?_⟩
    refine pt_act ?_ rfl pt_no
    refine rl_buildSlice1 F M tok28.k tok30 rfl rfl (cs := [.int .u8 (0), .string (str ([] : List UInt8)), .string (str ([] : List UInt8)), .slice none (0) (0), .string (str ([] : List UInt8)), .slice none (0) (0)]) rfl rfl (by simp [Value.oneCell']) (by decide) rfl ?_; clear F M a; intro v4 w a M F
    obtain ⟨av4, cv4, rfl, hlev4, hcmv4, hlv4⟩ := M.row_shape (k := 0) rfl
    refine rl_nil ?_
    change Mem w0 Gk3 (.row (.slice (av4) (1) (cv4)) (1) ([.int .u8 (0), .string (str ([] : List UInt8)), .string (str ([] : List UInt8)), .slice none (0) (0), .string (str ([] : List UInt8)), .slice none (0) (0)]) 30 6 :: .blk rb [.string (str (s)), .int .i64 (((ik3 : Nat) : Int)), .int .i64 (((ndk3 : Nat) : Int))] 122 :: .row (.slice (ay) (ny) (cy)) (ny) (csy) 30 6 :: .blk nb [.int .u8 (1), .string (str (tag)), .string (str (key)), va, .string (str ([] : List UInt8)), .slice (ay) (ny) (cy)] 30 :: L) _ at M
    refine ⟨Keep Gk3 [], M.keep (Gle.refl _) (by simp), fun w h => h.mono (Gle.refl _) (by simp), ?_⟩
    have E5 : Els rdN 6 Gk3 [.int .u8 (0), .string (str ([] : List UInt8)), .string (str ([] : List UInt8)), .slice none (0) (0), .string (str ([] : List UInt8)), .slice none (0) (0)] [zeroN] := Els.one (rdT_close (x := zeroN) ⟨by decide, by decide⟩ ⟨by decide, by decide, by decide⟩ RdSl.nil RdSl.nil) rfl
    refine pt_act ?_ rfl pt_no
    refine rl_append_row F M (k := 2) (k2 := 0) rfl rfl tok28.k tok30 rfl rfl (by decide) rfl rfl (by show _ * 104 ≤ _; (try simp only [List.length_drop, List.length_take, List.length_append, List.length_cons, List.length_nil]); omega) (by (try simp only [List.length_drop, List.length_take, List.length_append, List.length_cons, List.length_nil]); omega) rfl ?_; clear F M a; intro v6 w a M F
    have Ev6 := Els.append Ey E5
    obtain ⟨av6, cv6, rfl, hlev6, hcmv6, hlv6⟩ := M.row_shape (k := 2) rfl
    refine rl_nil ?_
    change Mem w0 Gk3 (.row (.slice (av4) (1) (cv4)) (1) ([.int .u8 (0), .string (str ([] : List UInt8)), .string (str ([] : List UInt8)), .slice none (0) (0), .string (str ([] : List UInt8)), .slice none (0) (0)]) 30 6 :: .blk rb [.string (str (s)), .int .i64 (((ik3 : Nat) : Int)), .int .i64 (((ndk3 : Nat) : Int))] 122 :: .row (.slice (av6) (ny + 1) (cv6)) (ny + 1) (csy ++ ([.int .u8 (0), .string (str ([] : List UInt8)), .string (str ([] : List UInt8)), .slice none (0) (0), .string (str ([] : List UInt8)), .slice none (0) (0)])) 30 6 :: .blk nb [.int .u8 (1), .string (str (tag)), .string (str (key)), va, .string (str ([] : List UInt8)), .slice (ay) (ny) (cy)] 30 :: L) _ at M
    refine ⟨Keep Gk3 [], M.keep (Gle.refl _) (by simp), fun w h => h.mono (Gle.refl _) (by simp), ?_⟩
    obtain ⟨Xe7, hXe7⟩ := get_of_lt (xs := acc ++ ([zeroN])) (i := ny) (by rw [List.length_append, List.length_singleton]; omega)
    obtain ⟨be7, _, Ie7, hme7, _, Ae7, hTe7⟩ := M.atRow (k := 2) rfl (by decide) Ev6 hXe7
    obtain ⟨tae7, tce7, kae7, kce7, rfl, hke7, hle7, SAe7, SKe7⟩ := rdT_open hTe7
    refine pt_run F (fun w M => run_indexI tok28.k tok30 (F.ev rfl) (F.ev rfl) (by omega) Ie7) rfl ?_; clear F a; intro a F
    refine pt_run F (fun w M => run_nilCheck (F.ev rfl)) rfl ?_; clear F a; intro a F
    refine pt_run F (fun w M => run_fieldAddr tok30.k rfl rfl (F.ev rfl)) rfl ?_; clear F a; intro a F
    refine pt_act ?_ rfl ?_
    ·skip
     refine rl_storeEl F M tok30 (k := 2) rfl rfl Ev6 Ie7 (lt_of_get hXe7) rfl rfl (us := [.int .u8 (xk3.kind), .string (str (xk3.tag)), .string (str (xk3.key)), .slice (tak3) (xk3.as.length) (tck3), .string (str (xk3.text)), .slice (kak3) (xk3.kids.length) (kck3)]) rfl rfl (by simp [Value.oneCell']) (X' := xk3) (rdT_close (x := xk3) hkk3 hlk3 SAk3 SKk3) ?_; clear F M a; intro csu8 w a M Eu8 F
     refine rl_nil ?_
     change Mem w0 Gk3 (.row (.slice (av4) (1) (cv4)) (1) ([.int .u8 (0), .string (str ([] : List UInt8)), .string (str ([] : List UInt8)), .slice none (0) (0), .string (str ([] : List UInt8)), .slice none (0) (0)]) 30 6 :: .blk rb [.string (str (s)), .int .i64 (((ik3 : Nat) : Int)), .int .i64 (((ndk3 : Nat) : Int))] 122 :: .row (.slice (av6) (ny + 1) (cv6)) (ny + 1) (csu8) 30 6 :: .blk nb [.int .u8 (1), .string (str (tag)), .string (str (key)), va, .string (str ([] : List UInt8)), .slice (ay) (ny) (cy)] 30 :: L) _ at M
     refine ⟨Keep Gk3 [], M.keep (Gle.refl _) (by simp), fun w h => h.mono (Gle.refl _) (by simp), ?_⟩
     refine pt_act ?_ rfl pt_no
     refine rl_store1 F M tok28 rfl (k := 3) rfl rfl rfl rfl rfl ?_; clear F M a; intro w a M F
     refine rl_nil ?_
     change Mem w0 Gk3 (.row (.slice (av4) (1) (cv4)) (1) ([.int .u8 (0), .string (str ([] : List UInt8)), .string (str ([] : List UInt8)), .slice none (0) (0), .string (str ([] : List UInt8)), .slice none (0) (0)]) 30 6 :: .blk rb [.string (str (s)), .int .i64 (((ik3 : Nat) : Int)), .int .i64 (((ndk3 : Nat) : Int))] 122 :: .row (.slice (av6) (ny + 1) (cv6)) (ny + 1) (csu8) 30 6 :: .blk nb [.int .u8 (1), .string (str (tag)), .string (str (key)), va, .string (str ([] : List UInt8)), .slice (av6) (ny + 1) (cv6)] 30 :: L) _ at M
     refine ⟨Keep Gk3 [], M.keep (Gle.refl _) (by simp), fun w h => h.mono (Gle.refl _) (by simp), ?_⟩
     refine pt_fin <| q_bn <| q_tn ?_
     replace M := M.perm (perm_front _ 3 _ rfl)
     replace M := M.perm (perm_front _ 2 _ rfl)
     replace M := M.perm (perm_front _ 3 _ rfl)
     change Mem w0 Gk3 (_ :: _ :: .blk nb [.int .u8 (1), .string (str (tag)), .string (str (key)), va, .string (str ([] : List UInt8)), .slice (av6) (ny + 1) (cv6)] 30 :: _ :: L) _ at M
     exact ⟨_, by omega, f', ik3, ndk3, (acc ++ [xk3]), (av6), (ny + 1), (cv6), (csu8), rfl, Gk3, (hG1.trans hGk3), F.to ⟨rfl, rfl, rfl, trivial⟩, (M.weaken (.cons_cons _ (.cons_cons _ (.cons_cons _ (.cons _ (List.Sublist.refl _)))))), child_more hX (by first | exact Or.inl (by omega) | exact Or.inr (fun h9 => absurd ((pre2 (by omega)).2 h9) (by assumption))) hNk3, by omega, by omega, by omega, by rw [List.length_append, List.length_singleton]; omega, by rw [List.length_append, ← hny]; rfl, by have h_ := Eu8; rw [set_last hny] at h_; exact h_⟩
    refine pt_act ?_ rfl ?_
    ·skip
     refine rl_store1 F M tok28 rfl (k := 3) rfl rfl rfl rfl rfl ?_; clear F M a; intro w a M F
     refine rl_nil ?_
     change Mem w0 Gk3 (.row (.slice (av4) (1) (cv4)) (1) ([.int .u8 (0), .string (str ([] : List UInt8)), .string (str ([] : List UInt8)), .slice none (0) (0), .string (str ([] : List UInt8)), .slice none (0) (0)]) 30 6 :: .blk rb [.string (str (s)), .int .i64 (((ik3 : Nat) : Int)), .int .i64 (((ndk3 : Nat) : Int))] 122 :: .row (.slice (av6) (ny + 1) (cv6)) (ny + 1) (csy ++ ([.int .u8 (0), .string (str ([] : List UInt8)), .string (str ([] : List UInt8)), .slice none (0) (0), .string (str ([] : List UInt8)), .slice none (0) (0)])) 30 6 :: .blk nb [.int .u8 (1), .string (str (tag)), .string (str (key)), va, .string (str ([] : List UInt8)), .slice (av6) (ny + 1) (cv6)] 30 :: L) _ at M
     refine ⟨Keep Gk3 [], M.keep (Gle.refl _) (by simp), fun w h => h.mono (Gle.refl _) (by simp), ?_⟩
     refine pt_act ?_ rfl pt_no
     refine rl_storeEl F M tok30 (k := 2) rfl rfl Ev6 Ie7 (lt_of_get hXe7) rfl rfl (us := [.int .u8 (xk3.kind), .string (str (xk3.tag)), .string (str (xk3.key)), .slice (tak3) (xk3.as.length) (tck3), .string (str (xk3.text)), .slice (kak3) (xk3.kids.length) (kck3)]) rfl rfl (by simp [Value.oneCell']) (X' := xk3) (rdT_close (x := xk3) hkk3 hlk3 SAk3 SKk3) ?_; clear F M a; intro csu9 w a M Eu9 F
     refine rl_nil ?_
     change Mem w0 Gk3 (.row (.slice (av4) (1) (cv4)) (1) ([.int .u8 (0), .string (str ([] : List UInt8)), .string (str ([] : List UInt8)), .slice none (0) (0), .string (str ([] : List UInt8)), .slice none (0) (0)]) 30 6 :: .blk rb [.string (str (s)), .int .i64 (((ik3 : Nat) : Int)), .int .i64 (((ndk3 : Nat) : Int))] 122 :: .row (.slice (av6) (ny + 1) (cv6)) (ny + 1) (csu9) 30 6 :: .blk nb [.int .u8 (1), .string (str (tag)), .string (str (key)), va, .string (str ([] : List UInt8)), .slice (av6) (ny + 1) (cv6)] 30 :: L) _ at M
     refine ⟨Keep Gk3 [], M.keep (Gle.refl _) (by simp), fun w h => h.mono (Gle.refl _) (by simp), ?_⟩
     refine pt_fin <| q_bn <| q_tn ?_
     replace M := M.perm (perm_front _ 3 _ rfl)
     replace M := M.perm (perm_front _ 2 _ rfl)
     replace M := M.perm (perm_front _ 3 _ rfl)
     change Mem w0 Gk3 (_ :: _ :: _ :: _ :: L) _ at M
     exact ⟨_, by omega, f', ik3, ndk3, (acc ++ [xk3]), (av6), (ny + 1), (cv6), (csu9), rfl, Gk3, (hG1.trans hGk3), F.to ⟨rfl, rfl, rfl, trivial⟩, (M.weaken (.cons_cons _ (.cons_cons _ (.cons_cons _ (.cons _ (List.Sublist.refl _)))))), child_more hX (by first | exact Or.inl (by omega) | exact Or.inr (fun h9 => absurd ((pre2 (by omega)).2 h9) (by assumption))) hNk3, by omega, by omega, by omega, by rw [List.length_append, List.length_singleton]; omega, by rw [List.length_append, ← hny]; rfl, by have h_ := Eu9; rw [set_last hny] at h_; exact h_⟩
    exact pt_no
   refine pt_act ?_ rfl ?_
   ·skip
    refine rl_buildSlice1 F M tok28.k tok30 rfl rfl (cs := [.int .u8 (0), .string (str ([] : List UInt8)), .string (str ([] : List UInt8)), .slice none (0) (0), .string (str ([] : List UInt8)), .slice none (0) (0)]) rfl rfl (by simp [Value.oneCell']) (by decide) rfl ?_; clear F M a; intro v10 w a M F
    obtain ⟨av10, cv10, rfl, hlev10, hcmv10, hlv10⟩ := M.row_shape (k := 0) rfl
    refine rl_nil ?_
    change Mem w0 G1 (.row (.slice (av10) (1) (cv10)) (1) ([.int .u8 (0), .string (str ([] : List UInt8)), .string (str ([] : List UInt8)), .slice none (0) (0), .string (str ([] : List UInt8)), .slice none (0) (0)]) 30 6 :: .row (.slice (ay) (ny) (cy)) (ny) (csy) 30 6 :: .blk rb [.string (str (s)), .int .i64 (((j : Nat) : Int)), .int .i64 (((ndj : Nat) : Int))] 122 :: .blk nb [.int .u8 (1), .string (str (tag)), .string (str (key)), va, .string (str ([] : List UInt8)), .slice (ay) (ny) (cy)] 30 :: L) _ at M
    refine ⟨Keep G1 [], M.keep (Gle.refl _) (by simp), fun w h => h.mono (Gle.refl _) (by simp), ?_⟩
    refine pt_act ?_ rfl pt_no
    replace M := M.perm (perm_front _ 2 _ rfl)
    change Mem w0 G1 (_ :: _ :: _ :: _ :: L) _ at M
    change Mem w0 G1 (_ :: _ :: _ :: _ :: L) _ at M
    refine rl_callRd (G := G1) (L := .row (.slice (av10) (1) (cv10)) (1) ([.int .u8 (0), .string (str ([] : List UInt8)), .string (str ([] : List UInt8)), .slice none (0) (0), .string (str ([] : List UInt8)), .slice none (0) (0)]) 30 6 :: .row (.slice (ay) (ny) (cy)) (ny) (csy) 30 6 :: .blk nb [.int .u8 (1), .string (str (tag)), .string (str (key)), va, .string (str ([] : List UInt8)), .slice (ay) (ny) (cy)] 30 :: L) (rb := rb) (s := s) F ent81 (run_callF F ent81 rfl rfl) rfl (ih _ _ _ _ _ (j) (ndj) (lv + 1) _ (by omega) (by omega) hs (by omega) M) (fun e_ w_ G_ i_ nd_ hg_ M_ h_ => finRx (P := Tryz.prog) (fn := Tryz.f104) F (hG1.trans hg_) (M_.weaken (.cons_cons _ (.cons _ (.cons _ (.cons _ (List.Sublist.refl _)))))) (child_no hX (by first | exact Or.inl (by omega) | exact Or.inr (fun h9 => absurd ((pre2 (by omega)).2 h9) (by assumption))) h_)) ?_; clear F M a; rintro v_ Gk11 ik11 ndk11 w a hGk11 M ⟨xk11, tak11, tck11, kak11, kck11, hNk11, rfl, hkk11, hlk11, SAk11, SKk11, hik11, hjk11, hdk11⟩ F
    replace Ey := Ey.mono mono_rdN hGk11
    change Mem w0 Gk11 (.blk rb [.string (str (s)), .int .i64 (((ik11 : Nat) : Int)), .int .i64 (((ndk11 : Nat) : Int))] 122 :: _ :: _ :: _ :: L) _ at M
    refine rl_nil ?_
    change Mem w0 Gk11 (.blk rb [.string (str (s)), .int .i64 (((ik11 : Nat) : Int)), .int .i64 (((ndk11 : Nat) : Int))] 122 :: .row (.slice (av10) (1) (cv10)) (1) ([.int .u8 (0), .string (str ([] : List UInt8)), .string (str ([] : List UInt8)), .slice none (0) (0), .string (str ([] : List UInt8)), .slice none (0) (0)]) 30 6 :: .row (.slice (ay) (ny) (cy)) (ny) (csy) 30 6 :: .blk nb [.int .u8 (1), .string (str (tag)), .string (str (key)), va, .string (str ([] : List UInt8)), .slice (ay) (ny) (cy)] 30 :: L) _ at M
    refine ⟨Keep Gk11 [], M.keep (Gle.refl _) (by simp), fun w h => h.mono hGk11 (by simp), ?_⟩
    have E12 : Els rdN 6 Gk11 [.int .u8 (0), .string (str ([] : List UInt8)), .string (str ([] : List UInt8)), .slice none (0) (0), .string (str ([] : List UInt8)), .slice none (0) (0)] [zeroN] := Els.one (rdT_close (x := zeroN) ⟨by decide, by decide⟩ ⟨by decide, by decide, by decide⟩ RdSl.nil RdSl.nil) rfl
    refine pt_act ?_ rfl pt_no
    refine rl_append_row F M (k := 2) (k2 := 1) rfl rfl tok28.k tok30 rfl rfl (by decide) rfl rfl (by show _ * 104 ≤ _; (try simp only [List.length_drop, List.length_take, List.length_append, List.length_cons, List.length_nil]); omega) (by (try simp only [List.length_drop, List.length_take, List.length_append, List.length_cons, List.length_nil]); omega) rfl ?_; clear F M a; intro v13 w a M F
    have Ev13 := Els.append Ey E12
    obtain ⟨av13, cv13, rfl, hlev13, hcmv13, hlv13⟩ := M.row_shape (k := 2) rfl
    refine rl_nil ?_
    change Mem w0 Gk11 (.blk rb [.string (str (s)), .int .i64 (((ik11 : Nat) : Int)), .int .i64 (((ndk11 : Nat) : Int))] 122 :: .row (.slice (av10) (1) (cv10)) (1) ([.int .u8 (0), .string (str ([] : List UInt8)), .string (str ([] : List UInt8)), .slice none (0) (0), .string (str ([] : List UInt8)), .slice none (0) (0)]) 30 6 :: .row (.slice (av13) (ny + 1) (cv13)) (ny + 1) (csy ++ ([.int .u8 (0), .string (str ([] : List UInt8)), .string (str ([] : List UInt8)), .slice none (0) (0), .string (str ([] : List UInt8)), .slice none (0) (0)])) 30 6 :: .blk nb [.int .u8 (1), .string (str (tag)), .string (str (key)), va, .string (str ([] : List UInt8)), .slice (ay) (ny) (cy)] 30 :: L) _ at M
    refine ⟨Keep Gk11 [], M.keep (Gle.refl _) (by simp), fun w h => h.mono (Gle.refl _) (by simp), ?_⟩
    obtain ⟨Xe14, hXe14⟩ := get_of_lt (xs := acc ++ ([zeroN])) (i := ny) (by rw [List.length_append, List.length_singleton]; omega)
    obtain ⟨be14, _, Ie14, hme14, _, Ae14, hTe14⟩ := M.atRow (k := 2) rfl (by decide) Ev13 hXe14
    obtain ⟨tae14, tce14, kae14, kce14, rfl, hke14, hle14, SAe14, SKe14⟩ := rdT_open hTe14
    refine pt_run F (fun w M => run_indexI tok28.k tok30 (F.ev rfl) (F.ev rfl) (by omega) Ie14) rfl ?_; clear F a; intro a F
    refine pt_run F (fun w M => run_nilCheck (F.ev rfl)) rfl ?_; clear F a; intro a F
    refine pt_run F (fun w M => run_fieldAddr tok30.k rfl rfl (F.ev rfl)) rfl ?_; clear F a; intro a F
    refine pt_act ?_ rfl ?_
    ·skip
     refine rl_storeEl F M tok30 (k := 2) rfl rfl Ev13 Ie14 (lt_of_get hXe14) rfl rfl (us := [.int .u8 (xk11.kind), .string (str (xk11.tag)), .string (str (xk11.key)), .slice (tak11) (xk11.as.length) (tck11), .string (str (xk11.text)), .slice (kak11) (xk11.kids.length) (kck11)]) rfl rfl (by simp [Value.oneCell']) (X' := xk11) (rdT_close (x := xk11) hkk11 hlk11 SAk11 SKk11) ?_; clear F M a; intro csu15 w a M Eu15 F
     refine rl_nil ?_
     change Mem w0 Gk11 (.blk rb [.string (str (s)), .int .i64 (((ik11 : Nat) : Int)), .int .i64 (((ndk11 : Nat) : Int))] 122 :: .row (.slice (av10) (1) (cv10)) (1) ([.int .u8 (0), .string (str ([] : List UInt8)), .string (str ([] : List UInt8)), .slice none (0) (0), .string (str ([] : List UInt8)), .slice none (0) (0)]) 30 6 :: .row (.slice (av13) (ny + 1) (cv13)) (ny + 1) (csu15) 30 6 :: .blk nb [.int .u8 (1), .string (str (tag)), .string (str (key)), va, .string (str ([] : List UInt8)), .slice (ay) (ny) (cy)] 30 :: L) _ at M
     refine ⟨Keep Gk11 [], M.keep (Gle.refl _) (by simp), fun w h => h.mono (Gle.refl _) (by simp), ?_⟩
     refine pt_act ?_ rfl pt_no
     refine rl_store1 F M tok28 rfl (k := 3) rfl rfl rfl rfl rfl ?_; clear F M a; intro w a M F
     refine rl_nil ?_
     change Mem w0 Gk11 (.blk rb [.string (str (s)), .int .i64 (((ik11 : Nat) : Int)), .int .i64 (((ndk11 : Nat) : Int))] 122 :: .row (.slice (av10) (1) (cv10)) (1) ([.int .u8 (0), .string (str ([] : List UInt8)), .string (str ([] : List UInt8)), .slice none (0) (0), .string (str ([] : List UInt8)), .slice none (0) (0)]) 30 6 :: .row (.slice (av13) (ny + 1) (cv13)) (ny + 1) (csu15) 30 6 :: .blk nb [.int .u8 (1), .string (str (tag)), .string (str (key)), va, .string (str ([] : List UInt8)), .slice (av13) (ny + 1) (cv13)] 30 :: L) _ at M
     refine ⟨Keep Gk11 [], M.keep (Gle.refl _) (by simp), fun w h => h.mono (Gle.refl _) (by simp), ?_⟩
     refine pt_fin <| q_bn <| q_tn ?_
     replace M := M.perm (perm_front _ 3 _ rfl)
     replace M := M.perm (perm_front _ 1 _ rfl)
     replace M := M.perm (perm_front _ 3 _ rfl)
     change Mem w0 Gk11 (_ :: _ :: .blk nb [.int .u8 (1), .string (str (tag)), .string (str (key)), va, .string (str ([] : List UInt8)), .slice (av13) (ny + 1) (cv13)] 30 :: _ :: L) _ at M
     exact ⟨_, by omega, f', ik11, ndk11, (acc ++ [xk11]), (av13), (ny + 1), (cv13), (csu15), rfl, Gk11, (hG1.trans hGk11), F.to ⟨rfl, rfl, rfl, trivial⟩, (M.weaken (.cons_cons _ (.cons_cons _ (.cons_cons _ (.cons _ (List.Sublist.refl _)))))), child_more hX (by first | exact Or.inl (by omega) | exact Or.inr (fun h9 => absurd ((pre2 (by omega)).2 h9) (by assumption))) hNk11, by omega, by omega, by omega, by rw [List.length_append, List.length_singleton]; omega, by rw [List.length_append, ← hny]; rfl, by have h_ := Eu15; rw [set_last hny] at h_; exact h_⟩
    refine pt_act ?_ rfl ?_
    ·skip
     refine rl_store1 F M tok28 rfl (k := 3) rfl rfl rfl rfl rfl ?_; clear F M a; intro w a M F
     refine rl_nil ?_
     change Mem w0 Gk11 (.blk rb [.string (str (s)), .int .i64 (((ik11 : Nat) : Int)), .int .i64 (((ndk11 : Nat) : Int))] 122 :: .row (.slice (av10) (1) (cv10)) (1) ([.int .u8 (0), .string (str ([] : List UInt8)), .string (str ([] : List UInt8)), .slice none (0) (0), .string (str ([] : List UInt8)), .slice none (0) (0)]) 30 6 :: .row (.slice (av13) (ny + 1) (cv13)) (ny + 1) (csy ++ ([.int .u8 (0), .string (str ([] : List UInt8)), .string (str ([] : List UInt8)), .slice none (0) (0), .string (str ([] : List UInt8)), .slice none (0) (0)])) 30 6 :: .blk nb [.int .u8 (1), .string (str (tag)), .string (str (key)), va, .string (str ([] : List UInt8)), .slice (av13) (ny + 1) (cv13)] 30 :: L) _ at M
     refine ⟨Keep Gk11 [], M.keep (Gle.refl _) (by simp), fun w h => h.mono (Gle.refl _) (by simp), ?_⟩
     refine pt_act ?_ rfl pt_no
     refine rl_storeEl F M tok30 (k := 2) rfl rfl Ev13 Ie14 (lt_of_get hXe14) rfl rfl (us := [.int .u8 (xk11.kind), .string (str (xk11.tag)), .string (str (xk11.key)), .slice (tak11) (xk11.as.length) (tck11), .string (str (xk11.text)), .slice (kak11) (xk11.kids.length) (kck11)]) rfl rfl (by simp [Value.oneCell']) (X' := xk11) (rdT_close (x := xk11) hkk11 hlk11 SAk11 SKk11) ?_; clear F M a; intro csu16 w a M Eu16 F
     refine rl_nil ?_
     change Mem w0 Gk11 (.blk rb [.string (str (s)), .int .i64 (((ik11 : Nat) : Int)), .int .i64 (((ndk11 : Nat) : Int))] 122 :: .row (.slice (av10) (1) (cv10)) (1) ([.int .u8 (0), .string (str ([] : List UInt8)), .string (str ([] : List UInt8)), .slice none (0) (0), .string (str ([] : List UInt8)), .slice none (0) (0)]) 30 6 :: .row (.slice (av13) (ny + 1) (cv13)) (ny + 1) (csu16) 30 6 :: .blk nb [.int .u8 (1), .string (str (tag)), .string (str (key)), va, .string (str ([] : List UInt8)), .slice (av13) (ny + 1) (cv13)] 30 :: L) _ at M
     refine ⟨Keep Gk11 [], M.keep (Gle.refl _) (by simp), fun w h => h.mono (Gle.refl _) (by simp), ?_⟩
     refine pt_fin <| q_bn <| q_tn ?_
     replace M := M.perm (perm_front _ 3 _ rfl)
     replace M := M.perm (perm_front _ 1 _ rfl)
     replace M := M.perm (perm_front _ 3 _ rfl)
     change Mem w0 Gk11 (_ :: _ :: _ :: _ :: L) _ at M
     exact ⟨_, by omega, f', ik11, ndk11, (acc ++ [xk11]), (av13), (ny + 1), (cv13), (csu16), rfl, Gk11, (hG1.trans hGk11), F.to ⟨rfl, rfl, rfl, trivial⟩, (M.weaken (.cons_cons _ (.cons_cons _ (.cons_cons _ (.cons _ (List.Sublist.refl _)))))), child_more hX (by first | exact Or.inl (by omega) | exact Or.inr (fun h9 => absurd ((pre2 (by omega)).2 h9) (by assumption))) hNk11, by omega, by omega, by omega, by rw [List.length_append, List.length_singleton]; omega, by rw [List.length_append, ← hny]; rfl, by have h_ := Eu16; rw [set_last hny] at h_; exact h_⟩
    exact pt_no
   exact pt_no
  refine pt_act ?_ rfl ?_
  ·skip
   replace M := M.perm (perm_front _ 1 _ rfl)
   change Mem w0 G1 (_ :: _ :: _ :: L) _ at M
   change Mem w0 G1 (_ :: _ :: _ :: L) _ at M
   refine rl_callRd (G := G1) (L := .row (.slice (ay) (ny) (cy)) (ny) (csy) 30 6 :: .blk nb [.int .u8 (1), .string (str (tag)), .string (str (key)), va, .string (str ([] : List UInt8)), .slice (ay) (ny) (cy)] 30 :: L) (rb := rb) (s := s) F ent81 (run_callF F ent81 rfl rfl) rfl (ih _ _ _ _ _ (j) (ndj) (lv + 1) _ (by omega) (by omega) hs (by omega) M) (fun e_ w_ G_ i_ nd_ hg_ M_ h_ => finRx (P := Tryz.prog) (fn := Tryz.f104) F (hG1.trans hg_) (M_.weaken (.cons_cons _ (.cons _ (.cons _ (List.Sublist.refl _))))) (child_no hX (by first | exact Or.inl (by omega) | exact Or.inr (fun h9 => absurd ((pre2 (by omega)).2 h9) (by assumption))) h_)) ?_; clear F M a; rintro v_ Gk17 ik17 ndk17 w a hGk17 M ⟨xk17, tak17, tck17, kak17, kck17, hNk17, rfl, hkk17, hlk17, SAk17, SKk17, hik17, hjk17, hdk17⟩ F
   replace Ey := Ey.mono mono_rdN hGk17
   change Mem w0 Gk17 (.blk rb [.string (str (s)), .int .i64 (((ik17 : Nat) : Int)), .int .i64 (((ndk17 : Nat) : Int))] 122 :: _ :: _ :: L) _ at M
   refine rl_nil ?_
   change Mem w0 Gk17 (.blk rb [.string (str (s)), .int .i64 (((ik17 : Nat) : Int)), .int .i64 (((ndk17 : Nat) : Int))] 122 :: .row (.slice (ay) (ny) (cy)) (ny) (csy) 30 6 :: .blk nb [.int .u8 (1), .string (str (tag)), .string (str (key)), va, .string (str ([] : List UInt8)), .slice (ay) (ny) (cy)] 30 :: L) _ at M
   refine ⟨Keep Gk17 [], M.keep (Gle.refl _) (by simp), fun w h => h.mono hGk17 (by simp), ?_⟩
   refine pt_act ?_ rfl ?_
   ·skip
    refine rl_run F (run_load1 (agf tok28 rfl) (F.ev rfl) (M.cellL (k := 2) rfl rfl)) rfl ?_; clear F a; intro a F
    refine rl_nil ?_
    change Mem w0 Gk17 (.blk rb [.string (str (s)), .int .i64 (((ik17 : Nat) : Int)), .int .i64 (((ndk17 : Nat) : Int))] 122 :: .row (.slice (ay) (ny) (cy)) (ny) (csy) 30 6 :: .blk nb [.int .u8 (1), .string (str (tag)), .string (str (key)), va, .string (str ([] : List UInt8)), .slice (ay) (ny) (cy)] 30 :: L) _ at M
    refine ⟨Keep Gk17 [], M.keep (Gle.refl _) (by simp), fun w h => h.mono (Gle.refl _) (by simp), ?_⟩
    refine pt_run F (fun w M => run_lenSl tok28.k (F.ev rfl)) rfl ?_; clear F a; intro a F
    refine pt_act ?_ rfl pt_no
    refine rl_buildSlice1 F M tok28.k tok30 rfl rfl (cs := [.int .u8 (0), .string (str ([] : List UInt8)), .string (str ([] : List UInt8)), .slice none (0) (0), .string (str ([] : List UInt8)), .slice none (0) (0)]) rfl rfl (by simp [Value.oneCell']) (by decide) rfl ?_; clear F M a; intro v18 w a M F
    obtain ⟨av18, cv18, rfl, hlev18, hcmv18, hlv18⟩ := M.row_shape (k := 0) rfl
    refine rl_nil ?_
    change Mem w0 Gk17 (.row (.slice (av18) (1) (cv18)) (1) ([.int .u8 (0), .string (str ([] : List UInt8)), .string (str ([] : List UInt8)), .slice none (0) (0), .string (str ([] : List UInt8)), .slice none (0) (0)]) 30 6 :: .blk rb [.string (str (s)), .int .i64 (((ik17 : Nat) : Int)), .int .i64 (((ndk17 : Nat) : Int))] 122 :: .row (.slice (ay) (ny) (cy)) (ny) (csy) 30 6 :: .blk nb [.int .u8 (1), .string (str (tag)), .string (str (key)), va, .string (str ([] : List UInt8)), .slice (ay) (ny) (cy)] 30 :: L) _ at M
    refine ⟨Keep Gk17 [], M.keep (Gle.refl _) (by simp), fun w h => h.mono (Gle.refl _) (by simp), ?_⟩
    have E19 : Els rdN 6 Gk17 [.int .u8 (0), .string (str ([] : List UInt8)), .string (str ([] : List UInt8)), .slice none (0) (0), .string (str ([] : List UInt8)), .slice none (0) (0)] [zeroN] := Els.one (rdT_close (x := zeroN) ⟨by decide, by decide⟩ ⟨by decide, by decide, by decide⟩ RdSl.nil RdSl.nil) rfl
    refine pt_act ?_ rfl pt_no
    refine rl_append_row F M (k := 2) (k2 := 0) rfl rfl tok28.k tok30 rfl rfl (by decide) rfl rfl (by show _ * 104 ≤ _; (try simp only [List.length_drop, List.length_take, List.length_append, List.length_cons, List.length_nil]); omega) (by (try simp only [List.length_drop, List.length_take, List.length_append, List.length_cons, List.length_nil]); omega) rfl ?_; clear F M a; intro v20 w a M F
    have Ev20 := Els.append Ey E19
    obtain ⟨av20, cv20, rfl, hlev20, hcmv20, hlv20⟩ := M.row_shape (k := 2) rfl
    refine rl_nil ?_
    change Mem w0 Gk17 (.row (.slice (av18) (1) (cv18)) (1) ([.int .u8 (0), .string (str ([] : List UInt8)), .string (str ([] : List UInt8)), .slice none (0) (0), .string (str ([] : List UInt8)), .slice none (0) (0)]) 30 6 :: .blk rb [.string (str (s)), .int .i64 (((ik17 : Nat) : Int)), .int .i64 (((ndk17 : Nat) : Int))] 122 :: .row (.slice (av20) (ny + 1) (cv20)) (ny + 1) (csy ++ ([.int .u8 (0), .string (str ([] : List UInt8)), .string (str ([] : List UInt8)), .slice none (0) (0), .string (str ([] : List UInt8)), .slice none (0) (0)])) 30 6 :: .blk nb [.int .u8 (1), .string (str (tag)), .string (str (key)), va, .string (str ([] : List UInt8)), .slice (ay) (ny) (cy)] 30 :: L) _ at M
    refine ⟨Keep Gk17 [], M.keep (Gle.refl _) (by simp), fun w h => h.mono (Gle.refl _) (by simp), ?_⟩
    obtain ⟨Xe21, hXe21⟩ := get_of_lt (xs := acc ++ ([zeroN])) (i := ny) (by rw [List.length_append, List.length_singleton]; omega)
    obtain ⟨be21, _, Ie21, hme21, _, Ae21, hTe21⟩ := M.atRow (k := 2) rfl (by decide) Ev20 hXe21
    obtain ⟨tae21, tce21, kae21, kce21, rfl, hke21, hle21, SAe21, SKe21⟩ := rdT_open hTe21
    refine pt_run F (fun w M => run_indexI tok28.k tok30 (F.ev rfl) (F.ev rfl) (by omega) Ie21) rfl ?_; clear F a; intro a F
    refine pt_run F (fun w M => run_nilCheck (F.ev rfl)) rfl ?_; clear F a; intro a F
    refine pt_run F (fun w M => run_fieldAddr tok30.k rfl rfl (F.ev rfl)) rfl ?_; clear F a; intro a F
    refine pt_act ?_ rfl ?_
    ·skip
     refine rl_storeEl F M tok30 (k := 2) rfl rfl Ev20 Ie21 (lt_of_get hXe21) rfl rfl (us := [.int .u8 (xk17.kind), .string (str (xk17.tag)), .string (str (xk17.key)), .slice (tak17) (xk17.as.length) (tck17), .string (str (xk17.text)), .slice (kak17) (xk17.kids.length) (kck17)]) rfl rfl (by simp [Value.oneCell']) (X' := xk17) (rdT_close (x := xk17) hkk17 hlk17 SAk17 SKk17) ?_; clear F M a; intro csu22 w a M Eu22 F
     refine rl_nil ?_
     change Mem w0 Gk17 (.row (.slice (av18) (1) (cv18)) (1) ([.int .u8 (0), .string (str ([] : List UInt8)), .string (str ([] : List UInt8)), .slice none (0) (0), .string (str ([] : List UInt8)), .slice none (0) (0)]) 30 6 :: .blk rb [.string (str (s)), .int .i64 (((ik17 : Nat) : Int)), .int .i64 (((ndk17 : Nat) : Int))] 122 :: .row (.slice (av20) (ny + 1) (cv20)) (ny + 1) (csu22) 30 6 :: .blk nb [.int .u8 (1), .string (str (tag)), .string (str (key)), va, .string (str ([] : List UInt8)), .slice (ay) (ny) (cy)] 30 :: L) _ at M
     refine ⟨Keep Gk17 [], M.keep (Gle.refl _) (by simp), fun w h => h.mono (Gle.refl _) (by simp), ?_⟩
     refine pt_act ?_ rfl pt_no
     refine rl_store1 F M tok28 rfl (k := 3) rfl rfl rfl rfl rfl ?_; clear F M a; intro w a M F
     refine rl_nil ?_
     change Mem w0 Gk17 (.row (.slice (av18) (1) (cv18)) (1) ([.int .u8 (0), .string (str ([] : List UInt8)), .string (str ([] : List UInt8)), .slice none (0) (0), .string (str ([] : List UInt8)), .slice none (0) (0)]) 30 6 :: .blk rb [.string (str (s)), .int .i64 (((ik17 : Nat) : Int)), .int .i64 (((ndk17 : Nat) : Int))] 122 :: .row (.slice (av20) (ny + 1) (cv20)) (ny + 1) (csu22) 30 6 :: .blk nb [.int .u8 (1), .string (str (tag)), .string (str (key)), va, .string (str ([] : List UInt8)), .slice (av20) (ny + 1) (cv20)] 30 :: L) _ at M
     refine ⟨Keep Gk17 [], M.keep (Gle.refl _) (by simp), fun w h => h.mono (Gle.refl _) (by simp), ?_⟩
     refine pt_fin <| q_bn <| q_tn ?_
     replace M := M.perm (perm_front _ 3 _ rfl)
     replace M := M.perm (perm_front _ 2 _ rfl)
     replace M := M.perm (perm_front _ 3 _ rfl)
     change Mem w0 Gk17 (_ :: _ :: .blk nb [.int .u8 (1), .string (str (tag)), .string (str (key)), va, .string (str ([] : List UInt8)), .slice (av20) (ny + 1) (cv20)] 30 :: _ :: L) _ at M
     exact ⟨_, by omega, f', ik17, ndk17, (acc ++ [xk17]), (av20), (ny + 1), (cv20), (csu22), rfl, Gk17, (hG1.trans hGk17), F.to ⟨rfl, rfl, rfl, trivial⟩, (M.weaken (.cons_cons _ (.cons_cons _ (.cons_cons _ (.cons _ (List.Sublist.refl _)))))), child_more hX (by first | exact Or.inl (by omega) | exact Or.inr (fun h9 => absurd ((pre2 (by omega)).2 h9) (by assumption))) hNk17, by omega, by omega, by omega, by rw [List.length_append, List.length_singleton]; omega, by rw [List.length_append, ← hny]; rfl, by have h_ := Eu22; rw [set_last hny] at h_; exact h_⟩
    refine pt_act ?_ rfl ?_
    ·skip
     refine rl_store1 F M tok28 rfl (k := 3) rfl rfl rfl rfl rfl ?_; clear F M a; intro w a M F
     refine rl_nil ?_
     change Mem w0 Gk17 (.row (.slice (av18) (1) (cv18)) (1) ([.int .u8 (0), .string (str ([] : List UInt8)), .string (str ([] : List UInt8)), .slice none (0) (0), .string (str ([] : List UInt8)), .slice none (0) (0)]) 30 6 :: .blk rb [.string (str (s)), .int .i64 (((ik17 : Nat) : Int)), .int .i64 (((ndk17 : Nat) : Int))] 122 :: .row (.slice (av20) (ny + 1) (cv20)) (ny + 1) (csy ++ ([.int .u8 (0), .string (str ([] : List UInt8)), .string (str ([] : List UInt8)), .slice none (0) (0), .string (str ([] : List UInt8)), .slice none (0) (0)])) 30 6 :: .blk nb [.int .u8 (1), .string (str (tag)), .string (str (key)), va, .string (str ([] : List UInt8)), .slice (av20) (ny + 1) (cv20)] 30 :: L) _ at M
     refine ⟨Keep Gk17 [], M.keep (Gle.refl _) (by simp), fun w h => h.mono (Gle.refl _) (by simp), ?_⟩
     refine pt_act ?_ rfl pt_no
     refine rl_storeEl F M tok30 (k := 2) rfl rfl Ev20 Ie21 (lt_of_get hXe21) rfl rfl (us := [.int .u8 (xk17.kind), .string (str (xk17.tag)), .string (str (xk17.key)), .slice (tak17) (xk17.as.length) (tck17), .string (str (xk17.text)), .slice (kak17) (xk17.kids.length) (kck17)]) rfl rfl (by simp [Value.oneCell']) (X' := xk17) (rdT_close (x := xk17) hkk17 hlk17 SAk17 SKk17) ?_; clear F M a; intro csu23 w a M Eu23 F
     refine rl_nil ?_
     change Mem w0 Gk17 (.row (.slice (av18) (1) (cv18)) (1) ([.int .u8 (0), .string (str ([] : List UInt8)), .string (str ([] : List UInt8)), .slice none (0) (0), .string (str ([] : List UInt8)), .slice none (0) (0)]) 30 6 :: .blk rb [.string (str (s)), .int .i64 (((ik17 : Nat) : Int)), .int .i64 (((ndk17 : Nat) : Int))] 122 :: .row (.slice (av20) (ny + 1) (cv20)) (ny + 1) (csu23) 30 6 :: .blk nb [.int .u8 (1), .string (str (tag)), .string (str (key)), va, .string (str ([] : List UInt8)), .slice (av20) (ny + 1) (cv20)] 30 :: L) _ at M
     refine ⟨Keep Gk17 [], M.keep (Gle.refl _) (by simp), fun w h => h.mono (Gle.refl _) (by simp), ?_⟩
     refine pt_fin <| q_bn <| q_tn ?_
     replace M := M.perm (perm_front _ 3 _ rfl)
     replace M := M.perm (perm_front _ 2 _ rfl)
     replace M := M.perm (perm_front _ 3 _ rfl)
     change Mem w0 Gk17 (_ :: _ :: _ :: _ :: L) _ at M
     exact ⟨_, by omega, f', ik17, ndk17, (acc ++ [xk17]), (av20), (ny + 1), (cv20), (csu23), rfl, Gk17, (hG1.trans hGk17), F.to ⟨rfl, rfl, rfl, trivial⟩, (M.weaken (.cons_cons _ (.cons_cons _ (.cons_cons _ (.cons _ (List.Sublist.refl _)))))), child_more hX (by first | exact Or.inl (by omega) | exact Or.inr (fun h9 => absurd ((pre2 (by omega)).2 h9) (by assumption))) hNk17, by omega, by omega, by omega, by rw [List.length_append, List.length_singleton]; omega, by rw [List.length_append, ← hny]; rfl, by have h_ := Eu23; rw [set_last hny] at h_; exact h_⟩
    exact pt_no
   refine pt_act ?_ rfl ?_
   ·skip
    refine rl_buildSlice1 F M tok28.k tok30 rfl rfl (cs := [.int .u8 (0), .string (str ([] : List UInt8)), .string (str ([] : List UInt8)), .slice none (0) (0), .string (str ([] : List UInt8)), .slice none (0) (0)]) rfl rfl (by simp [Value.oneCell']) (by decide) rfl ?_; clear F M a; intro v24 w a M F
    obtain ⟨av24, cv24, rfl, hlev24, hcmv24, hlv24⟩ := M.row_shape (k := 0) rfl
    refine rl_nil ?_
    change Mem w0 Gk17 (.row (.slice (av24) (1) (cv24)) (1) ([.int .u8 (0), .string (str ([] : List UInt8)), .string (str ([] : List UInt8)), .slice none (0) (0), .string (str ([] : List UInt8)), .slice none (0) (0)]) 30 6 :: .blk rb [.string (str (s)), .int .i64 (((ik17 : Nat) : Int)), .int .i64 (((ndk17 : Nat) : Int))] 122 :: .row (.slice (ay) (ny) (cy)) (ny) (csy) 30 6 :: .blk nb [.int .u8 (1), .string (str (tag)), .string (str (key)), va, .string (str ([] : List UInt8)), .slice (ay) (ny) (cy)] 30 :: L) _ at M
    refine ⟨Keep Gk17 [], M.keep (Gle.refl _) (by simp), fun w h => h.mono (Gle.refl _) (by simp), ?_⟩
    refine pt_act ?_ rfl pt_no
    refine rl_run F (run_load1 (agf tok28 rfl) (F.ev rfl) (M.cellL (k := 3) rfl rfl)) rfl ?_; clear F a; intro a F
    refine rl_nil ?_
    change Mem w0 Gk17 (.row (.slice (av24) (1) (cv24)) (1) ([.int .u8 (0), .string (str ([] : List UInt8)), .string (str ([] : List UInt8)), .slice none (0) (0), .string (str ([] : List UInt8)), .slice none (0) (0)]) 30 6 :: .blk rb [.string (str (s)), .int .i64 (((ik17 : Nat) : Int)), .int .i64 (((ndk17 : Nat) : Int))] 122 :: .row (.slice (ay) (ny) (cy)) (ny) (csy) 30 6 :: .blk nb [.int .u8 (1), .string (str (tag)), .string (str (key)), va, .string (str ([] : List UInt8)), .slice (ay) (ny) (cy)] 30 :: L) _ at M
    refine ⟨Keep Gk17 [], M.keep (Gle.refl _) (by simp), fun w h => h.mono (Gle.refl _) (by simp), ?_⟩
    refine pt_run F (fun w M => run_lenSl tok28.k (F.ev rfl)) rfl ?_; clear F a; intro a F
    have E25 : Els rdN 6 Gk17 [.int .u8 (0), .string (str ([] : List UInt8)), .string (str ([] : List UInt8)), .slice none (0) (0), .string (str ([] : List UInt8)), .slice none (0) (0)] [zeroN] := Els.one (rdT_close (x := zeroN) ⟨by decide, by decide⟩ ⟨by decide, by decide, by decide⟩ RdSl.nil RdSl.nil) rfl
    refine pt_act ?_ rfl pt_no
    refine rl_append_row F M (k := 2) (k2 := 0) rfl rfl tok28.k tok30 rfl rfl (by decide) rfl rfl (by show _ * 104 ≤ _; (try simp only [List.length_drop, List.length_take, List.length_append, List.length_cons, List.length_nil]); omega) (by (try simp only [List.length_drop, List.length_take, List.length_append, List.length_cons, List.length_nil]); omega) rfl ?_; clear F M a; intro v26 w a M F
    have Ev26 := Els.append Ey E25
    obtain ⟨av26, cv26, rfl, hlev26, hcmv26, hlv26⟩ := M.row_shape (k := 2) rfl
    refine rl_nil ?_
    change Mem w0 Gk17 (.row (.slice (av24) (1) (cv24)) (1) ([.int .u8 (0), .string (str ([] : List UInt8)), .string (str ([] : List UInt8)), .slice none (0) (0), .string (str ([] : List UInt8)), .slice none (0) (0)]) 30 6 :: .blk rb [.string (str (s)), .int .i64 (((ik17 : Nat) : Int)), .int .i64 (((ndk17 : Nat) : Int))] 122 :: .row (.slice (av26) (ny + 1) (cv26)) (ny + 1) (csy ++ ([.int .u8 (0), .string (str ([] : List UInt8)), .string (str ([] : List UInt8)), .slice none (0) (0), .string (str ([] : List UInt8)), .slice none (0) (0)])) 30 6 :: .blk nb [.int .u8 (1), .string (str (tag)), .string (str (key)), va, .string (str ([] : List UInt8)), .slice (ay) (ny) (cy)] 30 :: L) _ at M
    refine ⟨Keep Gk17 [], M.keep (Gle.refl _) (by simp), fun w h => h.mono (Gle.refl _) (by simp), ?_⟩
    obtain ⟨Xe27, hXe27⟩ := get_of_lt (xs := acc ++ ([zeroN])) (i := ny) (by rw [List.length_append, List.length_singleton]; omega)
    obtain ⟨be27, _, Ie27, hme27, _, Ae27, hTe27⟩ := M.atRow (k := 2) rfl (by decide) Ev26 hXe27
    obtain ⟨tae27, tce27, kae27, kce27, rfl, hke27, hle27, SAe27, SKe27⟩ := rdT_open hTe27
    refine pt_run F (fun w M => run_indexI tok28.k tok30 (F.ev rfl) (F.ev rfl) (by omega) Ie27) rfl ?_; clear F a; intro a F
    refine pt_run F (fun w M => run_nilCheck (F.ev rfl)) rfl ?_; clear F a; intro a F
    refine pt_run F (fun w M => run_fieldAddr tok30.k rfl rfl (F.ev rfl)) rfl ?_; clear F a; intro a F
    refine pt_act ?_ rfl ?_
    ·skip
     refine rl_storeEl F M tok30 (k := 2) rfl rfl Ev26 Ie27 (lt_of_get hXe27) rfl rfl (us := [.int .u8 (xk17.kind), .string (str (xk17.tag)), .string (str (xk17.key)), .slice (tak17) (xk17.as.length) (tck17), .string (str (xk17.text)), .slice (kak17) (xk17.kids.length) (kck17)]) rfl rfl (by simp [Value.oneCell']) (X' := xk17) (rdT_close (x := xk17) hkk17 hlk17 SAk17 SKk17) ?_; clear F M a; intro csu28 w a M Eu28 F
     refine rl_nil ?_
     change Mem w0 Gk17 (.row (.slice (av24) (1) (cv24)) (1) ([.int .u8 (0), .string (str ([] : List UInt8)), .string (str ([] : List UInt8)), .slice none (0) (0), .string (str ([] : List UInt8)), .slice none (0) (0)]) 30 6 :: .blk rb [.string (str (s)), .int .i64 (((ik17 : Nat) : Int)), .int .i64 (((ndk17 : Nat) : Int))] 122 :: .row (.slice (av26) (ny + 1) (cv26)) (ny + 1) (csu28) 30 6 :: .blk nb [.int .u8 (1), .string (str (tag)), .string (str (key)), va, .string (str ([] : List UInt8)), .slice (ay) (ny) (cy)] 30 :: L) _ at M
     refine ⟨Keep Gk17 [], M.keep (Gle.refl _) (by simp), fun w h => h.mono (Gle.refl _) (by simp), ?_⟩
     refine pt_act ?_ rfl pt_no
     refine rl_store1 F M tok28 rfl (k := 3) rfl rfl rfl rfl rfl ?_; clear F M a; intro w a M F
     refine rl_nil ?_
     change Mem w0 Gk17 (.row (.slice (av24) (1) (cv24)) (1) ([.int .u8 (0), .string (str ([] : List UInt8)), .string (str ([] : List UInt8)), .slice none (0) (0), .string (str ([] : List UInt8)), .slice none (0) (0)]) 30 6 :: .blk rb [.string (str (s)), .int .i64 (((ik17 : Nat) : Int)), .int .i64 (((ndk17 : Nat) : Int))] 122 :: .row (.slice (av26) (ny + 1) (cv26)) (ny + 1) (csu28) 30 6 :: .blk nb [.int .u8 (1), .string (str (tag)), .string (str (key)), va, .string (str ([] : List UInt8)), .slice (av26) (ny + 1) (cv26)] 30 :: L) _ at M
     refine ⟨Keep Gk17 [], M.keep (Gle.refl _) (by simp), fun w h => h.mono (Gle.refl _) (by simp), ?_⟩
     refine pt_fin <| q_bn <| q_tn ?_
     replace M := M.perm (perm_front _ 3 _ rfl)
     replace M := M.perm (perm_front _ 2 _ rfl)
     replace M := M.perm (perm_front _ 3 _ rfl)
     change Mem w0 Gk17 (_ :: _ :: .blk nb [.int .u8 (1), .string (str (tag)), .string (str (key)), va, .string (str ([] : List UInt8)), .slice (av26) (ny + 1) (cv26)] 30 :: _ :: L) _ at M
     exact ⟨_, by omega, f', ik17, ndk17, (acc ++ [xk17]), (av26), (ny + 1), (cv26), (csu28), rfl, Gk17, (hG1.trans hGk17), F.to ⟨rfl, rfl, rfl, trivial⟩, (M.weaken (.cons_cons _ (.cons_cons _ (.cons_cons _ (.cons _ (List.Sublist.refl _)))))), child_more hX (by first | exact Or.inl (by omega) | exact Or.inr (fun h9 => absurd ((pre2 (by omega)).2 h9) (by assumption))) hNk17, by omega, by omega, by omega, by rw [List.length_append, List.length_singleton]; omega, by rw [List.length_append, ← hny]; rfl, by have h_ := Eu28; rw [set_last hny] at h_; exact h_⟩
    refine pt_act ?_ rfl ?_
    ·skip
     refine rl_store1 F M tok28 rfl (k := 3) rfl rfl rfl rfl rfl ?_; clear F M a; intro w a M F
     refine rl_nil ?_
     change Mem w0 Gk17 (.row (.slice (av24) (1) (cv24)) (1) ([.int .u8 (0), .string (str ([] : List UInt8)), .string (str ([] : List UInt8)), .slice none (0) (0), .string (str ([] : List UInt8)), .slice none (0) (0)]) 30 6 :: .blk rb [.string (str (s)), .int .i64 (((ik17 : Nat) : Int)), .int .i64 (((ndk17 : Nat) : Int))] 122 :: .row (.slice (av26) (ny + 1) (cv26)) (ny + 1) (csy ++ ([.int .u8 (0), .string (str ([] : List UInt8)), .string (str ([] : List UInt8)), .slice none (0) (0), .string (str ([] : List UInt8)), .slice none (0) (0)])) 30 6 :: .blk nb [.int .u8 (1), .string (str (tag)), .string (str (key)), va, .string (str ([] : List UInt8)), .slice (av26) (ny + 1) (cv26)] 30 :: L) _ at M
     refine ⟨Keep Gk17 [], M.keep (Gle.refl _) (by simp), fun w h => h.mono (Gle.refl _) (by simp), ?_⟩
     refine pt_act ?_ rfl pt_no
     refine rl_storeEl F M tok30 (k := 2) rfl rfl Ev26 Ie27 (lt_of_get hXe27) rfl rfl (us := [.int .u8 (xk17.kind), .string (str (xk17.tag)), .string (str (xk17.key)), .slice (tak17) (xk17.as.length) (tck17), .string (str (xk17.text)), .slice (kak17) (xk17.kids.length) (kck17)]) rfl rfl (by simp [Value.oneCell']) (X' := xk17) (rdT_close (x := xk17) hkk17 hlk17 SAk17 SKk17) ?_; clear F M a; intro csu29 w a M Eu29 F
     refine rl_nil ?_
     change Mem w0 Gk17 (.row (.slice (av24) (1) (cv24)) (1) ([.int .u8 (0), .string (str ([] : List UInt8)), .string (str ([] : List UInt8)), .slice none (0) (0), .string (str ([] : List UInt8)), .slice none (0) (0)]) 30 6 :: .blk rb [.string (str (s)), .int .i64 (((ik17 : Nat) : Int)), .int .i64 (((ndk17 : Nat) : Int))] 122 :: .row (.slice (av26) (ny + 1) (cv26)) (ny + 1) (csu29) 30 6 :: .blk nb [.int .u8 (1), .string (str (tag)), .string (str (key)), va, .string (str ([] : List UInt8)), .slice (av26) (ny + 1) (cv26)] 30 :: L) _ at M
     refine ⟨Keep Gk17 [], M.keep (Gle.refl _) (by simp), fun w h => h.mono (Gle.refl _) (by simp), ?_⟩
     refine pt_fin <| q_bn <| q_tn ?_
     replace M := M.perm (perm_front _ 3 _ rfl)
     replace M := M.perm (perm_front _ 2 _ rfl)
     replace M := M.perm (perm_front _ 3 _ rfl)
     change Mem w0 Gk17 (_ :: _ :: _ :: _ :: L) _ at M
     exact ⟨_, by omega, f', ik17, ndk17, (acc ++ [xk17]), (av26), (ny + 1), (cv26), (csu29), rfl, Gk17, (hG1.trans hGk17), F.to ⟨rfl, rfl, rfl, trivial⟩, (M.weaken (.cons_cons _ (.cons_cons _ (.cons_cons _ (.cons _ (List.Sublist.refl _)))))), child_more hX (by first | exact Or.inl (by omega) | exact Or.inr (fun h9 => absurd ((pre2 (by omega)).2 h9) (by assumption))) hNk17, by omega, by omega, by omega, by rw [List.length_append, List.length_singleton]; omega, by rw [List.length_append, ← hny]; rfl, by have h_ := Eu29; rw [set_last hny] at h_; exact h_⟩
    exact pt_no
   exact pt_no
  refine pt_act ?_ rfl ?_
  ·skip
   refine rl_buildSlice1 F M tok28.k tok30 rfl rfl (cs := [.int .u8 (0), .string (str ([] : List UInt8)), .string (str ([] : List UInt8)), .slice none (0) (0), .string (str ([] : List UInt8)), .slice none (0) (0)]) rfl rfl (by simp [Value.oneCell']) (by decide) rfl ?_; clear F M a; intro v30 w a M F
   obtain ⟨av30, cv30, rfl, hlev30, hcmv30, hlv30⟩ := M.row_shape (k := 0) rfl
   refine rl_nil ?_
   change Mem w0 G1 (.row (.slice (av30) (1) (cv30)) (1) ([.int .u8 (0), .string (str ([] : List UInt8)), .string (str ([] : List UInt8)), .slice none (0) (0), .string (str ([] : List UInt8)), .slice none (0) (0)]) 30 6 :: .row (.slice (ay) (ny) (cy)) (ny) (csy) 30 6 :: .blk rb [.string (str (s)), .int .i64 (((j : Nat) : Int)), .int .i64 (((ndj : Nat) : Int))] 122 :: .blk nb [.int .u8 (1), .string (str (tag)), .string (str (key)), va, .string (str ([] : List UInt8)), .slice (ay) (ny) (cy)] 30 :: L) _ at M
   refine ⟨Keep G1 [], M.keep (Gle.refl _) (by simp), fun w h => h.mono (Gle.refl _) (by simp), ?_⟩
   refine pt_act ?_ rfl ?_
   ·skip
    refine rl_run F (run_load1 (agf tok28 rfl) (F.ev rfl) (M.cellL (k := 3) rfl rfl)) rfl ?_; clear F a; intro a F
    refine rl_nil ?_
    change Mem w0 G1 (.row (.slice (av30) (1) (cv30)) (1) ([.int .u8 (0), .string (str ([] : List UInt8)), .string (str ([] : List UInt8)), .slice none (0) (0), .string (str ([] : List UInt8)), .slice none (0) (0)]) 30 6 :: .row (.slice (ay) (ny) (cy)) (ny) (csy) 30 6 :: .blk rb [.string (str (s)), .int .i64 (((j : Nat) : Int)), .int .i64 (((ndj : Nat) : Int))] 122 :: .blk nb [.int .u8 (1), .string (str (tag)), .string (str (key)), va, .string (str ([] : List UInt8)), .slice (ay) (ny) (cy)] 30 :: L) _ at M
    refine ⟨Keep G1 [], M.keep (Gle.refl _) (by simp), fun w h => h.mono (Gle.refl _) (by simp), ?_⟩
    refine pt_run F (fun w M => run_lenSl tok28.k (F.ev rfl)) rfl ?_; clear F a; intro a F
    refine pt_act ?_ rfl pt_no
    replace M := M.perm (perm_front _ 2 _ rfl)
    change Mem w0 G1 (_ :: _ :: _ :: _ :: L) _ at M
    change Mem w0 G1 (_ :: _ :: _ :: _ :: L) _ at M
    refine rl_callRd (G := G1) (L := .row (.slice (av30) (1) (cv30)) (1) ([.int .u8 (0), .string (str ([] : List UInt8)), .string (str ([] : List UInt8)), .slice none (0) (0), .string (str ([] : List UInt8)), .slice none (0) (0)]) 30 6 :: .row (.slice (ay) (ny) (cy)) (ny) (csy) 30 6 :: .blk nb [.int .u8 (1), .string (str (tag)), .string (str (key)), va, .string (str ([] : List UInt8)), .slice (ay) (ny) (cy)] 30 :: L) (rb := rb) (s := s) F ent81 (run_callF F ent81 rfl rfl) rfl (ih _ _ _ _ _ (j) (ndj) (lv + 1) _ (by omega) (by omega) hs (by omega) M) (fun e_ w_ G_ i_ nd_ hg_ M_ h_ => finRx (P := Tryz.prog) (fn := Tryz.f104) F (hG1.trans hg_) (M_.weaken (.cons_cons _ (.cons _ (.cons _ (.cons _ (List.Sublist.refl _)))))) (child_no hX (by first | exact Or.inl (by omega) | exact Or.inr (fun h9 => absurd ((pre2 (by omega)).2 h9) (by assumption))) h_)) ?_; clear F M a; rintro v_ Gk31 ik31 ndk31 w a hGk31 M ⟨xk31, tak31, tck31, kak31, kck31, hNk31, rfl, hkk31, hlk31, SAk31, SKk31, hik31, hjk31, hdk31⟩ F
    replace Ey := Ey.mono mono_rdN hGk31
    change Mem w0 Gk31 (.blk rb [.string (str (s)), .int .i64 (((ik31 : Nat) : Int)), .int .i64 (((ndk31 : Nat) : Int))] 122 :: _ :: _ :: _ :: L) _ at M
    refine rl_nil ?_
    change Mem w0 Gk31 (.blk rb [.string (str (s)), .int .i64 (((ik31 : Nat) : Int)), .int .i64 (((ndk31 : Nat) : Int))] 122 :: .row (.slice (av30) (1) (cv30)) (1) ([.int .u8 (0), .string (str ([] : List UInt8)), .string (str ([] : List UInt8)), .slice none (0) (0), .string (str ([] : List UInt8)), .slice none (0) (0)]) 30 6 :: .row (.slice (ay) (ny) (cy)) (ny) (csy) 30 6 :: .blk nb [.int .u8 (1), .string (str (tag)), .string (str (key)), va, .string (str ([] : List UInt8)), .slice (ay) (ny) (cy)] 30 :: L) _ at M
    refine ⟨Keep Gk31 [], M.keep (Gle.refl _) (by simp), fun w h => h.mono hGk31 (by simp), ?_⟩
    have E32 : Els rdN 6 Gk31 [.int .u8 (0), .string (str ([] : List UInt8)), .string (str ([] : List UInt8)), .slice none (0) (0), .string (str ([] : List UInt8)), .slice none (0) (0)] [zeroN] := Els.one (rdT_close (x := zeroN) ⟨by decide, by decide⟩ ⟨by decide, by decide, by decide⟩ RdSl.nil RdSl.nil) rfl
    refine pt_act ?_ rfl pt_no
    refine rl_append_row F M (k := 2) (k2 := 1) rfl rfl tok28.k tok30 rfl rfl (by decide) rfl rfl (by show _ * 104 ≤ _; (try simp only [List.length_drop, List.length_take, List.length_append, List.length_cons, List.length_nil]); omega) (by (try simp only [List.length_drop, List.length_take, List.length_append, List.length_cons, List.length_nil]); omega) rfl ?_; clear F M a; intro v33 w a M F
    have Ev33 := Els.append Ey E32
    obtain ⟨av33, cv33, rfl, hlev33, hcmv33, hlv33⟩ := M.row_shape (k := 2) rfl
    refine rl_nil ?_
    change Mem w0 Gk31 (.blk rb [.string (str (s)), .int .i64 (((ik31 : Nat) : Int)), .int .i64 (((ndk31 : Nat) : Int))] 122 :: .row (.slice (av30) (1) (cv30)) (1) ([.int .u8 (0), .string (str ([] : List UInt8)), .string (str ([] : List UInt8)), .slice none (0) (0), .string (str ([] : List UInt8)), .slice none (0) (0)]) 30 6 :: .row (.slice (av33) (ny + 1) (cv33)) (ny + 1) (csy ++ ([.int .u8 (0), .string (str ([] : List UInt8)), .string (str ([] : List UInt8)), .slice none (0) (0), .string (str ([] : List UInt8)), .slice none (0) (0)])) 30 6 :: .blk nb [.int .u8 (1), .string (str (tag)), .string (str (key)), va, .string (str ([] : List UInt8)), .slice (ay) (ny) (cy)] 30 :: L) _ at M
    refine ⟨Keep Gk31 [], M.keep (Gle.refl _) (by simp), fun w h => h.mono (Gle.refl _) (by simp), ?_⟩
    obtain ⟨Xe34, hXe34⟩ := get_of_lt (xs := acc ++ ([zeroN])) (i := ny) (by rw [List.length_append, List.length_singleton]; omega)
    obtain ⟨be34, _, Ie34, hme34, _, Ae34, hTe34⟩ := M.atRow (k := 2) rfl (by decide) Ev33 hXe34
    obtain ⟨tae34, tce34, kae34, kce34, rfl, hke34, hle34, SAe34, SKe34⟩ := rdT_open hTe34
    refine pt_run F (fun w M => run_indexI tok28.k tok30 (F.ev rfl) (F.ev rfl) (by omega) Ie34) rfl ?_; clear F a; intro a F
    refine pt_run F (fun w M => run_nilCheck (F.ev rfl)) rfl ?_; clear F a; intro a F
    refine pt_run F (fun w M => run_fieldAddr tok30.k rfl rfl (F.ev rfl)) rfl ?_; clear F a; intro a F
    refine pt_act ?_ rfl ?_
    ·skip
     refine rl_storeEl F M tok30 (k := 2) rfl rfl Ev33 Ie34 (lt_of_get hXe34) rfl rfl (us := [.int .u8 (xk31.kind), .string (str (xk31.tag)), .string (str (xk31.key)), .slice (tak31) (xk31.as.length) (tck31), .string (str (xk31.text)), .slice (kak31) (xk31.kids.length) (kck31)]) rfl rfl (by simp [Value.oneCell']) (X' := xk31) (rdT_close (x := xk31) hkk31 hlk31 SAk31 SKk31) ?_; clear F M a; intro csu35 w a M Eu35 F
     refine rl_nil ?_
     change Mem w0 Gk31 (.blk rb [.string (str (s)), .int .i64 (((ik31 : Nat) : Int)), .int .i64 (((ndk31 : Nat) : Int))] 122 :: .row (.slice (av30) (1) (cv30)) (1) ([.int .u8 (0), .string (str ([] : List UInt8)), .string (str ([] : List UInt8)), .slice none (0) (0), .string (str ([] : List UInt8)), .slice none (0) (0)]) 30 6 :: .row (.slice (av33) (ny + 1) (cv33)) (ny + 1) (csu35) 30 6 :: .blk nb [.int .u8 (1), .string (str (tag)), .string (str (key)), va, .string (str ([] : List UInt8)), .slice (ay) (ny) (cy)] 30 :: L) _ at M
     refine ⟨Keep Gk31 [], M.keep (Gle.refl _) (by simp), fun w h => h.mono (Gle.refl _) (by simp), ?_⟩
     refine pt_act ?_ rfl pt_no
     refine rl_store1 F M tok28 rfl (k := 3) rfl rfl rfl rfl rfl ?_; clear F M a; intro w a M F
     refine rl_nil ?_
     change Mem w0 Gk31 (.blk rb [.string (str (s)), .int .i64 (((ik31 : Nat) : Int)), .int .i64 (((ndk31 : Nat) : Int))] 122 :: .row (.slice (av30) (1) (cv30)) (1) ([.int .u8 (0), .string (str ([] : List UInt8)), .string (str ([] : List UInt8)), .slice none (0) (0), .string (str ([] : List UInt8)), .slice none (0) (0)]) 30 6 :: .row (.slice (av33) (ny + 1) (cv33)) (ny + 1) (csu35) 30 6 :: .blk nb [.int .u8 (1), .string (str (tag)), .string (str (key)), va, .string (str ([] : List UInt8)), .slice (av33) (ny + 1) (cv33)] 30 :: L) _ at M
     refine ⟨Keep Gk31 [], M.keep (Gle.refl _) (by simp), fun w h => h.mono (Gle.refl _) (by simp), ?_⟩
     refine pt_fin <| q_bn <| q_tn ?_
     replace M := M.perm (perm_front _ 3 _ rfl)
     replace M := M.perm (perm_front _ 1 _ rfl)
     replace M := M.perm (perm_front _ 3 _ rfl)
     change Mem w0 Gk31 (_ :: _ :: .blk nb [.int .u8 (1), .string (str (tag)), .string (str (key)), va, .string (str ([] : List UInt8)), .slice (av33) (ny + 1) (cv33)] 30 :: _ :: L) _ at M
     exact ⟨_, by omega, f', ik31, ndk31, (acc ++ [xk31]), (av33), (ny + 1), (cv33), (csu35), rfl, Gk31, (hG1.trans hGk31), F.to ⟨rfl, rfl, rfl, trivial⟩, (M.weaken (.cons_cons _ (.cons_cons _ (.cons_cons _ (.cons _ (List.Sublist.refl _)))))), child_more hX (by first | exact Or.inl (by omega) | exact Or.inr (fun h9 => absurd ((pre2 (by omega)).2 h9) (by assumption))) hNk31, by omega, by omega, by omega, by rw [List.length_append, List.length_singleton]; omega, by rw [List.length_append, ← hny]; rfl, by have h_ := Eu35; rw [set_last hny] at h_; exact h_⟩
    refine pt_act ?_ rfl ?_
    ·skip
     refine rl_store1 F M tok28 rfl (k := 3) rfl rfl rfl rfl rfl ?_; clear F M a; intro w a M F
     refine rl_nil ?_
     change Mem w0 Gk31 (.blk rb [.string (str (s)), .int .i64 (((ik31 : Nat) : Int)), .int .i64 (((ndk31 : Nat) : Int))] 122 :: .row (.slice (av30) (1) (cv30)) (1) ([.int .u8 (0), .string (str ([] : List UInt8)), .string (str ([] : List UInt8)), .slice none (0) (0), .string (str ([] : List UInt8)), .slice none (0) (0)]) 30 6 :: .row (.slice (av33) (ny + 1) (cv33)) (ny + 1) (csy ++ ([.int .u8 (0), .string (str ([] : List UInt8)), .string (str ([] : List UInt8)), .slice none (0) (0), .string (str ([] : List UInt8)), .slice none (0) (0)])) 30 6 :: .blk nb [.int .u8 (1), .string (str (tag)), .string (str (key)), va, .string (str ([] : List UInt8)), .slice (av33) (ny + 1) (cv33)] 30 :: L) _ at M
     refine ⟨Keep Gk31 [], M.keep (Gle.refl _) (by simp), fun w h => h.mono (Gle.refl _) (by simp), ?_⟩
     refine pt_act ?_ rfl pt_no
     refine rl_storeEl F M tok30 (k := 2) rfl rfl Ev33 Ie34 (lt_of_get hXe34) rfl rfl (us := [.int .u8 (xk31.kind), .string (str (xk31.tag)), .string (str (xk31.key)), .slice (tak31) (xk31.as.length) (tck31), .string (str (xk31.text)), .slice (kak31) (xk31.kids.length) (kck31)]) rfl rfl (by simp [Value.oneCell']) (X' := xk31) (rdT_close (x := xk31) hkk31 hlk31 SAk31 SKk31) ?_; clear F M a; intro csu36 w a M Eu36 F
     refine rl_nil ?_
     change Mem w0 Gk31 (.blk rb [.string (str (s)), .int .i64 (((ik31 : Nat) : Int)), .int .i64 (((ndk31 : Nat) : Int))] 122 :: .row (.slice (av30) (1) (cv30)) (1) ([.int .u8 (0), .string (str ([] : List UInt8)), .string (str ([] : List UInt8)), .slice none (0) (0), .string (str ([] : List UInt8)), .slice none (0) (0)]) 30 6 :: .row (.slice (av33) (ny + 1) (cv33)) (ny + 1) (csu36) 30 6 :: .blk nb [.int .u8 (1), .string (str (tag)), .string (str (key)), va, .string (str ([] : List UInt8)), .slice (av33) (ny + 1) (cv33)] 30 :: L) _ at M
     refine ⟨Keep Gk31 [], M.keep (Gle.refl _) (by simp), fun w h => h.mono (Gle.refl _) (by simp), ?_⟩
     refine pt_fin <| q_bn <| q_tn ?_
     replace M := M.perm (perm_front _ 3 _ rfl)
     replace M := M.perm (perm_front _ 1 _ rfl)
     replace M := M.perm (perm_front _ 3 _ rfl)
     change Mem w0 Gk31 (_ :: _ :: _ :: _ :: L) _ at M
     exact ⟨_, by omega, f', ik31, ndk31, (acc ++ [xk31]), (av33), (ny + 1), (cv33), (csu36), rfl, Gk31, (hG1.trans hGk31), F.to ⟨rfl, rfl, rfl, trivial⟩, (M.weaken (.cons_cons _ (.cons_cons _ (.cons_cons _ (.cons _ (List.Sublist.refl _)))))), child_more hX (by first | exact Or.inl (by omega) | exact Or.inr (fun h9 => absurd ((pre2 (by omega)).2 h9) (by assumption))) hNk31, by omega, by omega, by omega, by rw [List.length_append, List.length_singleton]; omega, by rw [List.length_append, ← hny]; rfl, by have h_ := Eu36; rw [set_last hny] at h_; exact h_⟩
    exact pt_no
   refine pt_act ?_ rfl ?_
   ·skip
    replace M := M.perm (perm_front _ 2 _ rfl)
    change Mem w0 G1 (_ :: _ :: _ :: _ :: L) _ at M
    change Mem w0 G1 (_ :: _ :: _ :: _ :: L) _ at M
    refine rl_callRd (G := G1) (L := .row (.slice (av30) (1) (cv30)) (1) ([.int .u8 (0), .string (str ([] : List UInt8)), .string (str ([] : List UInt8)), .slice none (0) (0), .string (str ([] : List UInt8)), .slice none (0) (0)]) 30 6 :: .row (.slice (ay) (ny) (cy)) (ny) (csy) 30 6 :: .blk nb [.int .u8 (1), .string (str (tag)), .string (str (key)), va, .string (str ([] : List UInt8)), .slice (ay) (ny) (cy)] 30 :: L) (rb := rb) (s := s) F ent81 (run_callF F ent81 rfl rfl) rfl (ih _ _ _ _ _ (j) (ndj) (lv + 1) _ (by omega) (by omega) hs (by omega) M) (fun e_ w_ G_ i_ nd_ hg_ M_ h_ => finRx (P := Tryz.prog) (fn := Tryz.f104) F (hG1.trans hg_) (M_.weaken (.cons_cons _ (.cons _ (.cons _ (.cons _ (List.Sublist.refl _)))))) (child_no hX (by first | exact Or.inl (by omega) | exact Or.inr (fun h9 => absurd ((pre2 (by omega)).2 h9) (by assumption))) h_)) ?_; clear F M a; rintro v_ Gk37 ik37 ndk37 w a hGk37 M ⟨xk37, tak37, tck37, kak37, kck37, hNk37, rfl, hkk37, hlk37, SAk37, SKk37, hik37, hjk37, hdk37⟩ F
    replace Ey := Ey.mono mono_rdN hGk37
    change Mem w0 Gk37 (.blk rb [.string (str (s)), .int .i64 (((ik37 : Nat) : Int)), .int .i64 (((ndk37 : Nat) : Int))] 122 :: _ :: _ :: _ :: L) _ at M
    refine rl_nil ?_
    change Mem w0 Gk37 (.blk rb [.string (str (s)), .int .i64 (((ik37 : Nat) : Int)), .int .i64 (((ndk37 : Nat) : Int))] 122 :: .row (.slice (av30) (1) (cv30)) (1) ([.int .u8 (0), .string (str ([] : List UInt8)), .string (str ([] : List UInt8)), .slice none (0) (0), .string (str ([] : List UInt8)), .slice none (0) (0)]) 30 6 :: .row (.slice (ay) (ny) (cy)) (ny) (csy) 30 6 :: .blk nb [.int .u8 (1), .string (str (tag)), .string (str (key)), va, .string (str ([] : List UInt8)), .slice (ay) (ny) (cy)] 30 :: L) _ at M
    refine ⟨Keep Gk37 [], M.keep (Gle.refl _) (by simp), fun w h => h.mono hGk37 (by simp), ?_⟩
    refine pt_act ?_ rfl pt_no
    refine rl_run F (run_load1 (agf tok28 rfl) (F.ev rfl) (M.cellL (k := 3) rfl rfl)) rfl ?_; clear F a; intro a F
    refine rl_nil ?_
    change Mem w0 Gk37 (.blk rb [.string (str (s)), .int .i64 (((ik37 : Nat) : Int)), .int .i64 (((ndk37 : Nat) : Int))] 122 :: .row (.slice (av30) (1) (cv30)) (1) ([.int .u8 (0), .string (str ([] : List UInt8)), .string (str ([] : List UInt8)), .slice none (0) (0), .string (str ([] : List UInt8)), .slice none (0) (0)]) 30 6 :: .row (.slice (ay) (ny) (cy)) (ny) (csy) 30 6 :: .blk nb [.int .u8 (1), .string (str (tag)), .string (str (key)), va, .string (str ([] : List UInt8)), .slice (ay) (ny) (cy)] 30 :: L) _ at M
    refine ⟨Keep Gk37 [], M.keep (Gle.refl _) (by simp), fun w h => h.mono (Gle.refl _) (by simp), ?_⟩
    refine pt_run F (fun w M => run_lenSl tok28.k (F.ev rfl)) rfl ?_; clear F a; intro a F
    have E38 : Els rdN 6 Gk37 [.int .u8 (0), .string (str ([] : List UInt8)), .string (str ([] : List UInt8)), .slice none (0) (0), .string (str ([] : List UInt8)), .slice none (0) (0)] [zeroN] := Els.one (rdT_close (x := zeroN) ⟨by decide, by decide⟩ ⟨by decide, by decide, by decide⟩ RdSl.nil RdSl.nil) rfl
    refine pt_act ?_ rfl pt_no
    refine rl_append_row F M (k := 2) (k2 := 1) rfl rfl tok28.k tok30 rfl rfl (by decide) rfl rfl (by show _ * 104 ≤ _; (try simp only [List.length_drop, List.length_take, List.length_append, List.length_cons, List.length_nil]); omega) (by (try simp only [List.length_drop, List.length_take, List.length_append, List.length_cons, List.length_nil]); omega) rfl ?_; clear F M a; intro v39 w a M F
    have Ev39 := Els.append Ey E38
    obtain ⟨av39, cv39, rfl, hlev39, hcmv39, hlv39⟩ := M.row_shape (k := 2) rfl
    refine rl_nil ?_
    change Mem w0 Gk37 (.blk rb [.string (str (s)), .int .i64 (((ik37 : Nat) : Int)), .int .i64 (((ndk37 : Nat) : Int))] 122 :: .row (.slice (av30) (1) (cv30)) (1) ([.int .u8 (0), .string (str ([] : List UInt8)), .string (str ([] : List UInt8)), .slice none (0) (0), .string (str ([] : List UInt8)), .slice none (0) (0)]) 30 6 :: .row (.slice (av39) (ny + 1) (cv39)) (ny + 1) (csy ++ ([.int .u8 (0), .string (str ([] : List UInt8)), .string (str ([] : List UInt8)), .slice none (0) (0), .string (str ([] : List UInt8)), .slice none (0) (0)])) 30 6 :: .blk nb [.int .u8 (1), .string (str (tag)), .string (str (key)), va, .string (str ([] : List UInt8)), .slice (ay) (ny) (cy)] 30 :: L) _ at M
    refine ⟨Keep Gk37 [], M.keep (Gle.refl _) (by simp), fun w h => h.mono (Gle.refl _) (by simp), ?_⟩
    obtain ⟨Xe40, hXe40⟩ := get_of_lt (xs := acc ++ ([zeroN])) (i := ny) (by rw [List.length_append, List.length_singleton]; omega)
    obtain ⟨be40, _, Ie40, hme40, _, Ae40, hTe40⟩ := M.atRow (k := 2) rfl (by decide) Ev39 hXe40
    obtain ⟨tae40, tce40, kae40, kce40, rfl, hke40, hle40, SAe40, SKe40⟩ := rdT_open hTe40
    refine pt_run F (fun w M => run_indexI tok28.k tok30 (F.ev rfl) (F.ev rfl) (by omega) Ie40) rfl ?_; clear F a; intro a F
    refine pt_run F (fun w M => run_nilCheck (F.ev rfl)) rfl ?_; clear F a; intro a F
    refine pt_run F (fun w M => run_fieldAddr tok30.k rfl rfl (F.ev rfl)) rfl ?_; clear F a; intro a F
    refine pt_act ?_ rfl ?_
    ·skip
     refine rl_storeEl F M tok30 (k := 2) rfl rfl Ev39 Ie40 (lt_of_get hXe40) rfl rfl (us := [.int .u8 (xk37.kind), .string (str (xk37.tag)), .string (str (xk37.key)), .slice (tak37) (xk37.as.length) (tck37), .string (str (xk37.text)), .slice (kak37) (xk37.kids.length) (kck37)]) rfl rfl (by simp [Value.oneCell']) (X' := xk37) (rdT_close (x := xk37) hkk37 hlk37 SAk37 SKk37) ?_; clear F M a; intro csu41 w a M Eu41 F
     refine rl_nil ?_
     change Mem w0 Gk37 (.blk rb [.string (str (s)), .int .i64 (((ik37 : Nat) : Int)), .int .i64 (((ndk37 : Nat) : Int))] 122 :: .row (.slice (av30) (1) (cv30)) (1) ([.int .u8 (0), .string (str ([] : List UInt8)), .string (str ([] : List UInt8)), .slice none (0) (0), .string (str ([] : List UInt8)), .slice none (0) (0)]) 30 6 :: .row (.slice (av39) (ny + 1) (cv39)) (ny + 1) (csu41) 30 6 :: .blk nb [.int .u8 (1), .string (str (tag)), .string (str (key)), va, .string (str ([] : List UInt8)), .slice (ay) (ny) (cy)] 30 :: L) _ at M
     refine ⟨Keep Gk37 [], M.keep (Gle.refl _) (by simp), fun w h => h.mono (Gle.refl _) (by simp), ?_⟩
     refine pt_act ?_ rfl pt_no
     refine rl_store1 F M tok28 rfl (k := 3) rfl rfl rfl rfl rfl ?_; clear F M a; intro w a M F
     refine rl_nil ?_
     change Mem w0 Gk37 (.blk rb [.string (str (s)), .int .i64 (((ik37 : Nat) : Int)), .int .i64 (((ndk37 : Nat) : Int))] 122 :: .row (.slice (av30) (1) (cv30)) (1) ([.int .u8 (0), .string (str ([] : List UInt8)), .string (str ([] : List UInt8)), .slice none (0) (0), .string (str ([] : List UInt8)), .slice none (0) (0)]) 30 6 :: .row (.slice (av39) (ny + 1) (cv39)) (ny + 1) (csu41) 30 6 :: .blk nb [.int .u8 (1), .string (str (tag)), .string (str (key)), va, .string (str ([] : List UInt8)), .slice (av39) (ny + 1) (cv39)] 30 :: L) _ at M
     refine ⟨Keep Gk37 [], M.keep (Gle.refl _) (by simp), fun w h => h.mono (Gle.refl _) (by simp), ?_⟩
     refine pt_fin <| q_bn <| q_tn ?_
     replace M := M.perm (perm_front _ 3 _ rfl)
     replace M := M.perm (perm_front _ 1 _ rfl)
     replace M := M.perm (perm_front _ 3 _ rfl)
     change Mem w0 Gk37 (_ :: _ :: .blk nb [.int .u8 (1), .string (str (tag)), .string (str (key)), va, .string (str ([] : List UInt8)), .slice (av39) (ny + 1) (cv39)] 30 :: _ :: L) _ at M
     exact ⟨_, by omega, f', ik37, ndk37, (acc ++ [xk37]), (av39), (ny + 1), (cv39), (csu41), rfl, Gk37, (hG1.trans hGk37), F.to ⟨rfl, rfl, rfl, trivial⟩, (M.weaken (.cons_cons _ (.cons_cons _ (.cons_cons _ (.cons _ (List.Sublist.refl _)))))), child_more hX (by first | exact Or.inl (by omega) | exact Or.inr (fun h9 => absurd ((pre2 (by omega)).2 h9) (by assumption))) hNk37, by omega, by omega, by omega, by rw [List.length_append, List.length_singleton]; omega, by rw [List.length_append, ← hny]; rfl, by have h_ := Eu41; rw [set_last hny] at h_; exact h_⟩
    refine pt_act ?_ rfl ?_
    ·skip
     refine rl_store1 F M tok28 rfl (k := 3) rfl rfl rfl rfl rfl ?_; clear F M a; intro w a M F
     refine rl_nil ?_
     change Mem w0 Gk37 (.blk rb [.string (str (s)), .int .i64 (((ik37 : Nat) : Int)), .int .i64 (((ndk37 : Nat) : Int))] 122 :: .row (.slice (av30) (1) (cv30)) (1) ([.int .u8 (0), .string (str ([] : List UInt8)), .string (str ([] : List UInt8)), .slice none (0) (0), .string (str ([] : List UInt8)), .slice none (0) (0)]) 30 6 :: .row (.slice (av39) (ny + 1) (cv39)) (ny + 1) (csy ++ ([.int .u8 (0), .string (str ([] : List UInt8)), .string (str ([] : List UInt8)), .slice none (0) (0), .string (str ([] : List UInt8)), .slice none (0) (0)])) 30 6 :: .blk nb [.int .u8 (1), .string (str (tag)), .string (str (key)), va, .string (str ([] : List UInt8)), .slice (av39) (ny + 1) (cv39)] 30 :: L) _ at M
     refine ⟨Keep Gk37 [], M.keep (Gle.refl _) (by simp), fun w h => h.mono (Gle.refl _) (by simp), ?_⟩
     refine pt_act ?_ rfl pt_no
     refine rl_storeEl F M tok30 (k := 2) rfl rfl Ev39 Ie40 (lt_of_get hXe40) rfl rfl (us := [.int .u8 (xk37.kind), .string (str (xk37.tag)), .string (str (xk37.key)), .slice (tak37) (xk37.as.length) (tck37), .string (str (xk37.text)), .slice (kak37) (xk37.kids.length) (kck37)]) rfl rfl (by simp [Value.oneCell']) (X' := xk37) (rdT_close (x := xk37) hkk37 hlk37 SAk37 SKk37) ?_; clear F M a; intro csu42 w a M Eu42 F
     refine rl_nil ?_
     change Mem w0 Gk37 (.blk rb [.string (str (s)), .int .i64 (((ik37 : Nat) : Int)), .int .i64 (((ndk37 : Nat) : Int))] 122 :: .row (.slice (av30) (1) (cv30)) (1) ([.int .u8 (0), .string (str ([] : List UInt8)), .string (str ([] : List UInt8)), .slice none (0) (0), .string (str ([] : List UInt8)), .slice none (0) (0)]) 30 6 :: .row (.slice (av39) (ny + 1) (cv39)) (ny + 1) (csu42) 30 6 :: .blk nb [.int .u8 (1), .string (str (tag)), .string (str (key)), va, .string (str ([] : List UInt8)), .slice (av39) (ny + 1) (cv39)] 30 :: L) _ at M
     refine ⟨Keep Gk37 [], M.keep (Gle.refl _) (by simp), fun w h => h.mono (Gle.refl _) (by simp), ?_⟩
     refine pt_fin <| q_bn <| q_tn ?_
     replace M := M.perm (perm_front _ 3 _ rfl)
     replace M := M.perm (perm_front _ 1 _ rfl)
     replace M := M.perm (perm_front _ 3 _ rfl)
     change Mem w0 Gk37 (_ :: _ :: _ :: _ :: L) _ at M
     exact ⟨_, by omega, f', ik37, ndk37, (acc ++ [xk37]), (av39), (ny + 1), (cv39), (csu42), rfl, Gk37, (hG1.trans hGk37), F.to ⟨rfl, rfl, rfl, trivial⟩, (M.weaken (.cons_cons _ (.cons_cons _ (.cons_cons _ (.cons _ (List.Sublist.refl _)))))), child_more hX (by first | exact Or.inl (by omega) | exact Or.inr (fun h9 => absurd ((pre2 (by omega)).2 h9) (by assumption))) hNk37, by omega, by omega, by omega, by rw [List.length_append, List.length_singleton]; omega, by rw [List.length_append, ← hny]; rfl, by have h_ := Eu42; rw [set_last hny] at h_; exact h_⟩
    exact pt_no
   exact pt_no
  exact pt_no
 ·skip
  have h43b := hc; clear hc
  have h43 : ¬ (((ny : Nat) : Int) = 0) := of_decide_eq_false h43b
  refine pk_free_g F rfl rfl h43b (fun w _ => run_move (F.ev rfl)) rfl ?_; clear F a; intro a F
  refine pk_free_g F rfl rfl h43b (fun w _ => run_nilCheck (F.ev rfl)) rfl ?_; clear F a; intro a F
  refine pk_free_g F rfl rfl h43b (fun w _ => run_fieldAddr tok122.k rfl rfl (F.ev rfl)) rfl ?_; clear F a; intro a F
  refine pk_pure_g F rfl rfl h43b (fun w M => run_load1 (agf tok9 rfl) (F.ev rfl) (M.cellL (k := 1) rfl rfl)) rfl ?_; clear F a; intro a F
  refine pk_free_g F rfl rfl h43b (fun w _ => run_move (F.ev rfl)) rfl ?_; clear F a; intro a F
  refine pk_free_g F rfl rfl h43b (fun w _ => run_nilCheck (F.ev rfl)) rfl ?_; clear F a; intro a F
  refine pk_free_g F rfl rfl h43b (fun w _ => run_fieldAddr tok122.k rfl rfl (F.ev rfl)) rfl ?_; clear F a; intro a F
  refine pk_pure_g F rfl rfl h43b (fun w M => run_load1 (agf tok3 rfl) (F.ev rfl) (M.cellL (k := 1) rfl rfl)) rfl ?_; clear F a; intro a F
  refine pk_free_g F rfl rfl h43b (fun w _ => run_strSlice (a := j) (b := (s).length) (kb := .i64) (zb := 0) tok9.k (F.ev rfl) ⟨(F.ev rfl), by omega⟩ rfl (by omega) (by omega)) rfl ?_; clear F a; intro a F
  have hsl44 : (s.take ((s).length)).drop (j) = s.drop (j) := by rw [List.take_length]
  rw [hsl44] at F
  refine pk_keep_g F rfl rfl h43b ?_
  refine rl_guard_t F rfl rfl rfl h43b ?_
  refine rl_callS F ent120 rfl rfl (hasp_spec (z := s.drop (j)) M (by simp only [List.length_drop]; omega)) ?_; clear F M a; rintro _ w a M rfl F
  refine rl_nil ?_
  change Mem w0 G1 (.row (.slice (ay) (ny) (cy)) (ny) (csy) 30 6 :: .blk rb [.string (str (s)), .int .i64 (((j : Nat) : Int)), .int .i64 (((ndj : Nat) : Int))] 122 :: .blk nb [.int .u8 (1), .string (str (tag)), .string (str (key)), va, .string (str ([] : List UInt8)), .slice (ay) (ny) (cy)] 30 :: L) _ at M
  refine ⟨Keep G1 [.row (.slice (ay) (ny) (cy)) (ny) (csy) 30 6, .blk rb [.string (str (s)), .int .i64 (((j : Nat) : Int)), .int .i64 (((ndj : Nat) : Int))] 122, .blk nb [.int .u8 (1), .string (str (tag)), .string (str (key)), va, .string (str ([] : List UInt8)), .slice (ay) (ny) (cy)] 30], M.keep (Gle.refl _) (by simp), fun w h => h.mono (Gle.refl _) (by simp), ?_⟩
  refine pk_free_g F rfl rfl h43b (fun w _ => run_not (F.ev rfl)) rfl ?_; clear F a; intro a F
  refine pk_free F (fun w _ => run_pick_f (F.ev rfl) h43b (F.ev rfl)) rfl ?_; clear F a; intro a F
  refine pk_nil <| q_tn <| w_cond F rfl ?_ ?_
  ·intro hc
   have h45b := hc; clear hc
   have h45 : ¬ ((s.drop (j)).take 2 = [60, 47]) := of_decide_eq_false (of_not_t h45b)
   have h45c : (decide ((s.drop (j)).take 2 = [60, 47])) = false := (of_not_t h45b)
   refine wp_skip <| q_tn <| wp_block <| w_tree (.run 0 (.run 1 (.run 2 (.run 4 (.run 5 (.run 6 (.act 3 (.run 8 (.act 7 (.act 9 (.act 10 (.run 11 (.run 13 (.run 14 (.act 12 (.act 15 .fin .no) (.act 15 (.act 12 .fin .no) .no))))) .no) .no) (.act 9 (.act 7 (.act 10 (.run 11 (.run 13 (.run 14 (.act 12 (.act 15 .fin .no) (.act 15 (.act 12 .fin .no) .no))))) .no) .no) .no))) (.act 7 (.act 3 (.run 8 (.act 9 (.act 10 (.run 11 (.run 13 (.run 14 (.act 12 (.act 15 .fin .no) (.act 15 (.act 12 .fin .no) .no))))) .no) .no)) (.act 9 (.act 3 (.run 8 (.act 10 (.run 11 (.run 13 (.run 14 (.act 12 (.act 15 .fin .no) (.act 15 (.act 12 .fin .no) .no))))) .no)) .no) .no)) (.act 9 (.act 3 (.run 8 (.act 7 (.act 10 (.run 11 (.run 13 (.run 14 (.act 12 (.act 15 .fin .no) (.act 15 (.act 12 .fin .no) .no))))) .no) .no)) (.act 7 (.act 3 (.run 8 (.act 10 (.run 11 (.run 13 (.run 14 (.act 12 (.act 15 .fin .no) (.act 15 (.act 12 .fin .no) .no))))) .no)) .no) .no)) .no))))))))) (Keep G1 []) rfl (by kernel_rfl) (fun c a d v w h => by cases d <;> exact h) ((M.drew _).keep (Gle.refl _) (by simp)) ?_
   replace M := M.drew (w.drawn + 1)
   refine pt_run F (fun w M => run_move (F.ev rfl)) rfl ?_; clear F a; intro a F
   refine pt_run F (fun w M => run_nilCheck (F.ev rfl)) rfl ?_; clear F a; intro a F
   refine pt_run F (fun w M => run_fieldAddr tok30.k rfl rfl (F.ev rfl)) rfl ?_; clear F a; intro a F
   iterate 2 (refine pt_run F (fun w M => run_move (F.ev rfl)) rfl ?_; clear F a; intro a F)
   refine pt_run F (fun w M => run_addi (F.ev rfl) (F.ev rfl) (in_i64 (by omega) (by omega))) rfl ?_; clear F a; intro a F
   refine pt_act ?_ rfl ?_
   ·skip
    refine rl_run F (run_load1 (agf tok28 rfl) (F.ev rfl) (M.cellL (k := 2) rfl rfl)) rfl ?_; clear F a; intro a F
    refine rl_nil ?_
    change Mem w0 G1 (.row (.slice (ay) (ny) (cy)) (ny) (csy) 30 6 :: .blk rb [.string (str (s)), .int .i64 (((j : Nat) : Int)), .int .i64 (((ndj : Nat) : Int))] 122 :: .blk nb [.int .u8 (1), .string (str (tag)), .string (str (key)), va, .string (str ([] : List UInt8)), .slice (ay) (ny) (cy)] 30 :: L) _ at M
    refine ⟨Keep G1 [], M.keep (Gle.refl _) (by simp), fun w h => h.mono (Gle.refl _) (by simp), ?_⟩
    refine pt_run F (fun w M => run_lenSl tok28.k (F.ev rfl)) rfl ?_; clear F a; intro a F
    refine pt_act ?_ rfl ?_
    ·skip
     replace M := M.perm (perm_front _ 1 _ rfl)
     change Mem w0 G1 (_ :: _ :: _ :: L) _ at M
     change Mem w0 G1 (_ :: _ :: _ :: L) _ at M
     refine rl_callRd (G := G1) (L := .row (.slice (ay) (ny) (cy)) (ny) (csy) 30 6 :: .blk nb [.int .u8 (1), .string (str (tag)), .string (str (key)), va, .string (str ([] : List UInt8)), .slice (ay) (ny) (cy)] 30 :: L) (rb := rb) (s := s) F ent81 (run_callF F ent81 rfl rfl) rfl (ih _ _ _ _ _ (j) (ndj) (lv + 1) _ (by omega) (by omega) hs (by omega) M) (fun e_ w_ G_ i_ nd_ hg_ M_ h_ => finRx (P := Tryz.prog) (fn := Tryz.f104) F (hG1.trans hg_) (M_.weaken (.cons_cons _ (.cons _ (.cons _ (List.Sublist.refl _))))) (child_no hX (by first | exact Or.inl (by omega) | exact Or.inr (fun h9 => absurd ((pre2 (by omega)).2 h9) (by assumption))) h_)) ?_; clear F M a; rintro v_ Gk46 ik46 ndk46 w a hGk46 M ⟨xk46, tak46, tck46, kak46, kck46, hNk46, rfl, hkk46, hlk46, SAk46, SKk46, hik46, hjk46, hdk46⟩ F
     replace Ey := Ey.mono mono_rdN hGk46
     change Mem w0 Gk46 (.blk rb [.string (str (s)), .int .i64 (((ik46 : Nat) : Int)), .int .i64 (((ndk46 : Nat) : Int))] 122 :: _ :: _ :: L) _ at M
     refine rl_nil ?_
     change Mem w0 Gk46 (.blk rb [.string (str (s)), .int .i64 (((ik46 : Nat) : Int)), .int .i64 (((ndk46 : Nat) : Int))] 122 :: .row (.slice (ay) (ny) (cy)) (ny) (csy) 30 6 :: .blk nb [.int .u8 (1), .string (str (tag)), .string (str (key)), va, .string (str ([] : List UInt8)), .slice (ay) (ny) (cy)] 30 :: L) _ at M
     refine ⟨Keep Gk46 [], M.keep (Gle.refl _) (by simp), fun w h => h.mono hGk46 (by simp), ?_⟩
     refine pt_act ?_ rfl pt_no
     refine rl_buildSlice1 F M tok28.k tok30 rfl rfl (cs := [.int .u8 (0), .string (str ([] : List UInt8)), .string (str ([] : List UInt8)), .slice none (0) (0), .string (str ([] : List UInt8)), .slice none (0) (0)]) rfl rfl (by simp [Value.oneCell']) (by decide) rfl ?_; clear F M a; intro v47 w a M F
     obtain ⟨av47, cv47, rfl, hlev47, hcmv47, hlv47⟩ := M.row_shape (k := 0) rfl
     refine rl_nil ?_
     change Mem w0 Gk46 (.row (.slice (av47) (1) (cv47)) (1) ([.int .u8 (0), .string (str ([] : List UInt8)), .string (str ([] : List UInt8)), .slice none (0) (0), .string (str ([] : List UInt8)), .slice none (0) (0)]) 30 6 :: .blk rb [.string (str (s)), .int .i64 (((ik46 : Nat) : Int)), .int .i64 (((ndk46 : Nat) : Int))] 122 :: .row (.slice (ay) (ny) (cy)) (ny) (csy) 30 6 :: .blk nb [.int .u8 (1), .string (str (tag)), .string (str (key)), va, .string (str ([] : List UInt8)), .slice (ay) (ny) (cy)] 30 :: L) _ at M
     refine ⟨Keep Gk46 [], M.keep (Gle.refl _) (by simp), fun w h => h.mono (Gle.refl _) (by simp), ?_⟩
     have E48 : Els rdN 6 Gk46 [.int .u8 (0), .string (str ([] : List UInt8)), .string (str ([] : List UInt8)), .slice none (0) (0), .string (str ([] : List UInt8)), .slice none (0) (0)] [zeroN] := Els.one (rdT_close (x := zeroN) ⟨by decide, by decide⟩ ⟨by decide, by decide, by decide⟩ RdSl.nil RdSl.nil) rfl
     refine pt_act ?_ rfl pt_no
     refine rl_append_row F M (k := 2) (k2 := 0) rfl rfl tok28.k tok30 rfl rfl (by decide) rfl rfl (by show _ * 104 ≤ _; (try simp only [List.length_drop, List.length_take, List.length_append, List.length_cons, List.length_nil]); omega) (by (try simp only [List.length_drop, List.length_take, List.length_append, List.length_cons, List.length_nil]); omega) rfl ?_; clear F M a; intro v49 w a M F
     have Ev49 := Els.append Ey E48
     obtain ⟨av49, cv49, rfl, hlev49, hcmv49, hlv49⟩ := M.row_shape (k := 2) rfl
     refine rl_nil ?_
     change Mem w0 Gk46 (.row (.slice (av47) (1) (cv47)) (1) ([.int .u8 (0), .string (str ([] : List UInt8)), .string (str ([] : List UInt8)), .slice none (0) (0), .string (str ([] : List UInt8)), .slice none (0) (0)]) 30 6 :: .blk rb [.string (str (s)), .int .i64 (((ik46 : Nat) : Int)), .int .i64 (((ndk46 : Nat) : Int))] 122 :: .row (.slice (av49) (ny + 1) (cv49)) (ny + 1) (csy ++ ([.int .u8 (0), .string (str ([] : List UInt8)), .string (str ([] : List UInt8)), .slice none (0) (0), .string (str ([] : List UInt8)), .slice none (0) (0)])) 30 6 :: .blk nb [.int .u8 (1), .string (str (tag)), .string (str (key)), va, .string (str ([] : List UInt8)), .slice (ay) (ny) (cy)] 30 :: L) _ at M
     refine ⟨Keep Gk46 [], M.keep (Gle.refl _) (by simp), fun w h => h.mono (Gle.refl _) (by simp), ?_⟩
     obtain ⟨Xe50, hXe50⟩ := get_of_lt (xs := acc ++ ([zeroN])) (i := ny) (by rw [List.length_append, List.length_singleton]; omega)
     obtain ⟨be50, _, Ie50, hme50, _, Ae50, hTe50⟩ := M.atRow (k := 2) rfl (by decide) Ev49 hXe50
     obtain ⟨tae50, tce50, kae50, kce50, rfl, hke50, hle50, SAe50, SKe50⟩ := rdT_open hTe50
     refine pt_run F (fun w M => run_indexI tok28.k tok30 (F.ev rfl) (F.ev rfl) (by omega) Ie50) rfl ?_; clear F a; intro a F
     refine pt_run F (fun w M => run_nilCheck (F.ev rfl)) rfl ?_; clear F a; intro a F
     refine pt_run F (fun w M => run_fieldAddr tok30.k rfl rfl (F.ev rfl)) rfl ?_; clear F a; intro a F
     refine pt_act ?_ rfl ?_
     ·skip
      refine rl_storeEl F M tok30 (k := 2) rfl rfl Ev49 Ie50 (lt_of_get hXe50) rfl rfl (us := [.int .u8 (xk46.kind), .string (str (xk46.tag)), .string (str (xk46.key)), .slice (tak46) (xk46.as.length) (tck46), .string (str (xk46.text)), .slice (kak46) (xk46.kids.length) (kck46)]) rfl rfl (by simp [Value.oneCell']) (X' := xk46) (rdT_close (x := xk46) hkk46 hlk46 SAk46 SKk46) ?_; clear F M a; intro csu51 w a M Eu51 F
      refine rl_nil ?_
      change Mem w0 Gk46 (.row (.slice (av47) (1) (cv47)) (1) ([.int .u8 (0), .string (str ([] : List UInt8)), .string (str ([] : List UInt8)), .slice none (0) (0), .string (str ([] : List UInt8)), .slice none (0) (0)]) 30 6 :: .blk rb [.string (str (s)), .int .i64 (((ik46 : Nat) : Int)), .int .i64 (((ndk46 : Nat) : Int))] 122 :: .row (.slice (av49) (ny + 1) (cv49)) (ny + 1) (csu51) 30 6 :: .blk nb [.int .u8 (1), .string (str (tag)), .string (str (key)), va, .string (str ([] : List UInt8)), .slice (ay) (ny) (cy)] 30 :: L) _ at M
      refine ⟨Keep Gk46 [], M.keep (Gle.refl _) (by simp), fun w h => h.mono (Gle.refl _) (by simp), ?_⟩
      refine pt_act ?_ rfl pt_no
      refine rl_store1 F M tok28 rfl (k := 3) rfl rfl rfl rfl rfl ?_; clear F M a; intro w a M F
      refine rl_nil ?_
      change Mem w0 Gk46 (.row (.slice (av47) (1) (cv47)) (1) ([.int .u8 (0), .string (str ([] : List UInt8)), .string (str ([] : List UInt8)), .slice none (0) (0), .string (str ([] : List UInt8)), .slice none (0) (0)]) 30 6 :: .blk rb [.string (str (s)), .int .i64 (((ik46 : Nat) : Int)), .int .i64 (((ndk46 : Nat) : Int))] 122 :: .row (.slice (av49) (ny + 1) (cv49)) (ny + 1) (csu51) 30 6 :: .blk nb [.int .u8 (1), .string (str (tag)), .string (str (key)), va, .string (str ([] : List UInt8)), .slice (av49) (ny + 1) (cv49)] 30 :: L) _ at M
      refine ⟨Keep Gk46 [], M.keep (Gle.refl _) (by simp), fun w h => h.mono (Gle.refl _) (by simp), ?_⟩
      refine pt_fin <| q_bn <| q_tn ?_
      replace M := M.perm (perm_front _ 3 _ rfl)
      replace M := M.perm (perm_front _ 2 _ rfl)
      replace M := M.perm (perm_front _ 3 _ rfl)
      change Mem w0 Gk46 (_ :: _ :: .blk nb [.int .u8 (1), .string (str (tag)), .string (str (key)), va, .string (str ([] : List UInt8)), .slice (av49) (ny + 1) (cv49)] 30 :: _ :: L) _ at M
      exact ⟨_, by omega, f', ik46, ndk46, (acc ++ [xk46]), (av49), (ny + 1), (cv49), (csu51), rfl, Gk46, (hG1.trans hGk46), F.to ⟨rfl, rfl, rfl, trivial⟩, (M.weaken (.cons_cons _ (.cons_cons _ (.cons_cons _ (.cons _ (List.Sublist.refl _)))))), child_more hX (by first | exact Or.inl (by omega) | exact Or.inr (fun h9 => absurd ((pre2 (by omega)).2 h9) (by assumption))) hNk46, by omega, by omega, by omega, by rw [List.length_append, List.length_singleton]; omega, by rw [List.length_append, ← hny]; rfl, by have h_ := Eu51; rw [set_last hny] at h_; exact h_⟩
     refine pt_act ?_ rfl ?_
     ·skip
      refine rl_store1 F M tok28 rfl (k := 3) rfl rfl rfl rfl rfl ?_; clear F M a; intro w a M F
      refine rl_nil ?_
      change Mem w0 Gk46 (.row (.slice (av47) (1) (cv47)) (1) ([.int .u8 (0), .string (str ([] : List UInt8)), .string (str ([] : List UInt8)), .slice none (0) (0), .string (str ([] : List UInt8)), .slice none (0) (0)]) 30 6 :: .blk rb [.string (str (s)), .int .i64 (((ik46 : Nat) : Int)), .int .i64 (((ndk46 : Nat) : Int))] 122 :: .row (.slice (av49) (ny + 1) (cv49)) (ny + 1) (csy ++ ([.int .u8 (0), .string (str ([] : List UInt8)), .string (str ([] : List UInt8)), .slice none (0) (0), .string (str ([] : List UInt8)), .slice none (0) (0)])) 30 6 :: .blk nb [.int .u8 (1), .string (str (tag)), .string (str (key)), va, .string (str ([] : List UInt8)), .slice (av49) (ny + 1) (cv49)] 30 :: L) _ at M
      refine ⟨Keep Gk46 [], M.keep (Gle.refl _) (by simp), fun w h => h.mono (Gle.refl _) (by simp), ?_⟩
      refine pt_act ?_ rfl pt_no
      refine rl_storeEl F M tok30 (k := 2) rfl rfl Ev49 Ie50 (lt_of_get hXe50) rfl rfl (us := [.int .u8 (xk46.kind), .string (str (xk46.tag)), .string (str (xk46.key)), .slice (tak46) (xk46.as.length) (tck46), .string (str (xk46.text)), .slice (kak46) (xk46.kids.length) (kck46)]) rfl rfl (by simp [Value.oneCell']) (X' := xk46) (rdT_close (x := xk46) hkk46 hlk46 SAk46 SKk46) ?_; clear F M a; intro csu52 w a M Eu52 F
      refine rl_nil ?_
      change Mem w0 Gk46 (.row (.slice (av47) (1) (cv47)) (1) ([.int .u8 (0), .string (str ([] : List UInt8)), .string (str ([] : List UInt8)), .slice none (0) (0), .string (str ([] : List UInt8)), .slice none (0) (0)]) 30 6 :: .blk rb [.string (str (s)), .int .i64 (((ik46 : Nat) : Int)), .int .i64 (((ndk46 : Nat) : Int))] 122 :: .row (.slice (av49) (ny + 1) (cv49)) (ny + 1) (csu52) 30 6 :: .blk nb [.int .u8 (1), .string (str (tag)), .string (str (key)), va, .string (str ([] : List UInt8)), .slice (av49) (ny + 1) (cv49)] 30 :: L) _ at M
      refine ⟨Keep Gk46 [], M.keep (Gle.refl _) (by simp), fun w h => h.mono (Gle.refl _) (by simp), ?_⟩
      refine pt_fin <| q_bn <| q_tn ?_
      replace M := M.perm (perm_front _ 3 _ rfl)
      replace M := M.perm (perm_front _ 2 _ rfl)
      replace M := M.perm (perm_front _ 3 _ rfl)
      change Mem w0 Gk46 (_ :: _ :: _ :: _ :: L) _ at M
      exact ⟨_, by omega, f', ik46, ndk46, (acc ++ [xk46]), (av49), (ny + 1), (cv49), (csu52), rfl, Gk46, (hG1.trans hGk46), F.to ⟨rfl, rfl, rfl, trivial⟩, (M.weaken (.cons_cons _ (.cons_cons _ (.cons_cons _ (.cons _ (List.Sublist.refl _)))))), child_more hX (by first | exact Or.inl (by omega) | exact Or.inr (fun h9 => absurd ((pre2 (by omega)).2 h9) (by assumption))) hNk46, by omega, by omega, by omega, by rw [List.length_append, List.length_singleton]; omega, by rw [List.length_append, ← hny]; rfl, by have h_ := Eu52; rw [set_last hny] at h_; exact h_⟩
     exact pt_no
    refine pt_act ?_ rfl ?_
    ·skip
     refine rl_buildSlice1 F M tok28.k tok30 rfl rfl (cs := [.int .u8 (0), .string (str ([] : List UInt8)), .string (str ([] : List UInt8)), .slice none (0) (0), .string (str ([] : List UInt8)), .slice none (0) (0)]) rfl rfl (by simp [Value.oneCell']) (by decide) rfl ?_; clear F M a; intro v53 w a M F
     obtain ⟨av53, cv53, rfl, hlev53, hcmv53, hlv53⟩ := M.row_shape (k := 0) rfl
     refine rl_nil ?_
     change Mem w0 G1 (.row (.slice (av53) (1) (cv53)) (1) ([.int .u8 (0), .string (str ([] : List UInt8)), .string (str ([] : List UInt8)), .slice none (0) (0), .string (str ([] : List UInt8)), .slice none (0) (0)]) 30 6 :: .row (.slice (ay) (ny) (cy)) (ny) (csy) 30 6 :: .blk rb [.string (str (s)), .int .i64 (((j : Nat) : Int)), .int .i64 (((ndj : Nat) : Int))] 122 :: .blk nb [.int .u8 (1), .string (str (tag)), .string (str (key)), va, .string (str ([] : List UInt8)), .slice (ay) (ny) (cy)] 30 :: L) _ at M
     refine ⟨Keep G1 [], M.keep (Gle.refl _) (by simp), fun w h => h.mono (Gle.refl _) (by simp), ?_⟩
     refine pt_act ?_ rfl pt_no
     replace M := M.perm (perm_front _ 2 _ rfl)
     change Mem w0 G1 (_ :: _ :: _ :: _ :: L) _ at M
     change Mem w0 G1 (_ :: _ :: _ :: _ :: L) _ at M
     refine rl_callRd (G := G1) (L := .row (.slice (av53) (1) (cv53)) (1) ([.int .u8 (0), .string (str ([] : List UInt8)), .string (str ([] : List UInt8)), .slice none (0) (0), .string (str ([] : List UInt8)), .slice none (0) (0)]) 30 6 :: .row (.slice (ay) (ny) (cy)) (ny) (csy) 30 6 :: .blk nb [.int .u8 (1), .string (str (tag)), .string (str (key)), va, .string (str ([] : List UInt8)), .slice (ay) (ny) (cy)] 30 :: L) (rb := rb) (s := s) F ent81 (run_callF F ent81 rfl rfl) rfl (ih _ _ _ _ _ (j) (ndj) (lv + 1) _ (by omega) (by omega) hs (by omega) M) (fun e_ w_ G_ i_ nd_ hg_ M_ h_ => finRx (P := Tryz.prog) (fn := Tryz.f104) F (hG1.trans hg_) (M_.weaken (.cons_cons _ (.cons _ (.cons _ (.cons _ (List.Sublist.refl _)))))) (child_no hX (by first | exact Or.inl (by omega) | exact Or.inr (fun h9 => absurd ((pre2 (by omega)).2 h9) (by assumption))) h_)) ?_; clear F M a; rintro v_ Gk54 ik54 ndk54 w a hGk54 M ⟨xk54, tak54, tck54, kak54, kck54, hNk54, rfl, hkk54, hlk54, SAk54, SKk54, hik54, hjk54, hdk54⟩ F
     replace Ey := Ey.mono mono_rdN hGk54
     change Mem w0 Gk54 (.blk rb [.string (str (s)), .int .i64 (((ik54 : Nat) : Int)), .int .i64 (((ndk54 : Nat) : Int))] 122 :: _ :: _ :: _ :: L) _ at M
     refine rl_nil ?_
     change Mem w0 Gk54 (.blk rb [.string (str (s)), .int .i64 (((ik54 : Nat) : Int)), .int .i64 (((ndk54 : Nat) : Int))] 122 :: .row (.slice (av53) (1) (cv53)) (1) ([.int .u8 (0), .string (str ([] : List UInt8)), .string (str ([] : List UInt8)), .slice none (0) (0), .string (str ([] : List UInt8)), .slice none (0) (0)]) 30 6 :: .row (.slice (ay) (ny) (cy)) (ny) (csy) 30 6 :: .blk nb [.int .u8 (1), .string (str (tag)), .string (str (key)), va, .string (str ([] : List UInt8)), .slice (ay) (ny) (cy)] 30 :: L) _ at M
     refine ⟨Keep Gk54 [], M.keep (Gle.refl _) (by simp), fun w h => h.mono hGk54 (by simp), ?_⟩
     have E55 : Els rdN 6 Gk54 [.int .u8 (0), .string (str ([] : List UInt8)), .string (str ([] : List UInt8)), .slice none (0) (0), .string (str ([] : List UInt8)), .slice none (0) (0)] [zeroN] := Els.one (rdT_close (x := zeroN) ⟨by decide, by decide⟩ ⟨by decide, by decide, by decide⟩ RdSl.nil RdSl.nil) rfl
     refine pt_act ?_ rfl pt_no
     refine rl_append_row F M (k := 2) (k2 := 1) rfl rfl tok28.k tok30 rfl rfl (by decide) rfl rfl (by show _ * 104 ≤ _; (try simp only [List.length_drop, List.length_take, List.length_append, List.length_cons, List.length_nil]); omega) (by (try simp only [List.length_drop, List.length_take, List.length_append, List.length_cons, List.length_nil]); omega) rfl ?_; clear F M a; intro v56 w a M F
     have Ev56 := Els.append Ey E55
     obtain ⟨av56, cv56, rfl, hlev56, hcmv56, hlv56⟩ := M.row_shape (k := 2) rfl
     refine rl_nil ?_
     change Mem w0 Gk54 (.blk rb [.string (str (s)), .int .i64 (((ik54 : Nat) : Int)), .int .i64 (((ndk54 : Nat) : Int))] 122 :: .row (.slice (av53) (1) (cv53)) (1) ([.int .u8 (0), .string (str ([] : List UInt8)), .string (str ([] : List UInt8)), .slice none (0) (0), .string (str ([] : List UInt8)), .slice none (0) (0)]) 30 6 :: .row (.slice (av56) (ny + 1) (cv56)) (ny + 1) (csy ++ ([.int .u8 (0), .string (str ([] : List UInt8)), .string (str ([] : List UInt8)), .slice none (0) (0), .string (str ([] : List UInt8)), .slice none (0) (0)])) 30 6 :: .blk nb [.int .u8 (1), .string (str (tag)), .string (str (key)), va, .string (str ([] : List UInt8)), .slice (ay) (ny) (cy)] 30 :: L) _ at M
     refine ⟨Keep Gk54 [], M.keep (Gle.refl _) (by simp), fun w h => h.mono (Gle.refl _) (by simp), ?_⟩
     obtain ⟨Xe57, hXe57⟩ := get_of_lt (xs := acc ++ ([zeroN])) (i := ny) (by rw [List.length_append, List.length_singleton]; omega)
     obtain ⟨be57, _, Ie57, hme57, _, Ae57, hTe57⟩ := M.atRow (k := 2) rfl (by decide) Ev56 hXe57
     obtain ⟨tae57, tce57, kae57, kce57, rfl, hke57, hle57, SAe57, SKe57⟩ := rdT_open hTe57
     refine pt_run F (fun w M => run_indexI tok28.k tok30 (F.ev rfl) (F.ev rfl) (by omega) Ie57) rfl ?_; clear F a; intro a F
     refine pt_run F (fun w M => run_nilCheck (F.ev rfl)) rfl ?_; clear F a; intro a F
     refine pt_run F (fun w M => run_fieldAddr tok30.k rfl rfl (F.ev rfl)) rfl ?_; clear F a; intro a F
     refine pt_act ?_ rfl ?_
     ·skip
      refine rl_storeEl F M tok30 (k := 2) rfl rfl Ev56 Ie57 (lt_of_get hXe57) rfl rfl (us := [.int .u8 (xk54.kind), .string (str (xk54.tag)), .string (str (xk54.key)), .slice (tak54) (xk54.as.length) (tck54), .string (str (xk54.text)), .slice (kak54) (xk54.kids.length) (kck54)]) rfl rfl (by simp [Value.oneCell']) (X' := xk54) (rdT_close (x := xk54) hkk54 hlk54 SAk54 SKk54) ?_; clear F M a; intro csu58 w a M Eu58 F
      refine rl_nil ?_
      change Mem w0 Gk54 (.blk rb [.string (str (s)), .int .i64 (((ik54 : Nat) : Int)), .int .i64 (((ndk54 : Nat) : Int))] 122 :: .row (.slice (av53) (1) (cv53)) (1) ([.int .u8 (0), .string (str ([] : List UInt8)), .string (str ([] : List UInt8)), .slice none (0) (0), .string (str ([] : List UInt8)), .slice none (0) (0)]) 30 6 :: .row (.slice (av56) (ny + 1) (cv56)) (ny + 1) (csu58) 30 6 :: .blk nb [.int .u8 (1), .string (str (tag)), .string (str (key)), va, .string (str ([] : List UInt8)), .slice (ay) (ny) (cy)] 30 :: L) _ at M
      refine ⟨Keep Gk54 [], M.keep (Gle.refl _) (by simp), fun w h => h.mono (Gle.refl _) (by simp), ?_⟩
      refine pt_act ?_ rfl pt_no
      refine rl_store1 F M tok28 rfl (k := 3) rfl rfl rfl rfl rfl ?_; clear F M a; intro w a M F
      refine rl_nil ?_
      change Mem w0 Gk54 (.blk rb [.string (str (s)), .int .i64 (((ik54 : Nat) : Int)), .int .i64 (((ndk54 : Nat) : Int))] 122 :: .row (.slice (av53) (1) (cv53)) (1) ([.int .u8 (0), .string (str ([] : List UInt8)), .string (str ([] : List UInt8)), .slice none (0) (0), .string (str ([] : List UInt8)), .slice none (0) (0)]) 30 6 :: .row (.slice (av56) (ny + 1) (cv56)) (ny + 1) (csu58) 30 6 :: .blk nb [.int .u8 (1), .string (str (tag)), .string (str (key)), va, .string (str ([] : List UInt8)), .slice (av56) (ny + 1) (cv56)] 30 :: L) _ at M
      refine ⟨Keep Gk54 [], M.keep (Gle.refl _) (by simp), fun w h => h.mono (Gle.refl _) (by simp), ?_⟩
      refine pt_fin <| q_bn <| q_tn ?_
      replace M := M.perm (perm_front _ 3 _ rfl)
      replace M := M.perm (perm_front _ 1 _ rfl)
      replace M := M.perm (perm_front _ 3 _ rfl)
      change Mem w0 Gk54 (_ :: _ :: .blk nb [.int .u8 (1), .string (str (tag)), .string (str (key)), va, .string (str ([] : List UInt8)), .slice (av56) (ny + 1) (cv56)] 30 :: _ :: L) _ at M
      exact ⟨_, by omega, f', ik54, ndk54, (acc ++ [xk54]), (av56), (ny + 1), (cv56), (csu58), rfl, Gk54, (hG1.trans hGk54), F.to ⟨rfl, rfl, rfl, trivial⟩, (M.weaken (.cons_cons _ (.cons_cons _ (.cons_cons _ (.cons _ (List.Sublist.refl _)))))), child_more hX (by first | exact Or.inl (by omega) | exact Or.inr (fun h9 => absurd ((pre2 (by omega)).2 h9) (by assumption))) hNk54, by omega, by omega, by omega, by rw [List.length_append, List.length_singleton]; omega, by rw [List.length_append, ← hny]; rfl, by have h_ := Eu58; rw [set_last hny] at h_; exact h_⟩
     refine pt_act ?_ rfl ?_
     ·skip
      refine rl_store1 F M tok28 rfl (k := 3) rfl rfl rfl rfl rfl ?_; clear F M a; intro w a M F
      refine rl_nil ?_
      change Mem w0 Gk54 (.blk rb [.string (str (s)), .int .i64 (((ik54 : Nat) : Int)), .int .i64 (((ndk54 : Nat) : Int))] 122 :: .row (.slice (av53) (1) (cv53)) (1) ([.int .u8 (0), .string (str ([] : List UInt8)), .string (str ([] : List UInt8)), .slice none (0) (0), .string (str ([] : List UInt8)), .slice none (0) (0)]) 30 6 :: .row (.slice (av56) (ny + 1) (cv56)) (ny + 1) (csy ++ ([.int .u8 (0), .string (str ([] : List UInt8)), .string (str ([] : List UInt8)), .slice none (0) (0), .string (str ([] : List UInt8)), .slice none (0) (0)])) 30 6 :: .blk nb [.int .u8 (1), .string (str (tag)), .string (str (key)), va, .string (str ([] : List UInt8)), .slice (av56) (ny + 1) (cv56)] 30 :: L) _ at M
      refine ⟨Keep Gk54 [], M.keep (Gle.refl _) (by simp), fun w h => h.mono (Gle.refl _) (by simp), ?_⟩
      refine pt_act ?_ rfl pt_no
      refine rl_storeEl F M tok30 (k := 2) rfl rfl Ev56 Ie57 (lt_of_get hXe57) rfl rfl (us := [.int .u8 (xk54.kind), .string (str (xk54.tag)), .string (str (xk54.key)), .slice (tak54) (xk54.as.length) (tck54), .string (str (xk54.text)), .slice (kak54) (xk54.kids.length) (kck54)]) rfl rfl (by simp [Value.oneCell']) (X' := xk54) (rdT_close (x := xk54) hkk54 hlk54 SAk54 SKk54) ?_; clear F M a; intro csu59 w a M Eu59 F
      refine rl_nil ?_
      change Mem w0 Gk54 (.blk rb [.string (str (s)), .int .i64 (((ik54 : Nat) : Int)), .int .i64 (((ndk54 : Nat) : Int))] 122 :: .row (.slice (av53) (1) (cv53)) (1) ([.int .u8 (0), .string (str ([] : List UInt8)), .string (str ([] : List UInt8)), .slice none (0) (0), .string (str ([] : List UInt8)), .slice none (0) (0)]) 30 6 :: .row (.slice (av56) (ny + 1) (cv56)) (ny + 1) (csu59) 30 6 :: .blk nb [.int .u8 (1), .string (str (tag)), .string (str (key)), va, .string (str ([] : List UInt8)), .slice (av56) (ny + 1) (cv56)] 30 :: L) _ at M
      refine ⟨Keep Gk54 [], M.keep (Gle.refl _) (by simp), fun w h => h.mono (Gle.refl _) (by simp), ?_⟩
      refine pt_fin <| q_bn <| q_tn ?_
      replace M := M.perm (perm_front _ 3 _ rfl)
      replace M := M.perm (perm_front _ 1 _ rfl)
      replace M := M.perm (perm_front _ 3 _ rfl)
      change Mem w0 Gk54 (_ :: _ :: _ :: _ :: L) _ at M
      exact ⟨_, by omega, f', ik54, ndk54, (acc ++ [xk54]), (av56), (ny + 1), (cv56), (csu59), rfl, Gk54, (hG1.trans hGk54), F.to ⟨rfl, rfl, rfl, trivial⟩, (M.weaken (.cons_cons _ (.cons_cons _ (.cons_cons _ (.cons _ (List.Sublist.refl _)))))), child_more hX (by first | exact Or.inl (by omega) | exact Or.inr (fun h9 => absurd ((pre2 (by omega)).2 h9) (by assumption))) hNk54, by omega, by omega, by omega, by rw [List.length_append, List.length_singleton]; omega, by rw [List.length_append, ← hny]; rfl, by have h_ := Eu59; rw [set_last hny] at h_; exact h_⟩
     exact pt_no
    exact pt_no
   refine pt_act ?_ rfl ?_
   ·skip
    replace M := M.perm (perm_front _ 1 _ rfl)
    change Mem w0 G1 (_ :: _ :: _ :: L) _ at M
    change Mem w0 G1 (_ :: _ :: _ :: L) _ at M
    refine rl_callRd (G := G1) (L := .row (.slice (ay) (ny) (cy)) (ny) (csy) 30 6 :: .blk nb [.int .u8 (1), .string (str (tag)), .string (str (key)), va, .string (str ([] : List UInt8)), .slice (ay) (ny) (cy)] 30 :: L) (rb := rb) (s := s) F ent81 (run_callF F ent81 rfl rfl) rfl (ih _ _ _ _ _ (j) (ndj) (lv + 1) _ (by omega) (by omega) hs (by omega) M) (fun e_ w_ G_ i_ nd_ hg_ M_ h_ => finRx (P := Tryz.prog) (fn := Tryz.f104) F (hG1.trans hg_) (M_.weaken (.cons_cons _ (.cons _ (.cons _ (List.Sublist.refl _))))) (child_no hX (by first | exact Or.inl (by omega) | exact Or.inr (fun h9 => absurd ((pre2 (by omega)).2 h9) (by assumption))) h_)) ?_; clear F M a; rintro v_ Gk60 ik60 ndk60 w a hGk60 M ⟨xk60, tak60, tck60, kak60, kck60, hNk60, rfl, hkk60, hlk60, SAk60, SKk60, hik60, hjk60, hdk60⟩ F
    replace Ey := Ey.mono mono_rdN hGk60
    change Mem w0 Gk60 (.blk rb [.string (str (s)), .int .i64 (((ik60 : Nat) : Int)), .int .i64 (((ndk60 : Nat) : Int))] 122 :: _ :: _ :: L) _ at M
    refine rl_nil ?_
    change Mem w0 Gk60 (.blk rb [.string (str (s)), .int .i64 (((ik60 : Nat) : Int)), .int .i64 (((ndk60 : Nat) : Int))] 122 :: .row (.slice (ay) (ny) (cy)) (ny) (csy) 30 6 :: .blk nb [.int .u8 (1), .string (str (tag)), .string (str (key)), va, .string (str ([] : List UInt8)), .slice (ay) (ny) (cy)] 30 :: L) _ at M
    refine ⟨Keep Gk60 [], M.keep (Gle.refl _) (by simp), fun w h => h.mono hGk60 (by simp), ?_⟩
    refine pt_act ?_ rfl ?_
    ·skip
     refine rl_run F (run_load1 (agf tok28 rfl) (F.ev rfl) (M.cellL (k := 2) rfl rfl)) rfl ?_; clear F a; intro a F
     refine rl_nil ?_
     change Mem w0 Gk60 (.blk rb [.string (str (s)), .int .i64 (((ik60 : Nat) : Int)), .int .i64 (((ndk60 : Nat) : Int))] 122 :: .row (.slice (ay) (ny) (cy)) (ny) (csy) 30 6 :: .blk nb [.int .u8 (1), .string (str (tag)), .string (str (key)), va, .string (str ([] : List UInt8)), .slice (ay) (ny) (cy)] 30 :: L) _ at M
     refine ⟨Keep Gk60 [], M.keep (Gle.refl _) (by simp), fun w h => h.mono (Gle.refl _) (by simp), ?_⟩
     refine pt_run F (fun w M => run_lenSl tok28.k (F.ev rfl)) rfl ?_; clear F a; intro a F
     refine pt_act ?_ rfl pt_no
     refine rl_buildSlice1 F M tok28.k tok30 rfl rfl (cs := [.int .u8 (0), .string (str ([] : List UInt8)), .string (str ([] : List UInt8)), .slice none (0) (0), .string (str ([] : List UInt8)), .slice none (0) (0)]) rfl rfl (by simp [Value.oneCell']) (by decide) rfl ?_; clear F M a; intro v61 w a M F
     obtain ⟨av61, cv61, rfl, hlev61, hcmv61, hlv61⟩ := M.row_shape (k := 0) rfl
     refine rl_nil ?_
     change Mem w0 Gk60 (.row (.slice (av61) (1) (cv61)) (1) ([.int .u8 (0), .string (str ([] : List UInt8)), .string (str ([] : List UInt8)), .slice none (0) (0), .string (str ([] : List UInt8)), .slice none (0) (0)]) 30 6 :: .blk rb [.string (str (s)), .int .i64 (((ik60 : Nat) : Int)), .int .i64 (((ndk60 : Nat) : Int))] 122 :: .row (.slice (ay) (ny) (cy)) (ny) (csy) 30 6 :: .blk nb [.int .u8 (1), .string (str (tag)), .string (str (key)), va, .string (str ([] : List UInt8)), .slice (ay) (ny) (cy)] 30 :: L) _ at M
     refine ⟨Keep Gk60 [], M.keep (Gle.refl _) (by simp), fun w h => h.mono (Gle.refl _) (by simp), ?_⟩
     have E62 : Els rdN 6 Gk60 [.int .u8 (0), .string (str ([] : List UInt8)), .string (str ([] : List UInt8)), .slice none (0) (0), .string (str ([] : List UInt8)), .slice none (0) (0)] [zeroN] := Els.one (rdT_close (x := zeroN) ⟨by decide, by decide⟩ ⟨by decide, by decide, by decide⟩ RdSl.nil RdSl.nil) rfl
     refine pt_act ?_ rfl pt_no
     refine rl_append_row F M (k := 2) (k2 := 0) rfl rfl tok28.k tok30 rfl rfl (by decide) rfl rfl (by show _ * 104 ≤ _; (try simp only [List.length_drop, List.length_take, List.length_append, List.length_cons, List.length_nil]); omega) (by (try simp only [List.length_drop, List.length_take, List.length_append, List.length_cons, List.length_nil]); omega) rfl ?_; clear F M a; intro v63 w a M F
     have Ev63 := Els.append Ey E62
     obtain ⟨av63, cv63, rfl, hlev63, hcmv63, hlv63⟩ := M.row_shape (k := 2) rfl
     refine rl_nil ?_
     change Mem w0 Gk60 (.row (.slice (av61) (1) (cv61)) (1) ([.int .u8 (0), .string (str ([] : List UInt8)), .string (str ([] : List UInt8)), .slice none (0) (0), .string (str ([] : List UInt8)), .slice none (0) (0)]) 30 6 :: .blk rb [.string (str (s)), .int .i64 (((ik60 : Nat) : Int)), .int .i64 (((ndk60 : Nat) : Int))] 122 :: .row (.slice (av63) (ny + 1) (cv63)) (ny + 1) (csy ++ ([.int .u8 (0), .string (str ([] : List UInt8)), .string (str ([] : List UInt8)), .slice none (0) (0), .string (str ([] : List UInt8)), .slice none (0) (0)])) 30 6 :: .blk nb [.int .u8 (1), .string (str (tag)), .string (str (key)), va, .string (str ([] : List UInt8)), .slice (ay) (ny) (cy)] 30 :: L) _ at M
     refine ⟨Keep Gk60 [], M.keep (Gle.refl _) (by simp), fun w h => h.mono (Gle.refl _) (by simp), ?_⟩
     obtain ⟨Xe64, hXe64⟩ := get_of_lt (xs := acc ++ ([zeroN])) (i := ny) (by rw [List.length_append, List.length_singleton]; omega)
     obtain ⟨be64, _, Ie64, hme64, _, Ae64, hTe64⟩ := M.atRow (k := 2) rfl (by decide) Ev63 hXe64
     obtain ⟨tae64, tce64, kae64, kce64, rfl, hke64, hle64, SAe64, SKe64⟩ := rdT_open hTe64
     refine pt_run F (fun w M => run_indexI tok28.k tok30 (F.ev rfl) (F.ev rfl) (by omega) Ie64) rfl ?_; clear F a; intro a F
     refine pt_run F (fun w M => run_nilCheck (F.ev rfl)) rfl ?_; clear F a; intro a F
     refine pt_run F (fun w M => run_fieldAddr tok30.k rfl rfl (F.ev rfl)) rfl ?_; clear F a; intro a F
     refine pt_act ?_ rfl ?_
     ·skip
      refine rl_storeEl F M tok30 (k := 2) rfl rfl Ev63 Ie64 (lt_of_get hXe64) rfl rfl (us := [.int .u8 (xk60.kind), .string (str (xk60.tag)), .string (str (xk60.key)), .slice (tak60) (xk60.as.length) (tck60), .string (str (xk60.text)), .slice (kak60) (xk60.kids.length) (kck60)]) rfl rfl (by simp [Value.oneCell']) (X' := xk60) (rdT_close (x := xk60) hkk60 hlk60 SAk60 SKk60) ?_; clear F M a; intro csu65 w a M Eu65 F
      refine rl_nil ?_
      change Mem w0 Gk60 (.row (.slice (av61) (1) (cv61)) (1) ([.int .u8 (0), .string (str ([] : List UInt8)), .string (str ([] : List UInt8)), .slice none (0) (0), .string (str ([] : List UInt8)), .slice none (0) (0)]) 30 6 :: .blk rb [.string (str (s)), .int .i64 (((ik60 : Nat) : Int)), .int .i64 (((ndk60 : Nat) : Int))] 122 :: .row (.slice (av63) (ny + 1) (cv63)) (ny + 1) (csu65) 30 6 :: .blk nb [.int .u8 (1), .string (str (tag)), .string (str (key)), va, .string (str ([] : List UInt8)), .slice (ay) (ny) (cy)] 30 :: L) _ at M
      refine ⟨Keep Gk60 [], M.keep (Gle.refl _) (by simp), fun w h => h.mono (Gle.refl _) (by simp), ?_⟩
      refine pt_act ?_ rfl pt_no
      refine rl_store1 F M tok28 rfl (k := 3) rfl rfl rfl rfl rfl ?_; clear F M a; intro w a M F
      refine rl_nil ?_
      change Mem w0 Gk60 (.row (.slice (av61) (1) (cv61)) (1) ([.int .u8 (0), .string (str ([] : List UInt8)), .string (str ([] : List UInt8)), .slice none (0) (0), .string (str ([] : List UInt8)), .slice none (0) (0)]) 30 6 :: .blk rb [.string (str (s)), .int .i64 (((ik60 : Nat) : Int)), .int .i64 (((ndk60 : Nat) : Int))] 122 :: .row (.slice (av63) (ny + 1) (cv63)) (ny + 1) (csu65) 30 6 :: .blk nb [.int .u8 (1), .string (str (tag)), .string (str (key)), va, .string (str ([] : List UInt8)), .slice (av63) (ny + 1) (cv63)] 30 :: L) _ at M
      refine ⟨Keep Gk60 [], M.keep (Gle.refl _) (by simp), fun w h => h.mono (Gle.refl _) (by simp), ?_⟩
      refine pt_fin <| q_bn <| q_tn ?_
      replace M := M.perm (perm_front _ 3 _ rfl)
      replace M := M.perm (perm_front _ 2 _ rfl)
      replace M := M.perm (perm_front _ 3 _ rfl)
      change Mem w0 Gk60 (_ :: _ :: .blk nb [.int .u8 (1), .string (str (tag)), .string (str (key)), va, .string (str ([] : List UInt8)), .slice (av63) (ny + 1) (cv63)] 30 :: _ :: L) _ at M
      exact ⟨_, by omega, f', ik60, ndk60, (acc ++ [xk60]), (av63), (ny + 1), (cv63), (csu65), rfl, Gk60, (hG1.trans hGk60), F.to ⟨rfl, rfl, rfl, trivial⟩, (M.weaken (.cons_cons _ (.cons_cons _ (.cons_cons _ (.cons _ (List.Sublist.refl _)))))), child_more hX (by first | exact Or.inl (by omega) | exact Or.inr (fun h9 => absurd ((pre2 (by omega)).2 h9) (by assumption))) hNk60, by omega, by omega, by omega, by rw [List.length_append, List.length_singleton]; omega, by rw [List.length_append, ← hny]; rfl, by have h_ := Eu65; rw [set_last hny] at h_; exact h_⟩
     refine pt_act ?_ rfl ?_
     ·skip
      refine rl_store1 F M tok28 rfl (k := 3) rfl rfl rfl rfl rfl ?_; clear F M a; intro w a M F
      refine rl_nil ?_
      change Mem w0 Gk60 (.row (.slice (av61) (1) (cv61)) (1) ([.int .u8 (0), .string (str ([] : List UInt8)), .string (str ([] : List UInt8)), .slice none (0) (0), .string (str ([] : List UInt8)), .slice none (0) (0)]) 30 6 :: .blk rb [.string (str (s)), .int .i64 (((ik60 : Nat) : Int)), .int .i64 (((ndk60 : Nat) : Int))] 122 :: .row (.slice (av63) (ny + 1) (cv63)) (ny + 1) (csy ++ ([.int .u8 (0), .string (str ([] : List UInt8)), .string (str ([] : List UInt8)), .slice none (0) (0), .string (str ([] : List UInt8)), .slice none (0) (0)])) 30 6 :: .blk nb [.int .u8 (1), .string (str (tag)), .string (str (key)), va, .string (str ([] : List UInt8)), .slice (av63) (ny + 1) (cv63)] 30 :: L) _ at M
      refine ⟨Keep Gk60 [], M.keep (Gle.refl _) (by simp), fun w h => h.mono (Gle.refl _) (by simp), ?_⟩
      refine pt_act ?_ rfl pt_no
      refine rl_storeEl F M tok30 (k := 2) rfl rfl Ev63 Ie64 (lt_of_get hXe64) rfl rfl (us := [.int .u8 (xk60.kind), .string (str (xk60.tag)), .string (str (xk60.key)), .slice (tak60) (xk60.as.length) (tck60), .string (str (xk60.text)), .slice (kak60) (xk60.kids.length) (kck60)]) rfl rfl (by simp [Value.oneCell']) (X' := xk60) (rdT_close (x := xk60) hkk60 hlk60 SAk60 SKk60) ?_; clear F M a; intro csu66 w a M Eu66 F
      refine rl_nil ?_
      change Mem w0 Gk60 (.row (.slice (av61) (1) (cv61)) (1) ([.int .u8 (0), .string (str ([] : List UInt8)), .string (str ([] : List UInt8)), .slice none (0) (0), .string (str ([] : List UInt8)), .slice none (0) (0)]) 30 6 :: .blk rb [.string (str (s)), .int .i64 (((ik60 : Nat) : Int)), .int .i64 (((ndk60 : Nat) : Int))] 122 :: .row (.slice (av63) (ny + 1) (cv63)) (ny + 1) (csu66) 30 6 :: .blk nb [.int .u8 (1), .string (str (tag)), .string (str (key)), va, .string (str ([] : List UInt8)), .slice (av63) (ny + 1) (cv63)] 30 :: L) _ at M
      refine ⟨Keep Gk60 [], M.keep (Gle.refl _) (by simp), fun w h => h.mono (Gle.refl _) (by simp), ?_⟩
      refine pt_fin <| q_bn <| q_tn ?_
      replace M := M.perm (perm_front _ 3 _ rfl)
      replace M := M.perm (perm_front _ 2 _ rfl)
      replace M := M.perm (perm_front _ 3 _ rfl)
      change Mem w0 Gk60 (_ :: _ :: _ :: _ :: L) _ at M
      exact ⟨_, by omega, f', ik60, ndk60, (acc ++ [xk60]), (av63), (ny + 1), (cv63), (csu66), rfl, Gk60, (hG1.trans hGk60), F.to ⟨rfl, rfl, rfl, trivial⟩, (M.weaken (.cons_cons _ (.cons_cons _ (.cons_cons _ (.cons _ (List.Sublist.refl _)))))), child_more hX (by first | exact Or.inl (by omega) | exact Or.inr (fun h9 => absurd ((pre2 (by omega)).2 h9) (by assumption))) hNk60, by omega, by omega, by omega, by rw [List.length_append, List.length_singleton]; omega, by rw [List.length_append, ← hny]; rfl, by have h_ := Eu66; rw [set_last hny] at h_; exact h_⟩
     exact pt_no
    refine pt_act ?_ rfl ?_
    ·skip
     refine rl_buildSlice1 F M tok28.k tok30 rfl rfl (cs := [.int .u8 (0), .string (str ([] : List UInt8)), .string (str ([] : List UInt8)), .slice none (0) (0), .string (str ([] : List UInt8)), .slice none (0) (0)]) rfl rfl (by simp [Value.oneCell']) (by decide) rfl ?_; clear F M a; intro v67 w a M F
     obtain ⟨av67, cv67, rfl, hlev67, hcmv67, hlv67⟩ := M.row_shape (k := 0) rfl
     refine rl_nil ?_
     change Mem w0 Gk60 (.row (.slice (av67) (1) (cv67)) (1) ([.int .u8 (0), .string (str ([] : List UInt8)), .string (str ([] : List UInt8)), .slice none (0) (0), .string (str ([] : List UInt8)), .slice none (0) (0)]) 30 6 :: .blk rb [.string (str (s)), .int .i64 (((ik60 : Nat) : Int)), .int .i64 (((ndk60 : Nat) : Int))] 122 :: .row (.slice (ay) (ny) (cy)) (ny) (csy) 30 6 :: .blk nb [.int .u8 (1), .string (str (tag)), .string (str (key)), va, .string (str ([] : List UInt8)), .slice (ay) (ny) (cy)] 30 :: L) _ at M
     refine ⟨Keep Gk60 [], M.keep (Gle.refl _) (by simp), fun w h => h.mono (Gle.refl _) (by simp), ?_⟩
     refine pt_act ?_ rfl pt_no
     refine rl_run F (run_load1 (agf tok28 rfl) (F.ev rfl) (M.cellL (k := 3) rfl rfl)) rfl ?_; clear F a; intro a F
     refine rl_nil ?_
     change Mem w0 Gk60 (.row (.slice (av67) (1) (cv67)) (1) ([.int .u8 (0), .string (str ([] : List UInt8)), .string (str ([] : List UInt8)), .slice none (0) (0), .string (str ([] : List UInt8)), .slice none (0) (0)]) 30 6 :: .blk rb [.string (str (s)), .int .i64 (((ik60 : Nat) : Int)), .int .i64 (((ndk60 : Nat) : Int))] 122 :: .row (.slice (ay) (ny) (cy)) (ny) (csy) 30 6 :: .blk nb [.int .u8 (1), .string (str (tag)), .string (str (key)), va, .string (str ([] : List UInt8)), .slice (ay) (ny) (cy)] 30 :: L) _ at M
     refine ⟨Keep Gk60 [], M.keep (Gle.refl _) (by simp), fun w h => h.mono (Gle.refl _) (by simp), ?_⟩
     refine pt_run F (fun w M => run_lenSl tok28.k (F.ev rfl)) rfl ?_; clear F a; intro a F
     have E68 : Els rdN 6 Gk60 [.int .u8 (0), .string (str ([] : List UInt8)), .string (str ([] : List UInt8)), .slice none (0) (0), .string (str ([] : List UInt8)), .slice none (0) (0)] [zeroN] := Els.one (rdT_close (x := zeroN) ⟨by decide, by decide⟩ ⟨by decide, by decide, by decide⟩ RdSl.nil RdSl.nil) rfl
     refine pt_act ?_ rfl pt_no
     refine rl_append_row F M (k := 2) (k2 := 0) rfl rfl tok28.k tok30 rfl rfl (by decide) rfl rfl (by show _ * 104 ≤ _; (try simp only [List.length_drop, List.length_take, List.length_append, List.length_cons, List.length_nil]); omega) (by (try simp only [List.length_drop, List.length_take, List.length_append, List.length_cons, List.length_nil]); omega) rfl ?_; clear F M a; intro v69 w a M F
     have Ev69 := Els.append Ey E68
     obtain ⟨av69, cv69, rfl, hlev69, hcmv69, hlv69⟩ := M.row_shape (k := 2) rfl
     refine rl_nil ?_
     change Mem w0 Gk60 (.row (.slice (av67) (1) (cv67)) (1) ([.int .u8 (0), .string (str ([] : List UInt8)), .string (str ([] : List UInt8)), .slice none (0) (0), .string (str ([] : List UInt8)), .slice none (0) (0)]) 30 6 :: .blk rb [.string (str (s)), .int .i64 (((ik60 : Nat) : Int)), .int .i64 (((ndk60 : Nat) : Int))] 122 :: .row (.slice (av69) (ny + 1) (cv69)) (ny + 1) (csy ++ ([.int .u8 (0), .string (str ([] : List UInt8)), .string (str ([] : List UInt8)), .slice none (0) (0), .string (str ([] : List UInt8)), .slice none (0) (0)])) 30 6 :: .blk nb [.int .u8 (1), .string (str (tag)), .string (str (key)), va, .string (str ([] : List UInt8)), .slice (ay) (ny) (cy)] 30 :: L) _ at M
     refine ⟨Keep Gk60 [], M.keep (Gle.refl _) (by simp), fun w h => h.mono (Gle.refl _) (by simp), ?_⟩
     obtain ⟨Xe70, hXe70⟩ := get_of_lt (xs := acc ++ ([zeroN])) (i := ny) (by rw [List.length_append, List.length_singleton]; omega)
     obtain ⟨be70, _, Ie70, hme70, _, Ae70, hTe70⟩ := M.atRow (k := 2) rfl (by decide) Ev69 hXe70
     obtain ⟨tae70, tce70, kae70, kce70, rfl, hke70, hle70, SAe70, SKe70⟩ := rdT_open hTe70
     refine pt_run F (fun w M => run_indexI tok28.k tok30 (F.ev rfl) (F.ev rfl) (by omega) Ie70) rfl ?_; clear F a; intro a F
     refine pt_run F (fun w M => run_nilCheck (F.ev rfl)) rfl ?_; clear F a; intro a F
     refine pt_run F (fun w M => run_fieldAddr tok30.k rfl rfl (F.ev rfl)) rfl ?_; clear F a; intro a F
     refine pt_act ?_ rfl ?_
     ·skip
      refine rl_storeEl F M tok30 (k := 2) rfl rfl Ev69 Ie70 (lt_of_get hXe70) rfl rfl (us := [.int .u8 (xk60.kind), .string (str (xk60.tag)), .string (str (xk60.key)), .slice (tak60) (xk60.as.length) (tck60), .string (str (xk60.text)), .slice (kak60) (xk60.kids.length) (kck60)]) rfl rfl (by simp [Value.oneCell']) (X' := xk60) (rdT_close (x := xk60) hkk60 hlk60 SAk60 SKk60) ?_; clear F M a; intro csu71 w a M Eu71 F
      refine rl_nil ?_
      change Mem w0 Gk60 (.row (.slice (av67) (1) (cv67)) (1) ([.int .u8 (0), .string (str ([] : List UInt8)), .string (str ([] : List UInt8)), .slice none (0) (0), .string (str ([] : List UInt8)), .slice none (0) (0)]) 30 6 :: .blk rb [.string (str (s)), .int .i64 (((ik60 : Nat) : Int)), .int .i64 (((ndk60 : Nat) : Int))] 122 :: .row (.slice (av69) (ny + 1) (cv69)) (ny + 1) (csu71) 30 6 :: .blk nb [.int .u8 (1), .string (str (tag)), .string (str (key)), va, .string (str ([] : List UInt8)), .slice (ay) (ny) (cy)] 30 :: L) _ at M
      refine ⟨Keep Gk60 [], M.keep (Gle.refl _) (by simp), fun w h => h.mono (Gle.refl _) (by simp), ?_⟩
      refine pt_act ?_ rfl pt_no
      refine rl_store1 F M tok28 rfl (k := 3) rfl rfl rfl rfl rfl ?_; clear F M a; intro w a M F
      refine rl_nil ?_
      change Mem w0 Gk60 (.row (.slice (av67) (1) (cv67)) (1) ([.int .u8 (0), .string (str ([] : List UInt8)), .string (str ([] : List UInt8)), .slice none (0) (0), .string (str ([] : List UInt8)), .slice none (0) (0)]) 30 6 :: .blk rb [.string (str (s)), .int .i64 (((ik60 : Nat) : Int)), .int .i64 (((ndk60 : Nat) : Int))] 122 :: .row (.slice (av69) (ny + 1) (cv69)) (ny + 1) (csu71) 30 6 :: .blk nb [.int .u8 (1), .string (str (tag)), .string (str (key)), va, .string (str ([] : List UInt8)), .slice (av69) (ny + 1) (cv69)] 30 :: L) _ at M
      refine ⟨Keep Gk60 [], M.keep (Gle.refl _) (by simp), fun w h => h.mono (Gle.refl _) (by simp), ?_⟩
      refine pt_fin <| q_bn <| q_tn ?_
      replace M := M.perm (perm_front _ 3 _ rfl)
      replace M := M.perm (perm_front _ 2 _ rfl)
      replace M := M.perm (perm_front _ 3 _ rfl)
      change Mem w0 Gk60 (_ :: _ :: .blk nb [.int .u8 (1), .string (str (tag)), .string (str (key)), va, .string (str ([] : List UInt8)), .slice (av69) (ny + 1) (cv69)] 30 :: _ :: L) _ at M
      exact ⟨_, by omega, f', ik60, ndk60, (acc ++ [xk60]), (av69), (ny + 1), (cv69), (csu71), rfl, Gk60, (hG1.trans hGk60), F.to ⟨rfl, rfl, rfl, trivial⟩, (M.weaken (.cons_cons _ (.cons_cons _ (.cons_cons _ (.cons _ (List.Sublist.refl _)))))), child_more hX (by first | exact Or.inl (by omega) | exact Or.inr (fun h9 => absurd ((pre2 (by omega)).2 h9) (by assumption))) hNk60, by omega, by omega, by omega, by rw [List.length_append, List.length_singleton]; omega, by rw [List.length_append, ← hny]; rfl, by have h_ := Eu71; rw [set_last hny] at h_; exact h_⟩
     refine pt_act ?_ rfl ?_
     ·skip
      refine rl_store1 F M tok28 rfl (k := 3) rfl rfl rfl rfl rfl ?_; clear F M a; intro w a M F
      refine rl_nil ?_
      change Mem w0 Gk60 (.row (.slice (av67) (1) (cv67)) (1) ([.int .u8 (0), .string (str ([] : List UInt8)), .string (str ([] : List UInt8)), .slice none (0) (0), .string (str ([] : List UInt8)), .slice none (0) (0)]) 30 6 :: .blk rb [.string (str (s)), .int .i64 (((ik60 : Nat) : Int)), .int .i64 (((ndk60 : Nat) : Int))] 122 :: .row (.slice (av69) (ny + 1) (cv69)) (ny + 1) (csy ++ ([.int .u8 (0), .string (str ([] : List UInt8)), .string (str ([] : List UInt8)), .slice none (0) (0), .string (str ([] : List UInt8)), .slice none (0) (0)])) 30 6 :: .blk nb [.int .u8 (1), .string (str (tag)), .string (str (key)), va, .string (str ([] : List UInt8)), .slice (av69) (ny + 1) (cv69)] 30 :: L) _ at M
      refine ⟨Keep Gk60 [], M.keep (Gle.refl _) (by simp), fun w h => h.mono (Gle.refl _) (by simp), ?_⟩
      refine pt_act ?_ rfl pt_no
      refine rl_storeEl F M tok30 (k := 2) rfl rfl Ev69 Ie70 (lt_of_get hXe70) rfl rfl (us := [.int .u8 (xk60.kind), .string (str (xk60.tag)), .string (str (xk60.key)), .slice (tak60) (xk60.as.length) (tck60), .string (str (xk60.text)), .slice (kak60) (xk60.kids.length) (kck60)]) rfl rfl (by simp [Value.oneCell']) (X' := xk60) (rdT_close (x := xk60) hkk60 hlk60 SAk60 SKk60) ?_; clear F M a; intro csu72 w a M Eu72 F
      refine rl_nil ?_
      change Mem w0 Gk60 (.row (.slice (av67) (1) (cv67)) (1) ([.int .u8 (0), .string (str ([] : List UInt8)), .string (str ([] : List UInt8)), .slice none (0) (0), .string (str ([] : List UInt8)), .slice none (0) (0)]) 30 6 :: .blk rb [.string (str (s)), .int .i64 (((ik60 : Nat) : Int)), .int .i64 (((ndk60 : Nat) : Int))] 122 :: .row (.slice (av69) (ny + 1) (cv69)) (ny + 1) (csu72) 30 6 :: .blk nb [.int .u8 (1), .string (str (tag)), .string (str (key)), va, .string (str ([] : List UInt8)), .slice (av69) (ny + 1) (cv69)] 30 :: L) _ at M
      refine ⟨Keep Gk60 [], M.keep (Gle.refl _) (by simp), fun w h => h.mono (Gle.refl _) (by simp), ?_⟩
      refine pt_fin <| q_bn <| q_tn ?_
      replace M := M.perm (perm_front _ 3 _ rfl)
      replace M := M.perm (perm_front _ 2 _ rfl)
      replace M := M.perm (perm_front _ 3 _ rfl)
      change Mem w0 Gk60 (_ :: _ :: _ :: _ :: L) _ at M
      exact ⟨_, by omega, f', ik60, ndk60, (acc ++ [xk60]), (av69), (ny + 1), (cv69), (csu72), rfl, Gk60, (hG1.trans hGk60), F.to ⟨rfl, rfl, rfl, trivial⟩, (M.weaken (.cons_cons _ (.cons_cons _ (.cons_cons _ (.cons _ (List.Sublist.refl _)))))), child_more hX (by first | exact Or.inl (by omega) | exact Or.inr (fun h9 => absurd ((pre2 (by omega)).2 h9) (by assumption))) hNk60, by omega, by omega, by omega, by rw [List.length_append, List.length_singleton]; omega, by rw [List.length_append, ← hny]; rfl, by have h_ := Eu72; rw [set_last hny] at h_; exact h_⟩
     exact pt_no
    exact pt_no
   refine pt_act ?_ rfl ?_
   ·skip
    refine rl_buildSlice1 F M tok28.k tok30 rfl rfl (cs := [.int .u8 (0), .string (str ([] : List UInt8)), .string (str ([] : List UInt8)), .slice none (0) (0), .string (str ([] : List UInt8)), .slice none (0) (0)]) rfl rfl (by simp [Value.oneCell']) (by decide) rfl ?_; clear F M a; intro v73 w a M F
    obtain ⟨av73, cv73, rfl, hlev73, hcmv73, hlv73⟩ := M.row_shape (k := 0) rfl
    refine rl_nil ?_
    change Mem w0 G1 (.row (.slice (av73) (1) (cv73)) (1) ([.int .u8 (0), .string (str ([] : List UInt8)), .string (str ([] : List UInt8)), .slice none (0) (0), .string (str ([] : List UInt8)), .slice none (0) (0)]) 30 6 :: .row (.slice (ay) (ny) (cy)) (ny) (csy) 30 6 :: .blk rb [.string (str (s)), .int .i64 (((j : Nat) : Int)), .int .i64 (((ndj : Nat) : Int))] 122 :: .blk nb [.int .u8 (1), .string (str (tag)), .string (str (key)), va, .string (str ([] : List UInt8)), .slice (ay) (ny) (cy)] 30 :: L) _ at M
    refine ⟨Keep G1 [], M.keep (Gle.refl _) (by simp), fun w h => h.mono (Gle.refl _) (by simp), ?_⟩
    refine pt_act ?_ rfl ?_
    ·skip
     refine rl_run F (run_load1 (agf tok28 rfl) (F.ev rfl) (M.cellL (k := 3) rfl rfl)) rfl ?_; clear F a; intro a F
     refine rl_nil ?_
     change Mem w0 G1 (.row (.slice (av73) (1) (cv73)) (1) ([.int .u8 (0), .string (str ([] : List UInt8)), .string (str ([] : List UInt8)), .slice none (0) (0), .string (str ([] : List UInt8)), .slice none (0) (0)]) 30 6 :: .row (.slice (ay) (ny) (cy)) (ny) (csy) 30 6 :: .blk rb [.string (str (s)), .int .i64 (((j : Nat) : Int)), .int .i64 (((ndj : Nat) : Int))] 122 :: .blk nb [.int .u8 (1), .string (str (tag)), .string (str (key)), va, .string (str ([] : List UInt8)), .slice (ay) (ny) (cy)] 30 :: L) _ at M
     refine ⟨Keep G1 [], M.keep (Gle.refl _) (by simp), fun w h => h.mono (Gle.refl _) (by simp), ?_⟩
     refine pt_run F (fun w M => run_lenSl tok28.k (F.ev rfl)) rfl ?_; clear F a; intro a F
     refine pt_act ?_ rfl pt_no
     replace M := M.perm (perm_front _ 2 _ rfl)
     change Mem w0 G1 (_ :: _ :: _ :: _ :: L) _ at M
     change Mem w0 G1 (_ :: _ :: _ :: _ :: L) _ at M
     refine rl_callRd (G := G1) (L := .row (.slice (av73) (1) (cv73)) (1) ([.int .u8 (0), .string (str ([] : List UInt8)), .string (str ([] : List UInt8)), .slice none (0) (0), .string (str ([] : List UInt8)), .slice none (0) (0)]) 30 6 :: .row (.slice (ay) (ny) (cy)) (ny) (csy) 30 6 :: .blk nb [.int .u8 (1), .string (str (tag)), .string (str (key)), va, .string (str ([] : List UInt8)), .slice (ay) (ny) (cy)] 30 :: L) (rb := rb) (s := s) F ent81 (run_callF F ent81 rfl rfl) rfl (ih _ _ _ _ _ (j) (ndj) (lv + 1) _ (by omega) (by omega) hs (by omega) M) (fun e_ w_ G_ i_ nd_ hg_ M_ h_ => finRx (P := Tryz.prog) (fn := Tryz.f104) F (hG1.trans hg_) (M_.weaken (.cons_cons _ (.cons _ (.cons _ (.cons _ (List.Sublist.refl _)))))) (child_no hX (by first | exact Or.inl (by omega) | exact Or.inr (fun h9 => absurd ((pre2 (by omega)).2 h9) (by assumption))) h_)) ?_; clear F M a; rintro v_ Gk74 ik74 ndk74 w a hGk74 M ⟨xk74, tak74, tck74, kak74, kck74, hNk74, rfl, hkk74, hlk74, SAk74, SKk74, hik74, hjk74, hdk74⟩ F
     replace Ey := Ey.mono mono_rdN hGk74
     change Mem w0 Gk74 (.blk rb [.string (str (s)), .int .i64 (((ik74 : Nat) : Int)), .int .i64 (((ndk74 : Nat) : Int))] 122 :: _ :: _ :: _ :: L) _ at M
     refine rl_nil ?_
     change Mem w0 Gk74 (.blk rb [.string (str (s)), .int .i64 (((ik74 : Nat) : Int)), .int .i64 (((ndk74 : Nat) : Int))] 122 :: .row (.slice (av73) (1) (cv73)) (1) ([.int .u8 (0), .string (str ([] : List UInt8)), .string (str ([] : List UInt8)), .slice none (0) (0), .string (str ([] : List UInt8)), .slice none (0) (0)]) 30 6 :: .row (.slice (ay) (ny) (cy)) (ny) (csy) 30 6 :: .blk nb [.int .u8 (1), .string (str (tag)), .string (str (key)), va, .string (str ([] : List UInt8)), .slice (ay) (ny) (cy)] 30 :: L) _ at M
     refine ⟨Keep Gk74 [], M.keep (Gle.refl _) (by simp), fun w h => h.mono hGk74 (by simp), ?_⟩
     have E75 : Els rdN 6 Gk74 [.int .u8 (0), .string (str ([] : List UInt8)), .string (str ([] : List UInt8)), .slice none (0) (0), .string (str ([] : List UInt8)), .slice none (0) (0)] [zeroN] := Els.one (rdT_close (x := zeroN) ⟨by decide, by decide⟩ ⟨by decide, by decide, by decide⟩ RdSl.nil RdSl.nil) rfl
     refine pt_act ?_ rfl pt_no
     refine rl_append_row F M (k := 2) (k2 := 1) rfl rfl tok28.k tok30 rfl rfl (by decide) rfl rfl (by show _ * 104 ≤ _; (try simp only [List.length_drop, List.length_take, List.length_append, List.length_cons, List.length_nil]); omega) (by (try simp only [List.length_drop, List.length_take, List.length_append, List.length_cons, List.length_nil]); omega) rfl ?_; clear F M a; intro v76 w a M F
     have Ev76 := Els.append Ey E75
     obtain ⟨av76, cv76, rfl, hlev76, hcmv76, hlv76⟩ := M.row_shape (k := 2) rfl
     refine rl_nil ?_
     change Mem w0 Gk74 (.blk rb [.string (str (s)), .int .i64 (((ik74 : Nat) : Int)), .int .i64 (((ndk74 : Nat) : Int))] 122 :: .row (.slice (av73) (1) (cv73)) (1) ([.int .u8 (0), .string (str ([] : List UInt8)), .string (str ([] : List UInt8)), .slice none (0) (0), .string (str ([] : List UInt8)), .slice none (0) (0)]) 30 6 :: .row (.slice (av76) (ny + 1) (cv76)) (ny + 1) (csy ++ ([.int .u8 (0), .string (str ([] : List UInt8)), .string (str ([] : List UInt8)), .slice none (0) (0), .string (str ([] : List UInt8)), .slice none (0) (0)])) 30 6 :: .blk nb [.int .u8 (1), .string (str (tag)), .string (str (key)), va, .string (str ([] : List UInt8)), .slice (ay) (ny) (cy)] 30 :: L) _ at M
     refine ⟨Keep Gk74 [], M.keep (Gle.refl _) (by simp), fun w h => h.mono (Gle.refl _) (by simp), ?_⟩
     obtain ⟨Xe77, hXe77⟩ := get_of_lt (xs := acc ++ ([zeroN])) (i := ny) (by rw [List.length_append, List.length_singleton]; omega)
     obtain ⟨be77, _, Ie77, hme77, _, Ae77, hTe77⟩ := M.atRow (k := 2) rfl (by decide) Ev76 hXe77
     obtain ⟨tae77, tce77, kae77, kce77, rfl, hke77, hle77, SAe77, SKe77⟩ := rdT_open hTe77
     refine pt_run F (fun w M => run_indexI tok28.k tok30 (F.ev rfl) (F.ev rfl) (by omega) Ie77) rfl ?_; clear F a; intro a F
     refine pt_run F (fun w M => run_nilCheck (F.ev rfl)) rfl ?_; clear F a; intro a F
     refine pt_run F (fun w M => run_fieldAddr tok30.k rfl rfl (F.ev rfl)) rfl ?_; clear F a; intro a F
     refine pt_act ?_ rfl ?_
     ·skip
      refine rl_storeEl F M tok30 (k := 2) rfl rfl Ev76 Ie77 (lt_of_get hXe77) rfl rfl (us := [.int .u8 (xk74.kind), .string (str (xk74.tag)), .string (str (xk74.key)), .slice (tak74) (xk74.as.length) (tck74), .string (str (xk74.text)), .slice (kak74) (xk74.kids.length) (kck74)]) rfl rfl (by simp [Value.oneCell']) (X' := xk74) (rdT_close (x := xk74) hkk74 hlk74 SAk74 SKk74) ?_; clear F M a; intro csu78 w a M Eu78 F
      refine rl_nil ?_
      change Mem w0 Gk74 (.blk rb [.string (str (s)), .int .i64 (((ik74 : Nat) : Int)), .int .i64 (((ndk74 : Nat) : Int))] 122 :: .row (.slice (av73) (1) (cv73)) (1) ([.int .u8 (0), .string (str ([] : List UInt8)), .string (str ([] : List UInt8)), .slice none (0) (0), .string (str ([] : List UInt8)), .slice none (0) (0)]) 30 6 :: .row (.slice (av76) (ny + 1) (cv76)) (ny + 1) (csu78) 30 6 :: .blk nb [.int .u8 (1), .string (str (tag)), .string (str (key)), va, .string (str ([] : List UInt8)), .slice (ay) (ny) (cy)] 30 :: L) _ at M
      refine ⟨Keep Gk74 [], M.keep (Gle.refl _) (by simp), fun w h => h.mono (Gle.refl _) (by simp), ?_⟩
      refine pt_act ?_ rfl pt_no
      refine rl_store1 F M tok28 rfl (k := 3) rfl rfl rfl rfl rfl ?_; clear F M a; intro w a M F
      refine rl_nil ?_
      change Mem w0 Gk74 (.blk rb [.string (str (s)), .int .i64 (((ik74 : Nat) : Int)), .int .i64 (((ndk74 : Nat) : Int))] 122 :: .row (.slice (av73) (1) (cv73)) (1) ([.int .u8 (0), .string (str ([] : List UInt8)), .string (str ([] : List UInt8)), .slice none (0) (0), .string (str ([] : List UInt8)), .slice none (0) (0)]) 30 6 :: .row (.slice (av76) (ny + 1) (cv76)) (ny + 1) (csu78) 30 6 :: .blk nb [.int .u8 (1), .string (str (tag)), .string (str (key)), va, .string (str ([] : List UInt8)), .slice (av76) (ny + 1) (cv76)] 30 :: L) _ at M
      refine ⟨Keep Gk74 [], M.keep (Gle.refl _) (by simp), fun w h => h.mono (Gle.refl _) (by simp), ?_⟩
      refine pt_fin <| q_bn <| q_tn ?_
      replace M := M.perm (perm_front _ 3 _ rfl)
      replace M := M.perm (perm_front _ 1 _ rfl)
      replace M := M.perm (perm_front _ 3 _ rfl)
      change Mem w0 Gk74 (_ :: _ :: .blk nb [.int .u8 (1), .string (str (tag)), .string (str (key)), va, .string (str ([] : List UInt8)), .slice (av76) (ny + 1) (cv76)] 30 :: _ :: L) _ at M
      exact ⟨_, by omega, f', ik74, ndk74, (acc ++ [xk74]), (av76), (ny + 1), (cv76), (csu78), rfl, Gk74, (hG1.trans hGk74), F.to ⟨rfl, rfl, rfl, trivial⟩, (M.weaken (.cons_cons _ (.cons_cons _ (.cons_cons _ (.cons _ (List.Sublist.refl _)))))), child_more hX (by first | exact Or.inl (by omega) | exact Or.inr (fun h9 => absurd ((pre2 (by omega)).2 h9) (by assumption))) hNk74, by omega, by omega, by omega, by rw [List.length_append, List.length_singleton]; omega, by rw [List.length_append, ← hny]; rfl, by have h_ := Eu78; rw [set_last hny] at h_; exact h_⟩
     refine pt_act ?_ rfl ?_
     ·skip
      refine rl_store1 F M tok28 rfl (k := 3) rfl rfl rfl rfl rfl ?_; clear F M a; intro w a M F
      refine rl_nil ?_
      change Mem w0 Gk74 (.blk rb [.string (str (s)), .int .i64 (((ik74 : Nat) : Int)), .int .i64 (((ndk74 : Nat) : Int))] 122 :: .row (.slice (av73) (1) (cv73)) (1) ([.int .u8 (0), .string (str ([] : List UInt8)), .string (str ([] : List UInt8)), .slice none (0) (0), .string (str ([] : List UInt8)), .slice none (0) (0)]) 30 6 :: .row (.slice (av76) (ny + 1) (cv76)) (ny + 1) (csy ++ ([.int .u8 (0), .string (str ([] : List UInt8)), .string (str ([] : List UInt8)), .slice none (0) (0), .string (str ([] : List UInt8)), .slice none (0) (0)])) 30 6 :: .blk nb [.int .u8 (1), .string (str (tag)), .string (str (key)), va, .string (str ([] : List UInt8)), .slice (av76) (ny + 1) (cv76)] 30 :: L) _ at M
      refine ⟨Keep Gk74 [], M.keep (Gle.refl _) (by simp), fun w h => h.mono (Gle.refl _) (by simp), ?_⟩
      refine pt_act ?_ rfl pt_no
      refine rl_storeEl F M tok30 (k := 2) rfl rfl Ev76 Ie77 (lt_of_get hXe77) rfl rfl (us := [.int .u8 (xk74.kind), .string (str (xk74.tag)), .string (str (xk74.key)), .slice (tak74) (xk74.as.length) (tck74), .string (str (xk74.text)), .slice (kak74) (xk74.kids.length) (kck74)]) rfl rfl (by simp [Value.oneCell']) (X' := xk74) (rdT_close (x := xk74) hkk74 hlk74 SAk74 SKk74) ?_; clear F M a; intro csu79 w a M Eu79 F
      refine rl_nil ?_
      change Mem w0 Gk74 (.blk rb [.string (str (s)), .int .i64 (((ik74 : Nat) : Int)), .int .i64 (((ndk74 : Nat) : Int))] 122 :: .row (.slice (av73) (1) (cv73)) (1) ([.int .u8 (0), .string (str ([] : List UInt8)), .string (str ([] : List UInt8)), .slice none (0) (0), .string (str ([] : List UInt8)), .slice none (0) (0)]) 30 6 :: .row (.slice (av76) (ny + 1) (cv76)) (ny + 1) (csu79) 30 6 :: .blk nb [.int .u8 (1), .string (str (tag)), .string (str (key)), va, .string (str ([] : List UInt8)), .slice (av76) (ny + 1) (cv76)] 30 :: L) _ at M
      refine ⟨Keep Gk74 [], M.keep (Gle.refl _) (by simp), fun w h => h.mono (Gle.refl _) (by simp), ?_⟩
      refine pt_fin <| q_bn <| q_tn ?_
      replace M := M.perm (perm_front _ 3 _ rfl)
      replace M := M.perm (perm_front _ 1 _ rfl)
      replace M := M.perm (perm_front _ 3 _ rfl)
      change Mem w0 Gk74 (_ :: _ :: _ :: _ :: L) _ at M
      exact ⟨_, by omega, f', ik74, ndk74, (acc ++ [xk74]), (av76), (ny + 1), (cv76), (csu79), rfl, Gk74, (hG1.trans hGk74), F.to ⟨rfl, rfl, rfl, trivial⟩, (M.weaken (.cons_cons _ (.cons_cons _ (.cons_cons _ (.cons _ (List.Sublist.refl _)))))), child_more hX (by first | exact Or.inl (by omega) | exact Or.inr (fun h9 => absurd ((pre2 (by omega)).2 h9) (by assumption))) hNk74, by omega, by omega, by omega, by rw [List.length_append, List.length_singleton]; omega, by rw [List.length_append, ← hny]; rfl, by have h_ := Eu79; rw [set_last hny] at h_; exact h_⟩
     exact pt_no
    refine pt_act ?_ rfl ?_
    ·skip
     replace M := M.perm (perm_front _ 2 _ rfl)
     change Mem w0 G1 (_ :: _ :: _ :: _ :: L) _ at M
     change Mem w0 G1 (_ :: _ :: _ :: _ :: L) _ at M
     refine rl_callRd (G := G1) (L := .row (.slice (av73) (1) (cv73)) (1) ([.int .u8 (0), .string (str ([] : List UInt8)), .string (str ([] : List UInt8)), .slice none (0) (0), .string (str ([] : List UInt8)), .slice none (0) (0)]) 30 6 :: .row (.slice (ay) (ny) (cy)) (ny) (csy) 30 6 :: .blk nb [.int .u8 (1), .string (str (tag)), .string (str (key)), va, .string (str ([] : List UInt8)), .slice (ay) (ny) (cy)] 30 :: L) (rb := rb) (s := s) F ent81 (run_callF F ent81 rfl rfl) rfl (ih _ _ _ _ _ (j) (ndj) (lv + 1) _ (by omega) (by omega) hs (by omega) M) (fun e_ w_ G_ i_ nd_ hg_ M_ h_ => finRx (P := Tryz.prog) (fn := Tryz.f104) F (hG1.trans hg_) (M_.weaken (.cons_cons _ (.cons _ (.cons _ (.cons _ (List.Sublist.refl _)))))) (child_no hX (by first | exact Or.inl (by omega) | exact Or.inr (fun h9 => absurd ((pre2 (by omega)).2 h9) (by assumption))) h_)) ?_; clear F M a; rintro v_ Gk80 ik80 ndk80 w a hGk80 M ⟨xk80, tak80, tck80, kak80, kck80, hNk80, rfl, hkk80, hlk80, SAk80, SKk80, hik80, hjk80, hdk80⟩ F
     replace Ey := Ey.mono mono_rdN hGk80
     change Mem w0 Gk80 (.blk rb [.string (str (s)), .int .i64 (((ik80 : Nat) : Int)), .int .i64 (((ndk80 : Nat) : Int))] 122 :: _ :: _ :: _ :: L) _ at M
     refine rl_nil ?_
     change Mem w0 Gk80 (.blk rb [.string (str (s)), .int .i64 (((ik80 : Nat) : Int)), .int .i64 (((ndk80 : Nat) : Int))] 122 :: .row (.slice (av73) (1) (cv73)) (1) ([.int .u8 (0), .string (str ([] : List UInt8)), .string (str ([] : List UInt8)), .slice none (0) (0), .string (str ([] : List UInt8)), .slice none (0) (0)]) 30 6 :: .row (.slice (ay) (ny) (cy)) (ny) (csy) 30 6 :: .blk nb [.int .u8 (1), .string (str (tag)), .string (str (key)), va, .string (str ([] : List UInt8)), .slice (ay) (ny) (cy)] 30 :: L) _ at M
     refine ⟨Keep Gk80 [], M.keep (Gle.refl _) (by simp), fun w h => h.mono hGk80 (by simp), ?_⟩
     refine pt_act ?_ rfl pt_no
     refine rl_run F (run_load1 (agf tok28 rfl) (F.ev rfl) (M.cellL (k := 3) rfl rfl)) rfl ?_; clear F a; intro a F
     refine rl_nil ?_
     change Mem w0 Gk80 (.blk rb [.string (str (s)), .int .i64 (((ik80 : Nat) : Int)), .int .i64 (((ndk80 : Nat) : Int))] 122 :: .row (.slice (av73) (1) (cv73)) (1) ([.int .u8 (0), .string (str ([] : List UInt8)), .string (str ([] : List UInt8)), .slice none (0) (0), .string (str ([] : List UInt8)), .slice none (0) (0)]) 30 6 :: .row (.slice (ay) (ny) (cy)) (ny) (csy) 30 6 :: .blk nb [.int .u8 (1), .string (str (tag)), .string (str (key)), va, .string (str ([] : List UInt8)), .slice (ay) (ny) (cy)] 30 :: L) _ at M
     refine ⟨Keep Gk80 [], M.keep (Gle.refl _) (by simp), fun w h => h.mono (Gle.refl _) (by simp), ?_⟩
     refine pt_run F (fun w M => run_lenSl tok28.k (F.ev rfl)) rfl ?_; clear F a; intro a F
     have E81 : Els rdN 6 Gk80 [.int .u8 (0), .string (str ([] : List UInt8)), .string (str ([] : List UInt8)), .slice none (0) (0), .string (str ([] : List UInt8)), .slice none (0) (0)] [zeroN] := Els.one (rdT_close (x := zeroN) ⟨by decide, by decide⟩ ⟨by decide, by decide, by decide⟩ RdSl.nil RdSl.nil) rfl
     refine pt_act ?_ rfl pt_no
     refine rl_append_row F M (k := 2) (k2 := 1) rfl rfl tok28.k tok30 rfl rfl (by decide) rfl rfl (by show _ * 104 ≤ _; (try simp only [List.length_drop, List.length_take, List.length_append, List.length_cons, List.length_nil]); omega) (by (try simp only [List.length_drop, List.length_take, List.length_append, List.length_cons, List.length_nil]); omega) rfl ?_; clear F M a; intro v82 w a M F
     have Ev82 := Els.append Ey E81
     obtain ⟨av82, cv82, rfl, hlev82, hcmv82, hlv82⟩ := M.row_shape (k := 2) rfl
     refine rl_nil ?_
     change Mem w0 Gk80 (.blk rb [.string (str (s)), .int .i64 (((ik80 : Nat) : Int)), .int .i64 (((ndk80 : Nat) : Int))] 122 :: .row (.slice (av73) (1) (cv73)) (1) ([.int .u8 (0), .string (str ([] : List UInt8)), .string (str ([] : List UInt8)), .slice none (0) (0), .string (str ([] : List UInt8)), .slice none (0) (0)]) 30 6 :: .row (.slice (av82) (ny + 1) (cv82)) (ny + 1) (csy ++ ([.int .u8 (0), .string (str ([] : List UInt8)), .string (str ([] : List UInt8)), .slice none (0) (0), .string (str ([] : List UInt8)), .slice none (0) (0)])) 30 6 :: .blk nb [.int .u8 (1), .string (str (tag)), .string (str (key)), va, .string (str ([] : List UInt8)), .slice (ay) (ny) (cy)] 30 :: L) _ at M
     refine ⟨Keep Gk80 [], M.keep (Gle.refl _) (by simp), fun w h => h.mono (Gle.refl _) (by simp), ?_⟩
     obtain ⟨Xe83, hXe83⟩ := get_of_lt (xs := acc ++ ([zeroN])) (i := ny) (by rw [List.length_append, List.length_singleton]; omega)
     obtain ⟨be83, _, Ie83, hme83, _, Ae83, hTe83⟩ := M.atRow (k := 2) rfl (by decide) Ev82 hXe83
     obtain ⟨tae83, tce83, kae83, kce83, rfl, hke83, hle83, SAe83, SKe83⟩ := rdT_open hTe83
     refine pt_run F (fun w M => run_indexI tok28.k tok30 (F.ev rfl) (F.ev rfl) (by omega) Ie83) rfl ?_; clear F a; intro a F
     refine pt_run F (fun w M => run_nilCheck (F.ev rfl)) rfl ?_; clear F a; intro a F
     refine pt_run F (fun w M => run_fieldAddr tok30.k rfl rfl (F.ev rfl)) rfl ?_; clear F a; intro a F
     refine pt_act ?_ rfl ?_
     ·skip
      refine rl_storeEl F M tok30 (k := 2) rfl rfl Ev82 Ie83 (lt_of_get hXe83) rfl rfl (us := [.int .u8 (xk80.kind), .string (str (xk80.tag)), .string (str (xk80.key)), .slice (tak80) (xk80.as.length) (tck80), .string (str (xk80.text)), .slice (kak80) (xk80.kids.length) (kck80)]) rfl rfl (by simp [Value.oneCell']) (X' := xk80) (rdT_close (x := xk80) hkk80 hlk80 SAk80 SKk80) ?_; clear F M a; intro csu84 w a M Eu84 F
      refine rl_nil ?_
      change Mem w0 Gk80 (.blk rb [.string (str (s)), .int .i64 (((ik80 : Nat) : Int)), .int .i64 (((ndk80 : Nat) : Int))] 122 :: .row (.slice (av73) (1) (cv73)) (1) ([.int .u8 (0), .string (str ([] : List UInt8)), .string (str ([] : List UInt8)), .slice none (0) (0), .string (str ([] : List UInt8)), .slice none (0) (0)]) 30 6 :: .row (.slice (av82) (ny + 1) (cv82)) (ny + 1) (csu84) 30 6 :: .blk nb [.int .u8 (1), .string (str (tag)), .string (str (key)), va, .string (str ([] : List UInt8)), .slice (ay) (ny) (cy)] 30 :: L) _ at M
      refine ⟨Keep Gk80 [], M.keep (Gle.refl _) (by simp), fun w h => h.mono (Gle.refl _) (by simp), ?_⟩
      refine pt_act ?_ rfl pt_no
      refine rl_store1 F M tok28 rfl (k := 3) rfl rfl rfl rfl rfl ?_; clear F M a; intro w a M F
      refine rl_nil ?_
      change Mem w0 Gk80 (.blk rb [.string (str (s)), .int .i64 (((ik80 : Nat) : Int)), .int .i64 (((ndk80 : Nat) : Int))] 122 :: .row (.slice (av73) (1) (cv73)) (1) ([.int .u8 (0), .string (str ([] : List UInt8)), .string (str ([] : List UInt8)), .slice none (0) (0), .string (str ([] : List UInt8)), .slice none (0) (0)]) 30 6 :: .row (.slice (av82) (ny + 1) (cv82)) (ny + 1) (csu84) 30 6 :: .blk nb [.int .u8 (1), .string (str (tag)), .string (str (key)), va, .string (str ([] : List UInt8)), .slice (av82) (ny + 1) (cv82)] 30 :: L) _ at M
      refine ⟨Keep Gk80 [], M.keep (Gle.refl _) (by simp), fun w h => h.mono (Gle.refl _) (by simp), ?_⟩
      refine pt_fin <| q_bn <| q_tn ?_
      replace M := M.perm (perm_front _ 3 _ rfl)
      replace M := M.perm (perm_front _ 1 _ rfl)
      replace M := M.perm (perm_front _ 3 _ rfl)
      change Mem w0 Gk80 (_ :: _ :: .blk nb [.int .u8 (1), .string (str (tag)), .string (str (key)), va, .string (str ([] : List UInt8)), .slice (av82) (ny + 1) (cv82)] 30 :: _ :: L) _ at M
      exact ⟨_, by omega, f', ik80, ndk80, (acc ++ [xk80]), (av82), (ny + 1), (cv82), (csu84), rfl, Gk80, (hG1.trans hGk80), F.to ⟨rfl, rfl, rfl, trivial⟩, (M.weaken (.cons_cons _ (.cons_cons _ (.cons_cons _ (.cons _ (List.Sublist.refl _)))))), child_more hX (by first | exact Or.inl (by omega) | exact Or.inr (fun h9 => absurd ((pre2 (by omega)).2 h9) (by assumption))) hNk80, by omega, by omega, by omega, by rw [List.length_append, List.length_singleton]; omega, by rw [List.length_append, ← hny]; rfl, by have h_ := Eu84; rw [set_last hny] at h_; exact h_⟩
     refine pt_act ?_ rfl ?_
     ·skip
      refine rl_store1 F M tok28 rfl (k := 3) rfl rfl rfl rfl rfl ?_; clear F M a; intro w a M F
      refine rl_nil ?_
      change Mem w0 Gk80 (.blk rb [.string (str (s)), .int .i64 (((ik80 : Nat) : Int)), .int .i64 (((ndk80 : Nat) : Int))] 122 :: .row (.slice (av73) (1) (cv73)) (1) ([.int .u8 (0), .string (str ([] : List UInt8)), .string (str ([] : List UInt8)), .slice none (0) (0), .string (str ([] : List UInt8)), .slice none (0) (0)]) 30 6 :: .row (.slice (av82) (ny + 1) (cv82)) (ny + 1) (csy ++ ([.int .u8 (0), .string (str ([] : List UInt8)), .string (str ([] : List UInt8)), .slice none (0) (0), .string (str ([] : List UInt8)), .slice none (0) (0)])) 30 6 :: .blk nb [.int .u8 (1), .string (str (tag)), .string (str (key)), va, .string (str ([] : List UInt8)), .slice (av82) (ny + 1) (cv82)] 30 :: L) _ at M
      refine ⟨Keep Gk80 [], M.keep (Gle.refl _) (by simp), fun w h => h.mono (Gle.refl _) (by simp), ?_⟩
      refine pt_act ?_ rfl pt_no
      refine rl_storeEl F M tok30 (k := 2) rfl rfl Ev82 Ie83 (lt_of_get hXe83) rfl rfl (us := [.int .u8 (xk80.kind), .string (str (xk80.tag)), .string (str (xk80.key)), .slice (tak80) (xk80.as.length) (tck80), .string (str (xk80.text)), .slice (kak80) (xk80.kids.length) (kck80)]) rfl rfl (by simp [Value.oneCell']) (X' := xk80) (rdT_close (x := xk80) hkk80 hlk80 SAk80 SKk80) ?_; clear F M a; intro csu85 w a M Eu85 F
      refine rl_nil ?_
      change Mem w0 Gk80 (.blk rb [.string (str (s)), .int .i64 (((ik80 : Nat) : Int)), .int .i64 (((ndk80 : Nat) : Int))] 122 :: .row (.slice (av73) (1) (cv73)) (1) ([.int .u8 (0), .string (str ([] : List UInt8)), .string (str ([] : List UInt8)), .slice none (0) (0), .string (str ([] : List UInt8)), .slice none (0) (0)]) 30 6 :: .row (.slice (av82) (ny + 1) (cv82)) (ny + 1) (csu85) 30 6 :: .blk nb [.int .u8 (1), .string (str (tag)), .string (str (key)), va, .string (str ([] : List UInt8)), .slice (av82) (ny + 1) (cv82)] 30 :: L) _ at M
      refine ⟨Keep Gk80 [], M.keep (Gle.refl _) (by simp), fun w h => h.mono (Gle.refl _) (by simp), ?_⟩
      refine pt_fin <| q_bn <| q_tn ?_
      replace M := M.perm (perm_front _ 3 _ rfl)
      replace M := M.perm (perm_front _ 1 _ rfl)
      replace M := M.perm (perm_front _ 3 _ rfl)
      change Mem w0 Gk80 (_ :: _ :: _ :: _ :: L) _ at M
      exact ⟨_, by omega, f', ik80, ndk80, (acc ++ [xk80]), (av82), (ny + 1), (cv82), (csu85), rfl, Gk80, (hG1.trans hGk80), F.to ⟨rfl, rfl, rfl, trivial⟩, (M.weaken (.cons_cons _ (.cons_cons _ (.cons_cons _ (.cons _ (List.Sublist.refl _)))))), child_more hX (by first | exact Or.inl (by omega) | exact Or.inr (fun h9 => absurd ((pre2 (by omega)).2 h9) (by assumption))) hNk80, by omega, by omega, by omega, by rw [List.length_append, List.length_singleton]; omega, by rw [List.length_append, ← hny]; rfl, by have h_ := Eu85; rw [set_last hny] at h_; exact h_⟩
     exact pt_no
    exact pt_no
   exact pt_no
  ·intro hc
   have h86b := hc; clear hc
   have h86 : (s.drop (j)).take 2 = [60, 47] := of_decide_eq_true (of_not_f h86b)
   have h86c : (decide ((s.drop (j)).take 2 = [60, 47])) = true := (of_not_f h86b)
   refine wp_exit ?_
   iterate 2 (refine q_te ?_)
   refine q_bh <| q_tn <| w_reg ?_
   iterate 2 (refine rl_run F (run_move (F.ev rfl)) rfl ?_; clear F a; intro a F)
   refine rl_run F (run_nilCheck (F.ev rfl)) rfl ?_; clear F a; intro a F
   refine rl_run F (run_fieldAddr tok30.k rfl rfl (F.ev rfl)) rfl ?_; clear F a; intro a F
   refine rl_run F (run_load1 (agf tok9 rfl) (F.ev rfl) (M.cellL (k := 2) rfl rfl)) rfl ?_; clear F a; intro a F
   iterate 2 (refine rl_run F (run_strAdd (F.ev rfl) (F.ev rfl) (by (try simp only [List.length_append, List.length_cons, List.length_nil]); omega)) rfl ?_; clear F a; intro a F)
   replace M := M.perm (perm_front _ 1 _ rfl)
   change Mem w0 G1 (_ :: _ :: _ :: L) _ at M
   change Mem w0 G1 (_ :: _ :: _ :: L) _ at M
   refine rl_callRd (G := G1) (L := .row (.slice (ay) (ny) (cy)) (ny) (csy) 30 6 :: .blk nb [.int .u8 (1), .string (str (tag)), .string (str (key)), va, .string (str ([] : List UInt8)), .slice (ay) (ny) (cy)] 30 :: L) (rb := rb) (s := s) F ent102 (run_callF F ent102 rfl rfl) rfl (rtake_spec (wd := ((([60, 47] : List UInt8) ++ tag) ++ ([62] : List UInt8))) (i := j) (nd := ndj) (s := s) (L := .row (.slice (ay) (ny) (cy)) (ny) (csy) 30 6 :: .blk nb [.int .u8 (1), .string (str (tag)), .string (str (key)), va, .string (str ([] : List UInt8)), .slice (ay) (ny) (cy)] 30 :: L) M (by simp only [List.length_append, List.length_cons, List.length_nil]; omega) (by omega)) (fun e_ w_ G_ i_ nd_ hg_ M_ h_ => finRx (P := Tryz.prog) (fn := Tryz.f104) F (hG1.trans hg_) (M_.weaken (.cons_cons _ (.cons _ (.cons _ (List.Sublist.refl _))))) (child_end_no hX (by rintro (h9 | h9); omega; exact h9 ((pre2 (by omega)).1 (by assumption))) h_)) ?_; clear F M a; rintro v_ Gk87 ik87 ndk87 w a hGk87 M ⟨hTk87, hndk87, hIk87⟩ F
   replace Ey := Ey.mono mono_rdN hGk87
   change Mem w0 Gk87 (.blk rb [.string (str (s)), .int .i64 (((ik87 : Nat) : Int)), .int .i64 (((ndk87 : Nat) : Int))] 122 :: _ :: _ :: L) _ at M
   rw [hndk87] at M
   have hlek87 := take_le hTk87 (fun b hb => by simp only [List.mem_append, List.mem_cons, List.not_mem_nil, or_false] at hb; rcases hb with ((rfl | rfl) | hb) | rfl <;> first | decide | exact hz _ hb) (by omega)
   refine rl_nil <| fin0n F rfl ?_
   obtain ⟨hnz88, Gz88, az88, cz88, hGz88, hez88, Sz88, M⟩ := M.freeze_row mono_rdN (k := 1) rfl Ey (by decide)
   clear hez88 az88 cz88
   replace M := M.perm (perm_front _ 1 _ rfl)
   replace M := M.perm (perm_front _ 1 _ rfl)
   change Mem w0 Gz88 (_ :: _ :: L) _ at M
   subst hny
   exact ⟨_, ik87, ndj, _, ((hG1.trans hGk87).trans hGz88), M.weaken (.cons_cons _ (.cons_cons _ (List.Sublist.refl _))), _, _, acc, rfl, child_end hX (by rintro (h9 | h9); omega; exact h9 ((pre2 (by omega)).1 (by assumption))) hTk87, Sz88, by omega, by omega, hdj⟩
theorem child_of {d : Nat} (h : NodeQ d) : ChildQ d := fun w0 w G L rb i nd lv nb s tag key va h1 h2 h3 h4 h5 h6 M => rchild_step h h1 h2 h3 h4 h5 h6 M
theorem rnode_all : ∀ D, NodeQ D
 | 0 => fun w0 w G L rb i nd lv s h1 h2 h3 h4 M => rnode_step (fun d hd => by omega) M h1 h2 h3 h4
 | d + 1 => fun w0 w G L rb i nd lv s h1 h2 h3 h4 M => rnode_step (fun e he => by rw [show e = d by omega]; exact child_of (rnode_all d)) M h1 h2 h3 h4
end Go.Proofs.YtlnehkjmmegkhaaGreat
