/- The walks, part NI. -/
import Derived.Test.YtlnehkjmmegkhaaGreatWalkNH
namespace Go.Proofs.YtlnehkjmmegkhaaGreat
open Go Go.Y Go.Proofs
set_option linter.unusedSimpArgs false
set_option linter.unusedVariables false
open Classical in
theorem nsam_is {x u : NT} (hx : Valid x) (hu : Valid u) : nsamF x u = decide (sameF x u = 1) := by
 by_cases h : x = u
 ·subst h; rw [nsamF_yes hx, sameF_yes ⟨hx, hx, rfl⟩]; rfl
 ·unfold nsamF; rw [if_neg fun h2 => h h2.2.2, sameF_no fun h2 => h h2.2.2]; rfl
theorem nsam_is2 {x u : NT} (hx : Valid x) (hu : Valid u) : nsamF u x = decide (sameF x u = 1) := by
 rw [nsam_is hu hx]
 by_cases h : x = u
 ·subst h; rfl
 ·rw [sameF_no fun h2 => h h2.2.2, sameF_no fun h2 => h h2.2.2.symm]
theorem valid_txt {x c : NT} {i : Nat} (h : Valid x) (hc : x.kids[i]? = some c) : c.text.length ≤ 64 ∧ c.tag.length ≤ 16 := by
 have h1 := (valid_kid h (List.mem_of_getElem? hc)).1.1
 rcases h1 with ⟨_, h1, h2, _⟩ | ⟨_, _, h1, _, h2, _⟩
 ·rw [h2]; exact ⟨h1.1, Nat.zero_le _⟩
 ·rw [h2]; exact ⟨Nat.zero_le _, h1.1.2⟩
theorem set_tag {l : List NT} {y X : NT} {i j : Nat} (hl : ∀ (q : Nat) (c : NT), l[q]? = some c → c.tag.length ≤ 16) (hy : y.tag.length ≤ 16) (h : (l.set i y)[j]? = some X) : X.tag.length ≤ 16 := by
 rw [List.getElem?_set] at h
 split at h
 ·split at h
  ·simp only [Option.some.injEq] at h; subst h; exact hy
  ·cases h
 ·exact hl _ _ h
theorem valid_att {x : NT} {a : AttrD} {i : Nat} (h : Valid x) (ha : x.as[i]? = some a) : a.v.length ≤ 64 := by
 rcases h.1.1 with ⟨_, _, _, _, h1, _⟩ | ⟨_, _, _, _, _, _, _, h1, _⟩
 ·rw [List.eq_nil_of_length_eq_zero h1] at ha; cases ha
 ·exact (h1 i a ha).1.2.1
set_option maxHeartbeats 2000000 in
theorem nodesSame_ret {w0 w : World} {G : Ghost} {L : List Res} (M : Mem w0 G L w) {ca : Option Addr} {cc : Nat} {cs : List UInt8} (S : RdSl rdB 1 G (.slice ca cs.length cc) cs) {pt psl : Nat} (hpt : pt < 256) (hps : psl < 256) {ca2 : Option Addr} {cc2 : Nat} {cs2 : List UInt8} (S2 : RdSl rdB 1 G (.slice ca2 cs2.length cc2) cs2) {pt2 psl2 : Nat} (hpt2 : pt2 < 256) (hps2 : psl2 < 256) : Calls Tryz.prog 12 #[.agg #[.int .u8 (((pt : Nat) : Int)), .int .u8 (((psl : Nat) : Int)), .slice (ca) (cs.length) (cc)], .agg #[.int .u8 (((pt2 : Nat) : Int)), .int .u8 (((psl2 : Nat) : Int)), .slice (ca2) (cs2.length) (cc2)]] w (Ret w0 G L fun _ v => v = .bool true) := by
 have S0 := S
 have S20 := S2
 refine calls_start (vs := [_, _]) Tryz.func12 rfl (n := 92) rfl rfl ?_
 intro a F
 refine wp_seq <| w_reg <| rl_box F M rfl (cs := [.int .u8 (((pt : Nat) : Int)), .int .u8 (((psl : Nat) : Int)), .slice (ca) (cs.length) (cc)]) rfl rfl ?_; clear F M a; intro b1 w a M F
 refine rl_box F M rfl (cs := [.int .u8 (((pt2 : Nat) : Int)), .int .u8 (((psl2 : Nat) : Int)), .slice (ca2) (cs2.length) (cc2)]) rfl rfl ?_; clear F M a; intro b2 w a M F
 refine rl_run F (run_assign (F.ev rfl)) rfl ?_; clear F a; intro a F
 refine rl_nil <| q_tn <| wp_seq <| w_threads [⟨0, 1, 4, 6, 2, 10, 11, 5, b1, 24, 30, 14, [.int .u8 (((pt : Nat) : Int)), .int .u8 (((psl : Nat) : Int)), .slice (ca) (cs.length) (cc)], [.int .u8 (0), .string (str ([] : List UInt8)), .string (str ([] : List UInt8)), .slice none (0) (0), .string (str ([] : List UInt8)), .slice none (0) (0)], (GoodA w0 G (nofFn cs pt psl))⟩, ⟨2, 3, 5, 7, 3, 12, 13, 6, b2, 24, 30, 14, [.int .u8 (((pt2 : Nat) : Int)), .int .u8 (((psl2 : Nat) : Int)), .slice (ca2) (cs2.length) (cc2)], [.int .u8 (0), .string (str ([] : List UInt8)), .string (str ([] : List UInt8)), .slice none (0) (0), .string (str ([] : List UInt8)), .slice none (0) (0)], (GoodE (nofFn cs2 pt2 psl2))⟩] rfl F M (by kernel_rfl) (by kernel_rfl) (by kernel_rfl) (by kernel_rfl) ⟨⟨⟨_, _, _, rfl⟩, ⟨_, _, _, _, rfl, rfl⟩, ⟨_, _, _, rfl⟩, ⟨_, _, _, rfl, rfl, rfl⟩, rfl, rfl, ⟨rfl, rfl, rfl⟩, ent14, ⟨_, tok24, rfl, rfl⟩, ⟨_, tok30, rfl, rfl⟩⟩, ⟨⟨_, _, _, rfl⟩, ⟨_, _, _, _, rfl, rfl⟩, ⟨_, _, _, rfl⟩, ⟨_, _, _, rfl, rfl, rfl⟩, rfl, rfl, ⟨rfl, rfl, rfl⟩, ent14, ⟨_, tok24, rfl, rfl⟩, ⟨_, tok30, rfl, rfl⟩⟩, trivial⟩ ⟨does_nofA S hpt hps, does_nofE S2 hpt2 hps2, trivial⟩ ⟨⟨rfl, by simp⟩, ⟨rfl, by simp⟩, trivial⟩ (fun r h => by cases h) ?_
 clear F M a; rintro a w Gq3 _ F hGq3 M ⟨_, _, rfl, ⟨_, bq3_0, dq3_0, eq3_0, fq3_0, ⟨xq3_0, taq3_0, kaq3_0, tcq3_0, kcq3_0, csaq3_0, cskq3_0, G1q3_0, rfl, hVq3_0, hkq3_0, hlq3_0, SAq3_0, SKq3_0, heq3_0, hgq3_0, Eaq3_0, Ekq3_0, bkq3_0⟩, rfl⟩, _, _, rfl, ⟨_, bq3_1, dq3_1, eq3_1, fq3_1, ⟨xq3_1, taq3_1, kaq3_1, tcq3_1, kcq3_1, rfl, hVq3_1, hkq3_1, hlq3_1, SAq3_1, SKq3_1, heq3_1⟩, rfl⟩, rfl⟩
 replace S := S.mono mono_rdB hGq3
 replace S2 := S2.mono mono_rdB hGq3
 replace F := ((((((F.add (d := 10) (v := .agg #[.int .u8 (((pt : Nat) : Int)), .int .u8 (((psl : Nat) : Int)), .slice (ca) (cs.length) (cc)]) dq3_0).add (d := 11) (v := .agg #[.int .u8 (xq3_0.kind), .string (str (xq3_0.tag)), .string (str (xq3_0.key)), .slice (taq3_0) (xq3_0.as.length) (tcq3_0), .string (str (xq3_0.text)), .slice (kaq3_0) (xq3_0.kids.length) (kcq3_0)]) eq3_0).add (d := 5) (v := .pointer (some ⟨bq3_0, 0, none⟩)) fq3_0).add (d := 12) (v := .agg #[.int .u8 (((pt2 : Nat) : Int)), .int .u8 (((psl2 : Nat) : Int)), .slice (ca2) (cs2.length) (cc2)]) dq3_1).add (d := 13) (v := .agg #[.int .u8 (xq3_1.kind), .string (str (xq3_1.tag)), .string (str (xq3_1.key)), .slice (taq3_1) (xq3_1.as.length) (tcq3_1), .string (str (xq3_1.text)), .slice (kaq3_1) (xq3_1.kids.length) (kcq3_1)]) eq3_1).add (d := 6) (v := .pointer (some ⟨bq3_1, 0, none⟩)) fq3_1)
 clear dq3_0 eq3_0 fq3_0 dq3_1 eq3_1 fq3_1
 change Mem w0 Gq3 (.blk bq3_0 [.int .u8 (xq3_0.kind), .string (str (xq3_0.tag)), .string (str (xq3_0.key)), .slice (taq3_0) (xq3_0.as.length) (tcq3_0), .string (str (xq3_0.text)), .slice (kaq3_0) (xq3_0.kids.length) (kcq3_0)] 30 :: .blk bq3_1 [.int .u8 (xq3_1.kind), .string (str (xq3_1.tag)), .string (str (xq3_1.key)), .slice (taq3_1) (xq3_1.as.length) (tcq3_1), .string (str (xq3_1.text)), .slice (kaq3_1) (xq3_1.kids.length) (kcq3_1)] 30 :: .blk b2 [.int .u8 (((pt2 : Nat) : Int)), .int .u8 (((psl2 : Nat) : Int)), .slice (ca2) (cs2.length) (cc2)] 24 :: .blk b1 [.int .u8 (((pt : Nat) : Int)), .int .u8 (((psl : Nat) : Int)), .slice (ca) (cs.length) (cc)] 24 :: L) _ at M
 refine q_tn <| wp_seq <| w_reg <| rl_run F (run_loadA tok30 rfl (F.ev rfl) (cs := [.int .u8 (xq3_0.kind), .string (str (xq3_0.tag)), .string (str (xq3_0.key)), .slice (taq3_0) (xq3_0.as.length) (tcq3_0), .string (str (xq3_0.text)), .slice (kaq3_0) (xq3_0.kids.length) (kcq3_0)]) rfl (M.cellsL (k := 0) rfl rfl)) rfl ?_; clear F a; intro a F
 refine rl_run F (run_loadA tok30 rfl (F.ev rfl) (cs := [.int .u8 (xq3_1.kind), .string (str (xq3_1.tag)), .string (str (xq3_1.key)), .slice (taq3_1) (xq3_1.as.length) (tcq3_1), .string (str (xq3_1.text)), .slice (kaq3_1) (xq3_1.kids.length) (kcq3_1)]) rfl (M.cellsL (k := 1) rfl rfl)) rfl ?_; clear F a; intro a F
 refine rl_callS F ent18 rfl rfl (rsame_spec (x := xq3_0) (u := xq3_1) M hkq3_0 hlq3_0 SAq3_0 SKq3_0 hkq3_1 hlq3_1 SAq3_1 SKq3_1) ?_; clear F M a; rintro _ w a M rfl F
 refine rl_run F (run_eqi (F.ev rfl) (F.ev rfl)) rfl ?_; clear F a; intro a F
 refine rl_run F (run_assign (F.ev rfl)) rfl ?_; clear F a; intro a F
 refine rl_nil <| q_tn ?_
 iterate 2 (refine wp_seq ?_)
 refine w_reg <| rl_run F (run_loadA tok30 rfl (F.ev rfl) (cs := [.int .u8 (xq3_0.kind), .string (str (xq3_0.tag)), .string (str (xq3_0.key)), .slice (taq3_0) (xq3_0.as.length) (tcq3_0), .string (str (xq3_0.text)), .slice (kaq3_0) (xq3_0.kids.length) (kcq3_0)]) rfl (M.cellsL (k := 0) rfl rfl)) rfl ?_; clear F a; intro a F
 refine rl_run F (run_loadA tok30 rfl (F.ev rfl) (cs := [.int .u8 (xq3_1.kind), .string (str (xq3_1.tag)), .string (str (xq3_1.key)), .slice (taq3_1) (xq3_1.as.length) (tcq3_1), .string (str (xq3_1.text)), .slice (kaq3_1) (xq3_1.kids.length) (kcq3_1)]) rfl (M.cellsL (k := 1) rfl rfl)) rfl ?_; clear F a; intro a F
 refine rl_callS F ent41 rfl rfl (nsame_spec (x := xq3_0) (u := xq3_1) M hkq3_0 hlq3_0 SAq3_0 SKq3_0 hkq3_1 hlq3_1 SAq3_1 SKq3_1) ?_; clear F M a; rintro _ w a M rfl F
 refine rl_run F (run_move (F.ev rfl)) rfl ?_; clear F a; intro a F
 rw [nsam_is hVq3_0 hVq3_1] at F
 refine rl_run F (run_neb tok4.k (F.ev rfl) (F.ev rfl)) rfl ?_; clear F a; intro a F
 refine rl_run F (run_move (F.ev rfl)) rfl ?_; clear F a; intro a F
 refine rl_guard_t F rfl rfl rfl (by simp) ?_
 refine rl_run F (run_loadA tok30 rfl (F.ev rfl) (cs := [.int .u8 (xq3_1.kind), .string (str (xq3_1.tag)), .string (str (xq3_1.key)), .slice (taq3_1) (xq3_1.as.length) (tcq3_1), .string (str (xq3_1.text)), .slice (kaq3_1) (xq3_1.kids.length) (kcq3_1)]) rfl (M.cellsL (k := 1) rfl rfl)) rfl ?_; clear F a; intro a F
 refine rl_guard_t F rfl rfl rfl (by simp) ?_
 refine rl_run F (run_loadA tok30 rfl (F.ev rfl) (cs := [.int .u8 (xq3_0.kind), .string (str (xq3_0.tag)), .string (str (xq3_0.key)), .slice (taq3_0) (xq3_0.as.length) (tcq3_0), .string (str (xq3_0.text)), .slice (kaq3_0) (xq3_0.kids.length) (kcq3_0)]) rfl (M.cellsL (k := 0) rfl rfl)) rfl ?_; clear F a; intro a F
 refine rl_guard_t F rfl rfl rfl (by simp) ?_
 refine rl_callS F ent41 rfl rfl (nsame_spec (x := xq3_1) (u := xq3_0) M hkq3_1 hlq3_1 SAq3_1 SKq3_1 hkq3_0 hlq3_0 SAq3_0 SKq3_0) ?_; clear F M a; rintro _ w a M rfl F
 refine rl_guard_t F rfl rfl rfl (by simp) ?_
 refine rl_run F (run_move (F.ev rfl)) rfl ?_; clear F a; intro a F
 rw [nsam_is2 hVq3_0 hVq3_1] at F
 refine rl_guard_t F rfl rfl rfl (by simp) ?_
 refine rl_run F (run_neb tok4.k (F.ev rfl) (F.ev rfl)) rfl ?_; clear F a; intro a F
 refine rl_run F (run_pick_f (F.ev rfl) (by simp) (F.ev rfl)) rfl ?_; clear F a; intro a F
 refine rl_run F (run_move (F.ev rfl)) rfl ?_; clear F a; intro a F
 refine rl_guard_t F rfl rfl rfl (by simp) ?_
 refine rl_run F (run_loadA tok30 rfl (F.ev rfl) (cs := [.int .u8 (xq3_0.kind), .string (str (xq3_0.tag)), .string (str (xq3_0.key)), .slice (taq3_0) (xq3_0.as.length) (tcq3_0), .string (str (xq3_0.text)), .slice (kaq3_0) (xq3_0.kids.length) (kcq3_0)]) rfl (M.cellsL (k := 0) rfl rfl)) rfl ?_; clear F a; intro a F
 refine rl_guard_t F rfl rfl rfl (by simp) ?_
 refine rl_run F (run_loadA tok30 rfl (F.ev rfl) (cs := [.int .u8 (xq3_0.kind), .string (str (xq3_0.tag)), .string (str (xq3_0.key)), .slice (taq3_0) (xq3_0.as.length) (tcq3_0), .string (str (xq3_0.text)), .slice (kaq3_0) (xq3_0.kids.length) (kcq3_0)]) rfl (M.cellsL (k := 0) rfl rfl)) rfl ?_; clear F a; intro a F
 refine rl_guard_t F rfl rfl rfl (by simp) ?_
 refine rl_callS F ent41 rfl rfl (nsame_spec (x := xq3_0) (u := xq3_0) M hkq3_0 hlq3_0 SAq3_0 SKq3_0 hkq3_0 hlq3_0 SAq3_0 SKq3_0) ?_; clear F M a; rintro _ w a M rfl F
 rw [nsamF_yes hVq3_0] at F
 refine rl_guard_t F rfl rfl rfl (by simp) ?_
 refine rl_run F (run_not (F.ev rfl)) rfl ?_; clear F a; intro a F
 refine rl_run F (run_pick_f (F.ev rfl) (by simp) (F.ev rfl)) rfl ?_; clear F a; intro a F
 refine rl_nil <| q_tn <| w_cond_f F rfl rfl ?_
 refine wp_skip <| q_tn <| wp_seq ?_
 have Sq := S0
 have S2q := S20
 obtain ⟨Gt4, hGt4, M⟩ := bkq3_0 _ _ _ (Gle.refl _) M
 clear bkq3_0
 clear S; have S := (Sq.mono mono_rdB hgq3_0).mono mono_rdB hGt4; clear Sq
 clear S2; have S2 := (S2q.mono mono_rdB hgq3_0).mono mono_rdB hGt4; clear S2q
 replace Eaq3_0 := Eaq3_0.mono mono_rdAttr hGt4
 replace Ekq3_0 := Ekq3_0.mono mono_rdN hGt4
 change Mem w0 Gt4 (.row (.slice (kaq3_0) (xq3_0.kids.length) (kcq3_0)) (xq3_0.kids.length) (cskq3_0) 30 6 :: .row (.slice (taq3_0) (xq3_0.as.length) (tcq3_0)) (xq3_0.as.length) (csaq3_0) 87 2 :: .blk bq3_0 [.int .u8 (xq3_0.kind), .string (str (xq3_0.tag)), .string (str (xq3_0.key)), .slice (taq3_0) (xq3_0.as.length) (tcq3_0), .string (str (xq3_0.text)), .slice (kaq3_0) (xq3_0.kids.length) (kcq3_0)] 30 :: .blk bq3_1 [.int .u8 (xq3_1.kind), .string (str (xq3_1.tag)), .string (str (xq3_1.key)), .slice (taq3_1) (xq3_1.as.length) (tcq3_1), .string (str (xq3_1.text)), .slice (kaq3_1) (xq3_1.kids.length) (kcq3_1)] 30 :: .blk b2 [.int .u8 (((pt2 : Nat) : Int)), .int .u8 (((psl2 : Nat) : Int)), .slice (ca2) (cs2.length) (cc2)] 24 :: .blk b1 [.int .u8 (((pt : Nat) : Int)), .int .u8 (((psl : Nat) : Int)), .slice (ca) (cs.length) (cc)] 24 :: L) _ at M
 have bKr := M.row_bound (k := 0) rfl
 have bAr := M.row_bound (k := 1) rfl
 refine w_threads [⟨0, 1, 4, 6, 5, 36, 37, 8, bq3_0, 30, 30, 49, [.int .u8 (xq3_0.kind), .string (str (xq3_0.tag)), .string (str (xq3_0.key)), .slice (taq3_0) (xq3_0.as.length) (tcq3_0), .string (str (xq3_0.text)), .slice (kaq3_0) (xq3_0.kids.length) (kcq3_0)], [.int .u8 (0), .string (str ([] : List UInt8)), .string (str ([] : List UInt8)), .slice none (0) (0), .string (str ([] : List UInt8)), .slice none (0) (0)], (GoodY xq3_0)⟩, ⟨2, 3, 5, 7, 5, 38, 39, 9, bq3_0, 30, 30, 42, [.int .u8 (xq3_0.kind), .string (str (xq3_0.tag)), .string (str (xq3_0.key)), .slice (taq3_0) (xq3_0.as.length) (tcq3_0), .string (str (xq3_0.text)), .slice (kaq3_0) (xq3_0.kids.length) (kcq3_0)], [.int .u8 (0), .string (str ([] : List UInt8)), .string (str ([] : List UInt8)), .slice none (0) (0), .string (str ([] : List UInt8)), .slice none (0) (0)], (GoodY (strF xq3_0))⟩] rfl F M (by kernel_rfl) (by kernel_rfl) (by kernel_rfl) (by kernel_rfl) ⟨⟨⟨_, _, _, rfl⟩, ⟨_, _, _, _, rfl, rfl⟩, ⟨_, _, _, rfl⟩, ⟨_, _, _, rfl, rfl, rfl⟩, rfl, rfl, ⟨rfl, rfl, rfl⟩, ent49, ⟨_, tok30, rfl, rfl⟩, ⟨_, tok30, rfl, rfl⟩⟩, ⟨⟨_, _, _, rfl⟩, ⟨_, _, _, _, rfl, rfl⟩, ⟨_, _, _, rfl⟩, ⟨_, _, _, rfl, rfl, rfl⟩, rfl, rfl, ⟨rfl, rfl, rfl⟩, ent42, ⟨_, tok30, rfl, rfl⟩, ⟨_, tok30, rfl, rfl⟩⟩, trivial⟩ ⟨does_copyO Eaq3_0 Ekq3_0 hkq3_0 hlq3_0 (cpyF_yes hVq3_0), does_stripO Eaq3_0 Ekq3_0 hkq3_0 hlq3_0 rfl, trivial⟩ ⟨⟨rfl, by simp⟩, ⟨rfl, by simp⟩, trivial⟩ (fun r h => by rcases List.mem_cons.1 h with rfl | h; exact List.mem_cons_self; rw [List.mem_singleton.1 h]; exact List.mem_cons_of_mem _ List.mem_cons_self) ?_
 clear F M a; rintro a w Gq5 _ F hGq5 M ⟨_, _, rfl, ⟨_, bq5_0, dq5_0, eq5_0, fq5_0, ⟨taq5_0, kaq5_0, rfl, hkq5_0, hlq5_0, SAq5_0, SKq5_0⟩, rfl⟩, _, _, rfl, ⟨_, bq5_1, dq5_1, eq5_1, fq5_1, ⟨taq5_1, kaq5_1, rfl, hkq5_1, hlq5_1, SAq5_1, SKq5_1⟩, rfl⟩, rfl⟩
 replace S := S.mono mono_rdB hGq5
 replace S2 := S2.mono mono_rdB hGq5
 replace Eaq3_0 := Eaq3_0.mono mono_rdAttr hGq5
 replace Ekq3_0 := Ekq3_0.mono mono_rdN hGq5
 replace F := ((((((F.add (d := 36) (v := .agg #[.int .u8 (xq3_0.kind), .string (str (xq3_0.tag)), .string (str (xq3_0.key)), .slice (taq3_0) (xq3_0.as.length) (tcq3_0), .string (str (xq3_0.text)), .slice (kaq3_0) (xq3_0.kids.length) (kcq3_0)]) dq5_0).add (d := 37) (v := .agg #[.int .u8 (xq3_0.kind), .string (str (xq3_0.tag)), .string (str (xq3_0.key)), .slice (taq5_0) (xq3_0.as.length) (xq3_0.as.length), .string (str (xq3_0.text)), .slice (kaq5_0) (xq3_0.kids.length) (xq3_0.kids.length)]) eq5_0).add (d := 8) (v := .pointer (some ⟨bq5_0, 0, none⟩)) fq5_0).add (d := 38) (v := .agg #[.int .u8 (xq3_0.kind), .string (str (xq3_0.tag)), .string (str (xq3_0.key)), .slice (taq3_0) (xq3_0.as.length) (tcq3_0), .string (str (xq3_0.text)), .slice (kaq3_0) (xq3_0.kids.length) (kcq3_0)]) dq5_1).add (d := 39) (v := .agg #[.int .u8 ((strF xq3_0).kind), .string (str ((strF xq3_0).tag)), .string (str ((strF xq3_0).key)), .slice (taq5_1) ((strF xq3_0).as.length) ((strF xq3_0).as.length), .string (str ((strF xq3_0).text)), .slice (kaq5_1) ((strF xq3_0).kids.length) ((strF xq3_0).kids.length)]) eq5_1).add (d := 9) (v := .pointer (some ⟨bq5_1, 0, none⟩)) fq5_1)
 clear dq5_0 eq5_0 fq5_0 dq5_1 eq5_1 fq5_1
 change Mem w0 Gq5 (.blk bq5_0 [.int .u8 (xq3_0.kind), .string (str (xq3_0.tag)), .string (str (xq3_0.key)), .slice (taq5_0) (xq3_0.as.length) (xq3_0.as.length), .string (str (xq3_0.text)), .slice (kaq5_0) (xq3_0.kids.length) (xq3_0.kids.length)] 30 :: .blk bq5_1 [.int .u8 ((strF xq3_0).kind), .string (str ((strF xq3_0).tag)), .string (str ((strF xq3_0).key)), .slice (taq5_1) ((strF xq3_0).as.length) ((strF xq3_0).as.length), .string (str ((strF xq3_0).text)), .slice (kaq5_1) ((strF xq3_0).kids.length) ((strF xq3_0).kids.length)] 30 :: .row (.slice (kaq3_0) (xq3_0.kids.length) (kcq3_0)) (xq3_0.kids.length) (cskq3_0) 30 6 :: .row (.slice (taq3_0) (xq3_0.as.length) (tcq3_0)) (xq3_0.as.length) (csaq3_0) 87 2 :: .blk bq3_0 [.int .u8 (xq3_0.kind), .string (str (xq3_0.tag)), .string (str (xq3_0.key)), .slice (taq3_0) (xq3_0.as.length) (tcq3_0), .string (str (xq3_0.text)), .slice (kaq3_0) (xq3_0.kids.length) (kcq3_0)] 30 :: .blk bq3_1 [.int .u8 (xq3_1.kind), .string (str (xq3_1.tag)), .string (str (xq3_1.key)), .slice (taq3_1) (xq3_1.as.length) (tcq3_1), .string (str (xq3_1.text)), .slice (kaq3_1) (xq3_1.kids.length) (kcq3_1)] 30 :: .blk b2 [.int .u8 (((pt2 : Nat) : Int)), .int .u8 (((psl2 : Nat) : Int)), .slice (ca2) (cs2.length) (cc2)] 24 :: .blk b1 [.int .u8 (((pt : Nat) : Int)), .int .u8 (((psl : Nat) : Int)), .slice (ca) (cs.length) (cc)] 24 :: L) _ at M
 refine q_tn ?_
 iterate 2 (refine wp_seq ?_)
 refine w_reg <| rl_run F (run_fieldAddr tok30.k rfl rfl (F.ev rfl)) rfl ?_; clear F a; intro a F
 refine rl_run F (run_load1 (agf tok27 rfl) (F.ev rfl) (M.cellL (k := 4) rfl rfl)) rfl ?_; clear F a; intro a F
 refine rl_run F (run_lenSl tok27.k (F.ev rfl)) rfl ?_; clear F a; intro a F
 refine rl_run F (run_gtr (F.ev rfl) (F.ev rfl)) rfl ?_; clear F a; intro a F
 refine rl_nil <| q_tn <| w_cond F rfl ?_ ?_
 ·intro hc
  have h6b := hc; clear hc
  have h6 : 0 < ((xq3_0.as.length : Nat) : Int) := of_decide_eq_true h6b
  refine w_reg <| rl_run F (run_fieldAddr tok30.k rfl rfl (F.ev rfl)) rfl ?_; clear F a; intro a F
  refine rl_run F (run_load1 (agf tok27 rfl) (F.ev rfl) (M.cellL (k := 4) rfl rfl)) rfl ?_; clear F a; intro a F
  obtain ⟨Xe7, hXe7⟩ := get_of_lt (xs := xq3_0.as) (i := 0) (by omega)
  obtain ⟨be7, _, Ie7, hme7, _, Ae7, ⟨rfl, hn1e7, hv1e7⟩⟩ := M.atRow (k := 3) rfl (by decide) Eaq3_0 hXe7
  refine rl_run F (run_indexI tok27.k tok87 (F.ev rfl) (F.ev rfl) (by omega) Ie7) rfl ?_; clear F a; intro a F
  refine rl_run F (run_fieldAddr tok87.k rfl rfl (F.ev rfl)) rfl ?_; clear F a; intro a F
  refine rl_run F (run_load1 (agf tok9 rfl) (F.ev rfl) (cellE Ae7 1 rfl rfl)) rfl ?_; clear F a; intro a F
  have hT9 := valid_att hVq3_0 hXe7
  refine rl_run F (run_strAdd (F.ev rfl) (F.ev rfl) (by rw [List.length_singleton]; omega)) rfl ?_; clear F a; intro a F
  obtain ⟨be8, _, Ie8, hme8, _, Ae8, ⟨rfl, hn1e8, hv1e8⟩⟩ := M.atRow (k := 3) rfl (by decide) Eaq3_0 hXe7
  refine rl_run F (run_indexI tok27.k tok87 (F.ev rfl) (F.ev rfl) (by omega) Ie8) rfl ?_; clear F a; intro a F
  refine rl_run F (run_fieldAddr tok87.k rfl rfl (F.ev rfl)) rfl ?_; clear F a; intro a F
  refine rl_storeElF F M tok9 rfl (k := 3) rfl Eaq3_0 Ie8 hXe7 (f := 1) (by decide) rfl rfl rfl rfl (X' := (⟨Xe7.n, Xe7.v ++ [33]⟩ : AttrD)) (by rintro ch hc ⟨rfl, h1, h2⟩; exact ⟨rfl, h1, by have := valid_att hVq3_0 hXe7; show (Xe7.v ++ [33]).length ≤ _; rw [List.length_append, List.length_singleton]; omega⟩) ?_; clear F M a; intro csu9 w a M Eu9 F
  refine rl_nil <| q_tn ?_
  iterate 2 (refine wp_seq ?_)
  refine w_reg <| rl_run F (run_fieldAddr tok30.k rfl rfl (F.ev rfl)) rfl ?_; clear F a; intro a F
  refine rl_run F (run_load1 (agf tok28 rfl) (F.ev rfl) (M.cellL (k := 4) rfl rfl)) rfl ?_; clear F a; intro a F
  refine rl_run F (run_lenSl tok28.k (F.ev rfl)) rfl ?_; clear F a; intro a F
  refine rl_run F (run_gtr (F.ev rfl) (F.ev rfl)) rfl ?_; clear F a; intro a F
  refine rl_nil <| q_tn <| w_cond F rfl ?_ ?_
  ·intro hc
   have h10b := hc; clear hc
   have h10 : 0 < ((xq3_0.kids.length : Nat) : Int) := of_decide_eq_true h10b
   refine wp_seq <| w_reg <| rl_run F (run_fieldAddr tok30.k rfl rfl (F.ev rfl)) rfl ?_; clear F a; intro a F
   refine rl_run F (run_load1 (agf tok28 rfl) (F.ev rfl) (M.cellL (k := 4) rfl rfl)) rfl ?_; clear F a; intro a F
   obtain ⟨Xe11, hXe11⟩ := get_of_lt (xs := xq3_0.kids) (i := 0) (by omega)
   obtain ⟨be11, _, Ie11, hme11, _, Ae11, hTe11⟩ := M.atRow (k := 2) rfl (by decide) Ekq3_0 hXe11
   obtain ⟨tae11, tce11, kae11, kce11, rfl, hke11, hle11, SAe11, SKe11⟩ := rdT_open hTe11
   refine rl_run F (run_indexI tok28.k tok30 (F.ev rfl) (F.ev rfl) (by omega) Ie11) rfl ?_; clear F a; intro a F
   refine rl_run F (run_fieldAddr tok30.k rfl rfl (F.ev rfl)) rfl ?_; clear F a; intro a F
   refine rl_run F (run_load1 (agf tok9 rfl) (F.ev rfl) (cellE Ae11 4 rfl rfl)) rfl ?_; clear F a; intro a F
   have hT9 := valid_txt hVq3_0 hXe11
   refine rl_run F (run_strAdd (F.ev rfl) (F.ev rfl) (by rw [List.length_singleton]; omega)) rfl ?_; clear F a; intro a F
   obtain ⟨be12, _, Ie12, hme12, _, Ae12, hTe12⟩ := M.atRow (k := 2) rfl (by decide) Ekq3_0 hXe11
   obtain ⟨tae12, tce12, kae12, kce12, rfl, hke12, hle12, SAe12, SKe12⟩ := rdT_open hTe12
   refine rl_run F (run_indexI tok28.k tok30 (F.ev rfl) (F.ev rfl) (by omega) Ie12) rfl ?_; clear F a; intro a F
   refine rl_run F (run_fieldAddr tok30.k rfl rfl (F.ev rfl)) rfl ?_; clear F a; intro a F
   have hT8 : ∀ (q : Nat) (c : NT), ((xq3_0.kids).set 0 (.mk Xe11.kind Xe11.tag Xe11.key Xe11.as (Xe11.text ++ [33]) Xe11.kids : NT))[q]? = some c → c.tag.length ≤ 16 := fun q c hc => set_tag (fun q c hc => (valid_txt hVq3_0 hc).2) (show ((.mk Xe11.kind Xe11.tag Xe11.key Xe11.as (Xe11.text ++ [33]) Xe11.kids : NT)).tag.length ≤ 16 from hT9.2) hc
   refine rl_storeElF F M tok9 rfl (k := 2) rfl Ekq3_0 Ie12 hXe11 (f := 4) (by decide) rfl rfl rfl rfl (X' := (.mk Xe11.kind Xe11.tag Xe11.key Xe11.as (Xe11.text ++ [33]) Xe11.kids : NT)) (by intro ch hc hr; obtain ⟨_, _, _, _, rfl, h1, h2, h3, h4⟩ := rdT_open hr; exact rdT_close (x := (.mk Xe11.kind Xe11.tag Xe11.key Xe11.as (Xe11.text ++ [33]) Xe11.kids : NT)) h1 ⟨h2.1, h2.2.1, by show (Xe11.text ++ [33]).length ≤ _; rw [List.length_append, List.length_singleton]; omega⟩ h3 h4) ?_; clear F M a; intro csu13 w a M Eu13 F
   refine rl_nil <| q_tn <| w_reg <| rl_run F (run_fieldAddr tok30.k rfl rfl (F.ev rfl)) rfl ?_; clear F a; intro a F
   refine rl_run F (run_load1 (agf tok28 rfl) (F.ev rfl) (M.cellL (k := 4) rfl rfl)) rfl ?_; clear F a; intro a F
   refine rl_run F (run_fieldAddr tok30.k rfl rfl (F.ev rfl)) rfl ?_; clear F a; intro a F
   refine rl_run F (run_load1 (agf tok28 rfl) (F.ev rfl) (M.cellL (k := 4) rfl rfl)) rfl ?_; clear F a; intro a F
   refine rl_run F (run_lenSl tok28.k (F.ev rfl)) rfl ?_; clear F a; intro a F
   refine rl_run F (run_subi (F.ev rfl) (F.ev rfl) (in_i64 (by omega) (by omega))) rfl ?_; clear F a; intro a F
   have hs14 : ((((xq3_0.kids.length : Nat) : Int)) - 1 : Int) = ((xq3_0.kids.length - 1 : Nat) : Int) := by omega
   rw [hs14] at F
   obtain ⟨Xe15, hXe15⟩ := get_of_lt (xs := (xq3_0.kids).set (0) ((.mk Xe11.kind Xe11.tag Xe11.key Xe11.as (Xe11.text ++ [33]) Xe11.kids : NT))) (i := xq3_0.kids.length - 1) (by rw [List.length_set]; omega)
   obtain ⟨be15, _, Ie15, hme15, _, Ae15, hTe15⟩ := M.atRow (k := 2) rfl (by decide) Eu13 hXe15
   obtain ⟨tae15, tce15, kae15, kce15, rfl, hke15, hle15, SAe15, SKe15⟩ := rdT_open hTe15
   refine rl_run F (run_indexI tok28.k tok30 (F.ev rfl) (F.ev rfl) (by omega) Ie15) rfl ?_; clear F a; intro a F
   refine rl_run F (run_fieldAddr tok30.k rfl rfl (F.ev rfl)) rfl ?_; clear F a; intro a F
   refine rl_run F (run_load1 (agf tok9 rfl) (F.ev rfl) (cellE Ae15 1 rfl rfl)) rfl ?_; clear F a; intro a F
   have hT7 := hT8 _ _ hXe15
   refine rl_run F (run_strAdd (F.ev rfl) (F.ev rfl) (by rw [List.length_singleton]; omega)) rfl ?_; clear F a; intro a F
   obtain ⟨be16, _, Ie16, hme16, _, Ae16, hTe16⟩ := M.atRow (k := 2) rfl (by decide) Eu13 hXe15
   obtain ⟨tae16, tce16, kae16, kce16, rfl, hke16, hle16, SAe16, SKe16⟩ := rdT_open hTe16
   refine rl_run F (run_indexI tok28.k tok30 (F.ev rfl) (F.ev rfl) (by omega) Ie16) rfl ?_; clear F a; intro a F
   refine rl_run F (run_fieldAddr tok30.k rfl rfl (F.ev rfl)) rfl ?_; clear F a; intro a F
   refine rl_storeElF F M tok9 rfl (k := 2) rfl Eu13 Ie16 hXe15 (f := 1) (by decide) rfl rfl rfl rfl (X' := (.mk Xe15.kind (Xe15.tag ++ [122]) Xe15.key Xe15.as Xe15.text Xe15.kids : NT)) (by intro ch hc hr; obtain ⟨_, _, _, _, rfl, h1, h2, h3, h4⟩ := rdT_open hr; exact rdT_close (x := (.mk Xe15.kind (Xe15.tag ++ [122]) Xe15.key Xe15.as Xe15.text Xe15.kids : NT)) h1 ⟨by show (Xe15.tag ++ [122]).length ≤ _; rw [List.length_append, List.length_singleton]; omega, h2.2.1, h2.2.2⟩ h3 h4) ?_; clear F M a; intro csu17 w a M Eu17 F
   refine rl_nil <| q_tn <| wp_seq <| w_plan3 [(.pure, 0), (.pure, 1), (.keep, 2), (.keep, 3), (.free, 4), (.free, 5), (.pure, 6), (.pure, 7), (.keep, 8), (.keep, 9), (.keep, 10), (.free, 11), (.free, 12), (.free, 13), (.keep, 14), (.free, 15), (.free, 16)] [] (Keep Gq5 [.blk bq5_0 [.int .u8 (xq3_0.kind), .string (str (xq3_0.tag)), .string (str (xq3_0.key)), .slice (taq5_0) (xq3_0.as.length) (xq3_0.as.length), .string (str (xq3_0.text)), .slice (kaq5_0) (xq3_0.kids.length) (xq3_0.kids.length)] 30, .blk bq5_1 [.int .u8 ((strF xq3_0).kind), .string (str ((strF xq3_0).tag)), .string (str ((strF xq3_0).key)), .slice (taq5_1) ((strF xq3_0).as.length) ((strF xq3_0).as.length), .string (str ((strF xq3_0).text)), .slice (kaq5_1) ((strF xq3_0).kids.length) ((strF xq3_0).kids.length)] 30, .blk b1 [.int .u8 (((pt : Nat) : Int)), .int .u8 (((psl : Nat) : Int)), .slice (ca) (cs.length) (cc)] 24]) rfl (by kernel_rfl) (fun c a d v w h => by cases d <;> exact h) ((M.drew _).keep (Gle.refl _) (by simp)) ?_
   replace M := M.drew (w.drawn + 1)
   refine pk_pure F (fun w M => run_loadA tok30 rfl (F.ev rfl) (cs := [.int .u8 (xq3_0.kind), .string (str (xq3_0.tag)), .string (str (xq3_0.key)), .slice (taq5_0) (xq3_0.as.length) (xq3_0.as.length), .string (str (xq3_0.text)), .slice (kaq5_0) (xq3_0.kids.length) (xq3_0.kids.length)]) rfl (M.cellsL (k := 0) rfl rfl)) rfl ?_; clear F a; intro a F
   refine pk_pure F (fun w M => run_loadA tok24 rfl (F.ev rfl) (cs := [.int .u8 (((pt : Nat) : Int)), .int .u8 (((psl : Nat) : Int)), .slice (ca) (cs.length) (cc)]) rfl (M.cellsL (k := 2) rfl rfl)) rfl ?_; clear F a; intro a F
   refine pk_keep ?_ rfl
   refine rl_call F ent14 rfl rfl (nofE_spec M S (pt := pt) (psl := psl) (by omega) (by omega)) ?_; clear F M a; rintro _ Gk18 w a hGk18 M ⟨xk18, tak18, kak18, tck18, kck18, rfl, hVk18, hkk18, hlk18, SAk18, SKk18, hek18⟩ F
   replace S := S.mono mono_rdB hGk18
   replace S2 := S2.mono mono_rdB hGk18
   replace SAq5_0 := SAq5_0.mono mono_rdAttr hGk18
   replace SKq5_0 := SKq5_0.mono mono_rdNE hGk18
   replace SAq5_1 := SAq5_1.mono mono_rdAttr hGk18
   replace SKq5_1 := SKq5_1.mono mono_rdNE hGk18
   replace Eu9 := Eu9.mono mono_rdAttr hGk18
   replace SAe11 := SAe11.mono mono_rdAttr hGk18
   replace SKe11 := SKe11.mono mono_rdN hGk18
   replace SAe12 := SAe12.mono mono_rdAttr hGk18
   replace SKe12 := SKe12.mono mono_rdN hGk18
   replace SAe15 := SAe15.mono mono_rdAttr hGk18
   replace SKe15 := SKe15.mono mono_rdN hGk18
   replace SAe16 := SAe16.mono mono_rdAttr hGk18
   replace SKe16 := SKe16.mono mono_rdN hGk18
   replace Eu17 := Eu17.mono mono_rdN hGk18
   obtain rfl : xq3_0 = xk18 := heq3_0.trans hek18.symm
   refine rl_nil <| ⟨Keep Gk18 [.blk bq5_0 [.int .u8 (xq3_0.kind), .string (str (xq3_0.tag)), .string (str (xq3_0.key)), .slice (taq5_0) (xq3_0.as.length) (xq3_0.as.length), .string (str (xq3_0.text)), .slice (kaq5_0) (xq3_0.kids.length) (xq3_0.kids.length)] 30, .blk bq5_1 [.int .u8 ((strF xq3_0).kind), .string (str ((strF xq3_0).tag)), .string (str ((strF xq3_0).key)), .slice (taq5_1) ((strF xq3_0).as.length) ((strF xq3_0).as.length), .string (str ((strF xq3_0).text)), .slice (kaq5_1) ((strF xq3_0).kids.length) ((strF xq3_0).kids.length)] 30, .blk b1 [.int .u8 (((pt : Nat) : Int)), .int .u8 (((psl : Nat) : Int)), .slice (ca) (cs.length) (cc)] 24], M.keep (Gle.refl _) (by simp), fun w h => h.mono hGk18 (by simp), ?_⟩
   refine pk_keep ?_ rfl
   refine rl_callS F ent18 rfl rfl (rsame_spec (x := xq3_0) (u := xq3_0) M hkq5_0 hlq5_0 SAq5_0 (weakN SKq5_0) hkk18 hlk18 SAk18 SKk18) ?_; clear F M a; rintro _ w a M rfl F
   refine rl_nil <| ⟨Keep Gk18 [.blk bq5_0 [.int .u8 (xq3_0.kind), .string (str (xq3_0.tag)), .string (str (xq3_0.key)), .slice (taq5_0) (xq3_0.as.length) (xq3_0.as.length), .string (str (xq3_0.text)), .slice (kaq5_0) (xq3_0.kids.length) (xq3_0.kids.length)] 30, .blk bq5_1 [.int .u8 ((strF xq3_0).kind), .string (str ((strF xq3_0).tag)), .string (str ((strF xq3_0).key)), .slice (taq5_1) ((strF xq3_0).as.length) ((strF xq3_0).as.length), .string (str ((strF xq3_0).text)), .slice (kaq5_1) ((strF xq3_0).kids.length) ((strF xq3_0).kids.length)] 30, .blk b1 [.int .u8 (((pt : Nat) : Int)), .int .u8 (((psl : Nat) : Int)), .slice (ca) (cs.length) (cc)] 24], M.keep (Gle.refl _) (by simp), fun w h => h.mono (Gle.refl _) (by simp), ?_⟩
   rw [sameF_yes ⟨hVq3_0, hVq3_0, rfl⟩] at F
   refine pk_free F (fun w _ => run_eqi (F.ev rfl) (F.ev rfl)) rfl ?_; clear F a; intro a F
   refine pk_free F (fun w _ => run_move (F.ev rfl)) rfl ?_; clear F a; intro a F
   refine pk_pure_g F rfl rfl (decide_eq_true (by decide)) (fun w M => run_loadA tok30 rfl (F.ev rfl) (cs := [.int .u8 ((strF xq3_0).kind), .string (str ((strF xq3_0).tag)), .string (str ((strF xq3_0).key)), .slice (taq5_1) ((strF xq3_0).as.length) ((strF xq3_0).as.length), .string (str ((strF xq3_0).text)), .slice (kaq5_1) ((strF xq3_0).kids.length) ((strF xq3_0).kids.length)]) rfl (M.cellsL (k := 1) rfl rfl)) rfl ?_; clear F a; intro a F
   refine pk_pure_g F rfl rfl (decide_eq_true (by decide)) (fun w M => run_loadA tok24 rfl (F.ev rfl) (cs := [.int .u8 (((pt : Nat) : Int)), .int .u8 (((psl : Nat) : Int)), .slice (ca) (cs.length) (cc)]) rfl (M.cellsL (k := 2) rfl rfl)) rfl ?_; clear F a; intro a F
   refine pk_keep_g F rfl rfl (decide_eq_true (by decide)) ?_
   refine rl_guard_t F rfl rfl rfl (decide_eq_true (by decide)) ?_
   refine rl_call F ent14 rfl rfl (nofE_spec M S (pt := pt) (psl := psl) (by omega) (by omega)) ?_; clear F M a; rintro _ Gk19 w a hGk19 M ⟨xk19, tak19, kak19, tck19, kck19, rfl, hVk19, hkk19, hlk19, SAk19, SKk19, hek19⟩ F
   replace S := S.mono mono_rdB hGk19
   replace S2 := S2.mono mono_rdB hGk19
   replace SAq5_0 := SAq5_0.mono mono_rdAttr hGk19
   replace SKq5_0 := SKq5_0.mono mono_rdNE hGk19
   replace SAq5_1 := SAq5_1.mono mono_rdAttr hGk19
   replace SKq5_1 := SKq5_1.mono mono_rdNE hGk19
   replace Eu9 := Eu9.mono mono_rdAttr hGk19
   replace SAe11 := SAe11.mono mono_rdAttr hGk19
   replace SKe11 := SKe11.mono mono_rdN hGk19
   replace SAe12 := SAe12.mono mono_rdAttr hGk19
   replace SKe12 := SKe12.mono mono_rdN hGk19
   replace SAe15 := SAe15.mono mono_rdAttr hGk19
   replace SKe15 := SKe15.mono mono_rdN hGk19
   replace SAe16 := SAe16.mono mono_rdAttr hGk19
   replace SKe16 := SKe16.mono mono_rdN hGk19
   replace Eu17 := Eu17.mono mono_rdN hGk19
   replace SAk18 := SAk18.mono mono_rdAttr hGk19
   replace SKk18 := SKk18.mono mono_rdN hGk19
   obtain rfl : xq3_0 = xk19 := heq3_0.trans hek19.symm
   refine rl_nil <| ⟨Keep Gk19 [.blk bq5_0 [.int .u8 (xq3_0.kind), .string (str (xq3_0.tag)), .string (str (xq3_0.key)), .slice (taq5_0) (xq3_0.as.length) (xq3_0.as.length), .string (str (xq3_0.text)), .slice (kaq5_0) (xq3_0.kids.length) (xq3_0.kids.length)] 30, .blk bq5_1 [.int .u8 ((strF xq3_0).kind), .string (str ((strF xq3_0).tag)), .string (str ((strF xq3_0).key)), .slice (taq5_1) ((strF xq3_0).as.length) ((strF xq3_0).as.length), .string (str ((strF xq3_0).text)), .slice (kaq5_1) ((strF xq3_0).kids.length) ((strF xq3_0).kids.length)] 30, .blk b1 [.int .u8 (((pt : Nat) : Int)), .int .u8 (((psl : Nat) : Int)), .slice (ca) (cs.length) (cc)] 24], M.keep (Gle.refl _) (by simp), fun w h => h.mono hGk19 (by simp), ?_⟩
   refine pk_keep_g F rfl rfl (decide_eq_true (by decide)) ?_
   refine rl_guard_t F rfl rfl rfl (decide_eq_true (by decide)) ?_
   refine rl_call F ent43 rfl rfl (rstrip_all xq3_0 _ _ _ _ _ _ _ _ M hkk19 hlk19 SAk19 SKk19) ?_; clear F M a; rintro _ Gk20 w a hGk20 M ⟨tak20, tck20, kak20, kck20, rfl, hkk20, hlk20, SAk20, SKk20⟩ F
   replace S := S.mono mono_rdB hGk20
   replace S2 := S2.mono mono_rdB hGk20
   replace SAq5_0 := SAq5_0.mono mono_rdAttr hGk20
   replace SKq5_0 := SKq5_0.mono mono_rdNE hGk20
   replace SAq5_1 := SAq5_1.mono mono_rdAttr hGk20
   replace SKq5_1 := SKq5_1.mono mono_rdNE hGk20
   replace Eu9 := Eu9.mono mono_rdAttr hGk20
   replace SAe11 := SAe11.mono mono_rdAttr hGk20
   replace SKe11 := SKe11.mono mono_rdN hGk20
   replace SAe12 := SAe12.mono mono_rdAttr hGk20
   replace SKe12 := SKe12.mono mono_rdN hGk20
   replace SAe15 := SAe15.mono mono_rdAttr hGk20
   replace SKe15 := SKe15.mono mono_rdN hGk20
   replace SAe16 := SAe16.mono mono_rdAttr hGk20
   replace SKe16 := SKe16.mono mono_rdN hGk20
   replace Eu17 := Eu17.mono mono_rdN hGk20
   replace SAk18 := SAk18.mono mono_rdAttr hGk20
   replace SKk18 := SKk18.mono mono_rdN hGk20
   replace SAk19 := SAk19.mono mono_rdAttr hGk20
   replace SKk19 := SKk19.mono mono_rdN hGk20
   refine rl_nil <| ⟨Keep Gk20 [.blk bq5_0 [.int .u8 (xq3_0.kind), .string (str (xq3_0.tag)), .string (str (xq3_0.key)), .slice (taq5_0) (xq3_0.as.length) (xq3_0.as.length), .string (str (xq3_0.text)), .slice (kaq5_0) (xq3_0.kids.length) (xq3_0.kids.length)] 30, .blk bq5_1 [.int .u8 ((strF xq3_0).kind), .string (str ((strF xq3_0).tag)), .string (str ((strF xq3_0).key)), .slice (taq5_1) ((strF xq3_0).as.length) ((strF xq3_0).as.length), .string (str ((strF xq3_0).text)), .slice (kaq5_1) ((strF xq3_0).kids.length) ((strF xq3_0).kids.length)] 30, .blk b1 [.int .u8 (((pt : Nat) : Int)), .int .u8 (((psl : Nat) : Int)), .slice (ca) (cs.length) (cc)] 24], M.keep (Gle.refl _) (by simp), fun w h => h.mono hGk20 (by simp), ?_⟩
   refine pk_keep_g F rfl rfl (decide_eq_true (by decide)) ?_
   refine rl_guard_t F rfl rfl rfl (decide_eq_true (by decide)) ?_
   refine rl_callS F ent18 rfl rfl (rsame_spec (x := (strF xq3_0)) (u := (strF xq3_0)) M hkq5_1 hlq5_1 SAq5_1 (weakN SKq5_1) hkk20 hlk20 SAk20 SKk20) ?_; clear F M a; rintro _ w a M rfl F
   refine rl_nil <| ⟨Keep Gk20 [.blk bq5_0 [.int .u8 (xq3_0.kind), .string (str (xq3_0.tag)), .string (str (xq3_0.key)), .slice (taq5_0) (xq3_0.as.length) (xq3_0.as.length), .string (str (xq3_0.text)), .slice (kaq5_0) (xq3_0.kids.length) (xq3_0.kids.length)] 30, .blk bq5_1 [.int .u8 ((strF xq3_0).kind), .string (str ((strF xq3_0).tag)), .string (str ((strF xq3_0).key)), .slice (taq5_1) ((strF xq3_0).as.length) ((strF xq3_0).as.length), .string (str ((strF xq3_0).text)), .slice (kaq5_1) ((strF xq3_0).kids.length) ((strF xq3_0).kids.length)] 30, .blk b1 [.int .u8 (((pt : Nat) : Int)), .int .u8 (((psl : Nat) : Int)), .slice (ca) (cs.length) (cc)] 24], M.keep (Gle.refl _) (by simp), fun w h => h.mono (Gle.refl _) (by simp), ?_⟩
   rw [sameF_yes ⟨(strF_valid hVq3_0), (strF_valid hVq3_0), rfl⟩] at F
   refine pk_free_g F rfl rfl (decide_eq_true (by decide)) (fun w _ => run_eqi (F.ev rfl) (F.ev rfl)) rfl ?_; clear F a; intro a F
   refine pk_free F (fun w _ => run_pick_t (F.ev rfl) (decide_eq_true (by decide)) (F.ev rfl)) rfl ?_; clear F a; intro a F
   refine pk_free F (fun w _ => run_move (F.ev rfl)) rfl ?_; clear F a; intro a F
   refine pk_keep_g F rfl rfl (decide_eq_true (by decide)) ?_
   refine rl_guard_t F rfl rfl rfl (decide_eq_true (by decide)) ?_
   refine rl_callS F ent13 rfl rfl (nlives_spec M) ?_; clear F M a; rintro _ w a M rfl F
   refine rl_nil <| ⟨Keep Gk20 [.blk bq5_0 [.int .u8 (xq3_0.kind), .string (str (xq3_0.tag)), .string (str (xq3_0.key)), .slice (taq5_0) (xq3_0.as.length) (xq3_0.as.length), .string (str (xq3_0.text)), .slice (kaq5_0) (xq3_0.kids.length) (xq3_0.kids.length)] 30, .blk bq5_1 [.int .u8 ((strF xq3_0).kind), .string (str ((strF xq3_0).tag)), .string (str ((strF xq3_0).key)), .slice (taq5_1) ((strF xq3_0).as.length) ((strF xq3_0).as.length), .string (str ((strF xq3_0).text)), .slice (kaq5_1) ((strF xq3_0).kids.length) ((strF xq3_0).kids.length)] 30, .blk b1 [.int .u8 (((pt : Nat) : Int)), .int .u8 (((psl : Nat) : Int)), .slice (ca) (cs.length) (cc)] 24], M.keep (Gle.refl _) (by simp), fun w h => h.mono (Gle.refl _) (by simp), ?_⟩
   refine pk_free F (fun w _ => run_pick_t (F.ev rfl) (decide_eq_true (by decide)) (F.ev rfl)) rfl ?_; clear F a; intro a F
   refine pk_free F (fun w _ => run_assign (F.ev rfl)) rfl ?_; clear F a; intro a F
   refine pk_nil <| q_tn <| wp_ret <| fin1 F rfl rfl ?_
   exact ⟨_, (((((hgq3_0.trans hGt4).trans hGq5).trans hGk18).trans hGk19).trans hGk20), M.weaken (.cons _ (.cons _ (.cons _ (.cons _ (.cons _ (.cons _ (.cons _ (.cons _ (List.Sublist.refl _))))))))), by rfl⟩
  ·intro hc
   have h21b := hc; clear hc
   have h21 : ¬ (0 < ((xq3_0.kids.length : Nat) : Int)) := of_decide_eq_false h21b
   refine wp_skip <| q_tn <| wp_seq <| w_plan3 [(.pure, 0), (.pure, 1), (.keep, 2), (.keep, 3), (.free, 4), (.free, 5), (.pure, 6), (.pure, 7), (.keep, 8), (.keep, 9), (.keep, 10), (.free, 11), (.free, 12), (.free, 13), (.keep, 14), (.free, 15), (.free, 16)] [] (Keep Gq5 [.blk bq5_0 [.int .u8 (xq3_0.kind), .string (str (xq3_0.tag)), .string (str (xq3_0.key)), .slice (taq5_0) (xq3_0.as.length) (xq3_0.as.length), .string (str (xq3_0.text)), .slice (kaq5_0) (xq3_0.kids.length) (xq3_0.kids.length)] 30, .blk bq5_1 [.int .u8 ((strF xq3_0).kind), .string (str ((strF xq3_0).tag)), .string (str ((strF xq3_0).key)), .slice (taq5_1) ((strF xq3_0).as.length) ((strF xq3_0).as.length), .string (str ((strF xq3_0).text)), .slice (kaq5_1) ((strF xq3_0).kids.length) ((strF xq3_0).kids.length)] 30, .blk b1 [.int .u8 (((pt : Nat) : Int)), .int .u8 (((psl : Nat) : Int)), .slice (ca) (cs.length) (cc)] 24]) rfl (by kernel_rfl) (fun c a d v w h => by cases d <;> exact h) ((M.drew _).keep (Gle.refl _) (by simp)) ?_
   replace M := M.drew (w.drawn + 1)
   refine pk_pure F (fun w M => run_loadA tok30 rfl (F.ev rfl) (cs := [.int .u8 (xq3_0.kind), .string (str (xq3_0.tag)), .string (str (xq3_0.key)), .slice (taq5_0) (xq3_0.as.length) (xq3_0.as.length), .string (str (xq3_0.text)), .slice (kaq5_0) (xq3_0.kids.length) (xq3_0.kids.length)]) rfl (M.cellsL (k := 0) rfl rfl)) rfl ?_; clear F a; intro a F
   refine pk_pure F (fun w M => run_loadA tok24 rfl (F.ev rfl) (cs := [.int .u8 (((pt : Nat) : Int)), .int .u8 (((psl : Nat) : Int)), .slice (ca) (cs.length) (cc)]) rfl (M.cellsL (k := 2) rfl rfl)) rfl ?_; clear F a; intro a F
   refine pk_keep ?_ rfl
   refine rl_call F ent14 rfl rfl (nofE_spec M S (pt := pt) (psl := psl) (by omega) (by omega)) ?_; clear F M a; rintro _ Gk22 w a hGk22 M ⟨xk22, tak22, kak22, tck22, kck22, rfl, hVk22, hkk22, hlk22, SAk22, SKk22, hek22⟩ F
   replace S := S.mono mono_rdB hGk22
   replace S2 := S2.mono mono_rdB hGk22
   replace Ekq3_0 := Ekq3_0.mono mono_rdN hGk22
   replace SAq5_0 := SAq5_0.mono mono_rdAttr hGk22
   replace SKq5_0 := SKq5_0.mono mono_rdNE hGk22
   replace SAq5_1 := SAq5_1.mono mono_rdAttr hGk22
   replace SKq5_1 := SKq5_1.mono mono_rdNE hGk22
   replace Eu9 := Eu9.mono mono_rdAttr hGk22
   obtain rfl : xq3_0 = xk22 := heq3_0.trans hek22.symm
   refine rl_nil <| ⟨Keep Gk22 [.blk bq5_0 [.int .u8 (xq3_0.kind), .string (str (xq3_0.tag)), .string (str (xq3_0.key)), .slice (taq5_0) (xq3_0.as.length) (xq3_0.as.length), .string (str (xq3_0.text)), .slice (kaq5_0) (xq3_0.kids.length) (xq3_0.kids.length)] 30, .blk bq5_1 [.int .u8 ((strF xq3_0).kind), .string (str ((strF xq3_0).tag)), .string (str ((strF xq3_0).key)), .slice (taq5_1) ((strF xq3_0).as.length) ((strF xq3_0).as.length), .string (str ((strF xq3_0).text)), .slice (kaq5_1) ((strF xq3_0).kids.length) ((strF xq3_0).kids.length)] 30, .blk b1 [.int .u8 (((pt : Nat) : Int)), .int .u8 (((psl : Nat) : Int)), .slice (ca) (cs.length) (cc)] 24], M.keep (Gle.refl _) (by simp), fun w h => h.mono hGk22 (by simp), ?_⟩
   refine pk_keep ?_ rfl
   refine rl_callS F ent18 rfl rfl (rsame_spec (x := xq3_0) (u := xq3_0) M hkq5_0 hlq5_0 SAq5_0 (weakN SKq5_0) hkk22 hlk22 SAk22 SKk22) ?_; clear F M a; rintro _ w a M rfl F
   refine rl_nil <| ⟨Keep Gk22 [.blk bq5_0 [.int .u8 (xq3_0.kind), .string (str (xq3_0.tag)), .string (str (xq3_0.key)), .slice (taq5_0) (xq3_0.as.length) (xq3_0.as.length), .string (str (xq3_0.text)), .slice (kaq5_0) (xq3_0.kids.length) (xq3_0.kids.length)] 30, .blk bq5_1 [.int .u8 ((strF xq3_0).kind), .string (str ((strF xq3_0).tag)), .string (str ((strF xq3_0).key)), .slice (taq5_1) ((strF xq3_0).as.length) ((strF xq3_0).as.length), .string (str ((strF xq3_0).text)), .slice (kaq5_1) ((strF xq3_0).kids.length) ((strF xq3_0).kids.length)] 30, .blk b1 [.int .u8 (((pt : Nat) : Int)), .int .u8 (((psl : Nat) : Int)), .slice (ca) (cs.length) (cc)] 24], M.keep (Gle.refl _) (by simp), fun w h => h.mono (Gle.refl _) (by simp), ?_⟩
   rw [sameF_yes ⟨hVq3_0, hVq3_0, rfl⟩] at F
   refine pk_free F (fun w _ => run_eqi (F.ev rfl) (F.ev rfl)) rfl ?_; clear F a; intro a F
   refine pk_free F (fun w _ => run_move (F.ev rfl)) rfl ?_; clear F a; intro a F
   refine pk_pure_g F rfl rfl (decide_eq_true (by decide)) (fun w M => run_loadA tok30 rfl (F.ev rfl) (cs := [.int .u8 ((strF xq3_0).kind), .string (str ((strF xq3_0).tag)), .string (str ((strF xq3_0).key)), .slice (taq5_1) ((strF xq3_0).as.length) ((strF xq3_0).as.length), .string (str ((strF xq3_0).text)), .slice (kaq5_1) ((strF xq3_0).kids.length) ((strF xq3_0).kids.length)]) rfl (M.cellsL (k := 1) rfl rfl)) rfl ?_; clear F a; intro a F
   refine pk_pure_g F rfl rfl (decide_eq_true (by decide)) (fun w M => run_loadA tok24 rfl (F.ev rfl) (cs := [.int .u8 (((pt : Nat) : Int)), .int .u8 (((psl : Nat) : Int)), .slice (ca) (cs.length) (cc)]) rfl (M.cellsL (k := 2) rfl rfl)) rfl ?_; clear F a; intro a F
   refine pk_keep_g F rfl rfl (decide_eq_true (by decide)) ?_
   refine rl_guard_t F rfl rfl rfl (decide_eq_true (by decide)) ?_
   refine rl_call F ent14 rfl rfl (nofE_spec M S (pt := pt) (psl := psl) (by omega) (by omega)) ?_; clear F M a; rintro _ Gk23 w a hGk23 M ⟨xk23, tak23, kak23, tck23, kck23, rfl, hVk23, hkk23, hlk23, SAk23, SKk23, hek23⟩ F
   replace S := S.mono mono_rdB hGk23
   replace S2 := S2.mono mono_rdB hGk23
   replace Ekq3_0 := Ekq3_0.mono mono_rdN hGk23
   replace SAq5_0 := SAq5_0.mono mono_rdAttr hGk23
   replace SKq5_0 := SKq5_0.mono mono_rdNE hGk23
   replace SAq5_1 := SAq5_1.mono mono_rdAttr hGk23
   replace SKq5_1 := SKq5_1.mono mono_rdNE hGk23
   replace Eu9 := Eu9.mono mono_rdAttr hGk23
   replace SAk22 := SAk22.mono mono_rdAttr hGk23
   replace SKk22 := SKk22.mono mono_rdN hGk23
   obtain rfl : xq3_0 = xk23 := heq3_0.trans hek23.symm
   refine rl_nil <| ⟨Keep Gk23 [.blk bq5_0 [.int .u8 (xq3_0.kind), .string (str (xq3_0.tag)), .string (str (xq3_0.key)), .slice (taq5_0) (xq3_0.as.length) (xq3_0.as.length), .string (str (xq3_0.text)), .slice (kaq5_0) (xq3_0.kids.length) (xq3_0.kids.length)] 30, .blk bq5_1 [.int .u8 ((strF xq3_0).kind), .string (str ((strF xq3_0).tag)), .string (str ((strF xq3_0).key)), .slice (taq5_1) ((strF xq3_0).as.length) ((strF xq3_0).as.length), .string (str ((strF xq3_0).text)), .slice (kaq5_1) ((strF xq3_0).kids.length) ((strF xq3_0).kids.length)] 30, .blk b1 [.int .u8 (((pt : Nat) : Int)), .int .u8 (((psl : Nat) : Int)), .slice (ca) (cs.length) (cc)] 24], M.keep (Gle.refl _) (by simp), fun w h => h.mono hGk23 (by simp), ?_⟩
   refine pk_keep_g F rfl rfl (decide_eq_true (by decide)) ?_
   refine rl_guard_t F rfl rfl rfl (decide_eq_true (by decide)) ?_
   refine rl_call F ent43 rfl rfl (rstrip_all xq3_0 _ _ _ _ _ _ _ _ M hkk23 hlk23 SAk23 SKk23) ?_; clear F M a; rintro _ Gk24 w a hGk24 M ⟨tak24, tck24, kak24, kck24, rfl, hkk24, hlk24, SAk24, SKk24⟩ F
   replace S := S.mono mono_rdB hGk24
   replace S2 := S2.mono mono_rdB hGk24
   replace Ekq3_0 := Ekq3_0.mono mono_rdN hGk24
   replace SAq5_0 := SAq5_0.mono mono_rdAttr hGk24
   replace SKq5_0 := SKq5_0.mono mono_rdNE hGk24
   replace SAq5_1 := SAq5_1.mono mono_rdAttr hGk24
   replace SKq5_1 := SKq5_1.mono mono_rdNE hGk24
   replace Eu9 := Eu9.mono mono_rdAttr hGk24
   replace SAk22 := SAk22.mono mono_rdAttr hGk24
   replace SKk22 := SKk22.mono mono_rdN hGk24
   replace SAk23 := SAk23.mono mono_rdAttr hGk24
   replace SKk23 := SKk23.mono mono_rdN hGk24
   refine rl_nil <| ⟨Keep Gk24 [.blk bq5_0 [.int .u8 (xq3_0.kind), .string (str (xq3_0.tag)), .string (str (xq3_0.key)), .slice (taq5_0) (xq3_0.as.length) (xq3_0.as.length), .string (str (xq3_0.text)), .slice (kaq5_0) (xq3_0.kids.length) (xq3_0.kids.length)] 30, .blk bq5_1 [.int .u8 ((strF xq3_0).kind), .string (str ((strF xq3_0).tag)), .string (str ((strF xq3_0).key)), .slice (taq5_1) ((strF xq3_0).as.length) ((strF xq3_0).as.length), .string (str ((strF xq3_0).text)), .slice (kaq5_1) ((strF xq3_0).kids.length) ((strF xq3_0).kids.length)] 30, .blk b1 [.int .u8 (((pt : Nat) : Int)), .int .u8 (((psl : Nat) : Int)), .slice (ca) (cs.length) (cc)] 24], M.keep (Gle.refl _) (by simp), fun w h => h.mono hGk24 (by simp), ?_⟩
   refine pk_keep_g F rfl rfl (decide_eq_true (by decide)) ?_
   refine rl_guard_t F rfl rfl rfl (decide_eq_true (by decide)) ?_
   refine rl_callS F ent18 rfl rfl (rsame_spec (x := (strF xq3_0)) (u := (strF xq3_0)) M hkq5_1 hlq5_1 SAq5_1 (weakN SKq5_1) hkk24 hlk24 SAk24 SKk24) ?_; clear F M a; rintro _ w a M rfl F
   refine rl_nil <| ⟨Keep Gk24 [.blk bq5_0 [.int .u8 (xq3_0.kind), .string (str (xq3_0.tag)), .string (str (xq3_0.key)), .slice (taq5_0) (xq3_0.as.length) (xq3_0.as.length), .string (str (xq3_0.text)), .slice (kaq5_0) (xq3_0.kids.length) (xq3_0.kids.length)] 30, .blk bq5_1 [.int .u8 ((strF xq3_0).kind), .string (str ((strF xq3_0).tag)), .string (str ((strF xq3_0).key)), .slice (taq5_1) ((strF xq3_0).as.length) ((strF xq3_0).as.length), .string (str ((strF xq3_0).text)), .slice (kaq5_1) ((strF xq3_0).kids.length) ((strF xq3_0).kids.length)] 30, .blk b1 [.int .u8 (((pt : Nat) : Int)), .int .u8 (((psl : Nat) : Int)), .slice (ca) (cs.length) (cc)] 24], M.keep (Gle.refl _) (by simp), fun w h => h.mono (Gle.refl _) (by simp), ?_⟩
   rw [sameF_yes ⟨(strF_valid hVq3_0), (strF_valid hVq3_0), rfl⟩] at F
   refine pk_free_g F rfl rfl (decide_eq_true (by decide)) (fun w _ => run_eqi (F.ev rfl) (F.ev rfl)) rfl ?_; clear F a; intro a F
   refine pk_free F (fun w _ => run_pick_t (F.ev rfl) (decide_eq_true (by decide)) (F.ev rfl)) rfl ?_; clear F a; intro a F
   refine pk_free F (fun w _ => run_move (F.ev rfl)) rfl ?_; clear F a; intro a F
   refine pk_keep_g F rfl rfl (decide_eq_true (by decide)) ?_
   refine rl_guard_t F rfl rfl rfl (decide_eq_true (by decide)) ?_
   refine rl_callS F ent13 rfl rfl (nlives_spec M) ?_; clear F M a; rintro _ w a M rfl F
   refine rl_nil <| ⟨Keep Gk24 [.blk bq5_0 [.int .u8 (xq3_0.kind), .string (str (xq3_0.tag)), .string (str (xq3_0.key)), .slice (taq5_0) (xq3_0.as.length) (xq3_0.as.length), .string (str (xq3_0.text)), .slice (kaq5_0) (xq3_0.kids.length) (xq3_0.kids.length)] 30, .blk bq5_1 [.int .u8 ((strF xq3_0).kind), .string (str ((strF xq3_0).tag)), .string (str ((strF xq3_0).key)), .slice (taq5_1) ((strF xq3_0).as.length) ((strF xq3_0).as.length), .string (str ((strF xq3_0).text)), .slice (kaq5_1) ((strF xq3_0).kids.length) ((strF xq3_0).kids.length)] 30, .blk b1 [.int .u8 (((pt : Nat) : Int)), .int .u8 (((psl : Nat) : Int)), .slice (ca) (cs.length) (cc)] 24], M.keep (Gle.refl _) (by simp), fun w h => h.mono (Gle.refl _) (by simp), ?_⟩
   refine pk_free F (fun w _ => run_pick_t (F.ev rfl) (decide_eq_true (by decide)) (F.ev rfl)) rfl ?_; clear F a; intro a F
   refine pk_free F (fun w _ => run_assign (F.ev rfl)) rfl ?_; clear F a; intro a F
   refine pk_nil <| q_tn <| wp_ret <| fin1 F rfl rfl ?_
   exact ⟨_, (((((hgq3_0.trans hGt4).trans hGq5).trans hGk22).trans hGk23).trans hGk24), M.weaken (.cons _ (.cons _ (.cons _ (.cons _ (.cons _ (.cons _ (.cons _ (.cons _ (List.Sublist.refl _))))))))), by rfl⟩
 ·intro hc
  have h25b := hc; clear hc
  have h25 : ¬ (0 < ((xq3_0.as.length : Nat) : Int)) := of_decide_eq_false h25b
  refine wp_skip <| q_tn ?_
  iterate 2 (refine wp_seq ?_)
  refine w_reg <| rl_run F (run_fieldAddr tok30.k rfl rfl (F.ev rfl)) rfl ?_; clear F a; intro a F
  refine rl_run F (run_load1 (agf tok28 rfl) (F.ev rfl) (M.cellL (k := 4) rfl rfl)) rfl ?_; clear F a; intro a F
  refine rl_run F (run_lenSl tok28.k (F.ev rfl)) rfl ?_; clear F a; intro a F
  refine rl_run F (run_gtr (F.ev rfl) (F.ev rfl)) rfl ?_; clear F a; intro a F
  refine rl_nil <| q_tn <| w_cond F rfl ?_ ?_
  ·intro hc
   have h26b := hc; clear hc
   have h26 : 0 < ((xq3_0.kids.length : Nat) : Int) := of_decide_eq_true h26b
   refine wp_seq <| w_reg <| rl_run F (run_fieldAddr tok30.k rfl rfl (F.ev rfl)) rfl ?_; clear F a; intro a F
   refine rl_run F (run_load1 (agf tok28 rfl) (F.ev rfl) (M.cellL (k := 4) rfl rfl)) rfl ?_; clear F a; intro a F
   obtain ⟨Xe27, hXe27⟩ := get_of_lt (xs := xq3_0.kids) (i := 0) (by omega)
   obtain ⟨be27, _, Ie27, hme27, _, Ae27, hTe27⟩ := M.atRow (k := 2) rfl (by decide) Ekq3_0 hXe27
   obtain ⟨tae27, tce27, kae27, kce27, rfl, hke27, hle27, SAe27, SKe27⟩ := rdT_open hTe27
   refine rl_run F (run_indexI tok28.k tok30 (F.ev rfl) (F.ev rfl) (by omega) Ie27) rfl ?_; clear F a; intro a F
   refine rl_run F (run_fieldAddr tok30.k rfl rfl (F.ev rfl)) rfl ?_; clear F a; intro a F
   refine rl_run F (run_load1 (agf tok9 rfl) (F.ev rfl) (cellE Ae27 4 rfl rfl)) rfl ?_; clear F a; intro a F
   have hT9 := valid_txt hVq3_0 hXe27
   refine rl_run F (run_strAdd (F.ev rfl) (F.ev rfl) (by rw [List.length_singleton]; omega)) rfl ?_; clear F a; intro a F
   obtain ⟨be28, _, Ie28, hme28, _, Ae28, hTe28⟩ := M.atRow (k := 2) rfl (by decide) Ekq3_0 hXe27
   obtain ⟨tae28, tce28, kae28, kce28, rfl, hke28, hle28, SAe28, SKe28⟩ := rdT_open hTe28
   refine rl_run F (run_indexI tok28.k tok30 (F.ev rfl) (F.ev rfl) (by omega) Ie28) rfl ?_; clear F a; intro a F
   refine rl_run F (run_fieldAddr tok30.k rfl rfl (F.ev rfl)) rfl ?_; clear F a; intro a F
   have hT8 : ∀ (q : Nat) (c : NT), ((xq3_0.kids).set 0 (.mk Xe27.kind Xe27.tag Xe27.key Xe27.as (Xe27.text ++ [33]) Xe27.kids : NT))[q]? = some c → c.tag.length ≤ 16 := fun q c hc => set_tag (fun q c hc => (valid_txt hVq3_0 hc).2) (show ((.mk Xe27.kind Xe27.tag Xe27.key Xe27.as (Xe27.text ++ [33]) Xe27.kids : NT)).tag.length ≤ 16 from hT9.2) hc
   refine rl_storeElF F M tok9 rfl (k := 2) rfl Ekq3_0 Ie28 hXe27 (f := 4) (by decide) rfl rfl rfl rfl (X' := (.mk Xe27.kind Xe27.tag Xe27.key Xe27.as (Xe27.text ++ [33]) Xe27.kids : NT)) (by intro ch hc hr; obtain ⟨_, _, _, _, rfl, h1, h2, h3, h4⟩ := rdT_open hr; exact rdT_close (x := (.mk Xe27.kind Xe27.tag Xe27.key Xe27.as (Xe27.text ++ [33]) Xe27.kids : NT)) h1 ⟨h2.1, h2.2.1, by show (Xe27.text ++ [33]).length ≤ _; rw [List.length_append, List.length_singleton]; omega⟩ h3 h4) ?_; clear F M a; intro csu29 w a M Eu29 F
   refine rl_nil <| q_tn <| w_reg <| rl_run F (run_fieldAddr tok30.k rfl rfl (F.ev rfl)) rfl ?_; clear F a; intro a F
   refine rl_run F (run_load1 (agf tok28 rfl) (F.ev rfl) (M.cellL (k := 4) rfl rfl)) rfl ?_; clear F a; intro a F
   refine rl_run F (run_fieldAddr tok30.k rfl rfl (F.ev rfl)) rfl ?_; clear F a; intro a F
   refine rl_run F (run_load1 (agf tok28 rfl) (F.ev rfl) (M.cellL (k := 4) rfl rfl)) rfl ?_; clear F a; intro a F
   refine rl_run F (run_lenSl tok28.k (F.ev rfl)) rfl ?_; clear F a; intro a F
   refine rl_run F (run_subi (F.ev rfl) (F.ev rfl) (in_i64 (by omega) (by omega))) rfl ?_; clear F a; intro a F
   have hs30 : ((((xq3_0.kids.length : Nat) : Int)) - 1 : Int) = ((xq3_0.kids.length - 1 : Nat) : Int) := by omega
   rw [hs30] at F
   obtain ⟨Xe31, hXe31⟩ := get_of_lt (xs := (xq3_0.kids).set (0) ((.mk Xe27.kind Xe27.tag Xe27.key Xe27.as (Xe27.text ++ [33]) Xe27.kids : NT))) (i := xq3_0.kids.length - 1) (by rw [List.length_set]; omega)
   obtain ⟨be31, _, Ie31, hme31, _, Ae31, hTe31⟩ := M.atRow (k := 2) rfl (by decide) Eu29 hXe31
   obtain ⟨tae31, tce31, kae31, kce31, rfl, hke31, hle31, SAe31, SKe31⟩ := rdT_open hTe31
   refine rl_run F (run_indexI tok28.k tok30 (F.ev rfl) (F.ev rfl) (by omega) Ie31) rfl ?_; clear F a; intro a F
   refine rl_run F (run_fieldAddr tok30.k rfl rfl (F.ev rfl)) rfl ?_; clear F a; intro a F
   refine rl_run F (run_load1 (agf tok9 rfl) (F.ev rfl) (cellE Ae31 1 rfl rfl)) rfl ?_; clear F a; intro a F
   have hT7 := hT8 _ _ hXe31
   refine rl_run F (run_strAdd (F.ev rfl) (F.ev rfl) (by rw [List.length_singleton]; omega)) rfl ?_; clear F a; intro a F
   obtain ⟨be32, _, Ie32, hme32, _, Ae32, hTe32⟩ := M.atRow (k := 2) rfl (by decide) Eu29 hXe31
   obtain ⟨tae32, tce32, kae32, kce32, rfl, hke32, hle32, SAe32, SKe32⟩ := rdT_open hTe32
   refine rl_run F (run_indexI tok28.k tok30 (F.ev rfl) (F.ev rfl) (by omega) Ie32) rfl ?_; clear F a; intro a F
   refine rl_run F (run_fieldAddr tok30.k rfl rfl (F.ev rfl)) rfl ?_; clear F a; intro a F
   refine rl_storeElF F M tok9 rfl (k := 2) rfl Eu29 Ie32 hXe31 (f := 1) (by decide) rfl rfl rfl rfl (X' := (.mk Xe31.kind (Xe31.tag ++ [122]) Xe31.key Xe31.as Xe31.text Xe31.kids : NT)) (by intro ch hc hr; obtain ⟨_, _, _, _, rfl, h1, h2, h3, h4⟩ := rdT_open hr; exact rdT_close (x := (.mk Xe31.kind (Xe31.tag ++ [122]) Xe31.key Xe31.as Xe31.text Xe31.kids : NT)) h1 ⟨by show (Xe31.tag ++ [122]).length ≤ _; rw [List.length_append, List.length_singleton]; omega, h2.2.1, h2.2.2⟩ h3 h4) ?_; clear F M a; intro csu33 w a M Eu33 F
   refine rl_nil <| q_tn <| wp_seq <| w_plan3 [(.pure, 0), (.pure, 1), (.keep, 2), (.keep, 3), (.free, 4), (.free, 5), (.pure, 6), (.pure, 7), (.keep, 8), (.keep, 9), (.keep, 10), (.free, 11), (.free, 12), (.free, 13), (.keep, 14), (.free, 15), (.free, 16)] [] (Keep Gq5 [.blk bq5_0 [.int .u8 (xq3_0.kind), .string (str (xq3_0.tag)), .string (str (xq3_0.key)), .slice (taq5_0) (xq3_0.as.length) (xq3_0.as.length), .string (str (xq3_0.text)), .slice (kaq5_0) (xq3_0.kids.length) (xq3_0.kids.length)] 30, .blk bq5_1 [.int .u8 ((strF xq3_0).kind), .string (str ((strF xq3_0).tag)), .string (str ((strF xq3_0).key)), .slice (taq5_1) ((strF xq3_0).as.length) ((strF xq3_0).as.length), .string (str ((strF xq3_0).text)), .slice (kaq5_1) ((strF xq3_0).kids.length) ((strF xq3_0).kids.length)] 30, .blk b1 [.int .u8 (((pt : Nat) : Int)), .int .u8 (((psl : Nat) : Int)), .slice (ca) (cs.length) (cc)] 24]) rfl (by kernel_rfl) (fun c a d v w h => by cases d <;> exact h) ((M.drew _).keep (Gle.refl _) (by simp)) ?_
   replace M := M.drew (w.drawn + 1)
   refine pk_pure F (fun w M => run_loadA tok30 rfl (F.ev rfl) (cs := [.int .u8 (xq3_0.kind), .string (str (xq3_0.tag)), .string (str (xq3_0.key)), .slice (taq5_0) (xq3_0.as.length) (xq3_0.as.length), .string (str (xq3_0.text)), .slice (kaq5_0) (xq3_0.kids.length) (xq3_0.kids.length)]) rfl (M.cellsL (k := 0) rfl rfl)) rfl ?_; clear F a; intro a F
   refine pk_pure F (fun w M => run_loadA tok24 rfl (F.ev rfl) (cs := [.int .u8 (((pt : Nat) : Int)), .int .u8 (((psl : Nat) : Int)), .slice (ca) (cs.length) (cc)]) rfl (M.cellsL (k := 2) rfl rfl)) rfl ?_; clear F a; intro a F
   refine pk_keep ?_ rfl
   refine rl_call F ent14 rfl rfl (nofE_spec M S (pt := pt) (psl := psl) (by omega) (by omega)) ?_; clear F M a; rintro _ Gk34 w a hGk34 M ⟨xk34, tak34, kak34, tck34, kck34, rfl, hVk34, hkk34, hlk34, SAk34, SKk34, hek34⟩ F
   replace S := S.mono mono_rdB hGk34
   replace S2 := S2.mono mono_rdB hGk34
   replace Eaq3_0 := Eaq3_0.mono mono_rdAttr hGk34
   replace SAq5_0 := SAq5_0.mono mono_rdAttr hGk34
   replace SKq5_0 := SKq5_0.mono mono_rdNE hGk34
   replace SAq5_1 := SAq5_1.mono mono_rdAttr hGk34
   replace SKq5_1 := SKq5_1.mono mono_rdNE hGk34
   replace SAe27 := SAe27.mono mono_rdAttr hGk34
   replace SKe27 := SKe27.mono mono_rdN hGk34
   replace SAe28 := SAe28.mono mono_rdAttr hGk34
   replace SKe28 := SKe28.mono mono_rdN hGk34
   replace SAe31 := SAe31.mono mono_rdAttr hGk34
   replace SKe31 := SKe31.mono mono_rdN hGk34
   replace SAe32 := SAe32.mono mono_rdAttr hGk34
   replace SKe32 := SKe32.mono mono_rdN hGk34
   replace Eu33 := Eu33.mono mono_rdN hGk34
   obtain rfl : xq3_0 = xk34 := heq3_0.trans hek34.symm
   refine rl_nil <| ⟨Keep Gk34 [.blk bq5_0 [.int .u8 (xq3_0.kind), .string (str (xq3_0.tag)), .string (str (xq3_0.key)), .slice (taq5_0) (xq3_0.as.length) (xq3_0.as.length), .string (str (xq3_0.text)), .slice (kaq5_0) (xq3_0.kids.length) (xq3_0.kids.length)] 30, .blk bq5_1 [.int .u8 ((strF xq3_0).kind), .string (str ((strF xq3_0).tag)), .string (str ((strF xq3_0).key)), .slice (taq5_1) ((strF xq3_0).as.length) ((strF xq3_0).as.length), .string (str ((strF xq3_0).text)), .slice (kaq5_1) ((strF xq3_0).kids.length) ((strF xq3_0).kids.length)] 30, .blk b1 [.int .u8 (((pt : Nat) : Int)), .int .u8 (((psl : Nat) : Int)), .slice (ca) (cs.length) (cc)] 24], M.keep (Gle.refl _) (by simp), fun w h => h.mono hGk34 (by simp), ?_⟩
   refine pk_keep ?_ rfl
   refine rl_callS F ent18 rfl rfl (rsame_spec (x := xq3_0) (u := xq3_0) M hkq5_0 hlq5_0 SAq5_0 (weakN SKq5_0) hkk34 hlk34 SAk34 SKk34) ?_; clear F M a; rintro _ w a M rfl F
   refine rl_nil <| ⟨Keep Gk34 [.blk bq5_0 [.int .u8 (xq3_0.kind), .string (str (xq3_0.tag)), .string (str (xq3_0.key)), .slice (taq5_0) (xq3_0.as.length) (xq3_0.as.length), .string (str (xq3_0.text)), .slice (kaq5_0) (xq3_0.kids.length) (xq3_0.kids.length)] 30, .blk bq5_1 [.int .u8 ((strF xq3_0).kind), .string (str ((strF xq3_0).tag)), .string (str ((strF xq3_0).key)), .slice (taq5_1) ((strF xq3_0).as.length) ((strF xq3_0).as.length), .string (str ((strF xq3_0).text)), .slice (kaq5_1) ((strF xq3_0).kids.length) ((strF xq3_0).kids.length)] 30, .blk b1 [.int .u8 (((pt : Nat) : Int)), .int .u8 (((psl : Nat) : Int)), .slice (ca) (cs.length) (cc)] 24], M.keep (Gle.refl _) (by simp), fun w h => h.mono (Gle.refl _) (by simp), ?_⟩
   rw [sameF_yes ⟨hVq3_0, hVq3_0, rfl⟩] at F
   refine pk_free F (fun w _ => run_eqi (F.ev rfl) (F.ev rfl)) rfl ?_; clear F a; intro a F
   refine pk_free F (fun w _ => run_move (F.ev rfl)) rfl ?_; clear F a; intro a F
   refine pk_pure_g F rfl rfl (decide_eq_true (by decide)) (fun w M => run_loadA tok30 rfl (F.ev rfl) (cs := [.int .u8 ((strF xq3_0).kind), .string (str ((strF xq3_0).tag)), .string (str ((strF xq3_0).key)), .slice (taq5_1) ((strF xq3_0).as.length) ((strF xq3_0).as.length), .string (str ((strF xq3_0).text)), .slice (kaq5_1) ((strF xq3_0).kids.length) ((strF xq3_0).kids.length)]) rfl (M.cellsL (k := 1) rfl rfl)) rfl ?_; clear F a; intro a F
   refine pk_pure_g F rfl rfl (decide_eq_true (by decide)) (fun w M => run_loadA tok24 rfl (F.ev rfl) (cs := [.int .u8 (((pt : Nat) : Int)), .int .u8 (((psl : Nat) : Int)), .slice (ca) (cs.length) (cc)]) rfl (M.cellsL (k := 2) rfl rfl)) rfl ?_; clear F a; intro a F
   refine pk_keep_g F rfl rfl (decide_eq_true (by decide)) ?_
   refine rl_guard_t F rfl rfl rfl (decide_eq_true (by decide)) ?_
   refine rl_call F ent14 rfl rfl (nofE_spec M S (pt := pt) (psl := psl) (by omega) (by omega)) ?_; clear F M a; rintro _ Gk35 w a hGk35 M ⟨xk35, tak35, kak35, tck35, kck35, rfl, hVk35, hkk35, hlk35, SAk35, SKk35, hek35⟩ F
   replace S := S.mono mono_rdB hGk35
   replace S2 := S2.mono mono_rdB hGk35
   replace Eaq3_0 := Eaq3_0.mono mono_rdAttr hGk35
   replace SAq5_0 := SAq5_0.mono mono_rdAttr hGk35
   replace SKq5_0 := SKq5_0.mono mono_rdNE hGk35
   replace SAq5_1 := SAq5_1.mono mono_rdAttr hGk35
   replace SKq5_1 := SKq5_1.mono mono_rdNE hGk35
   replace SAe27 := SAe27.mono mono_rdAttr hGk35
   replace SKe27 := SKe27.mono mono_rdN hGk35
   replace SAe28 := SAe28.mono mono_rdAttr hGk35
   replace SKe28 := SKe28.mono mono_rdN hGk35
   replace SAe31 := SAe31.mono mono_rdAttr hGk35
   replace SKe31 := SKe31.mono mono_rdN hGk35
   replace SAe32 := SAe32.mono mono_rdAttr hGk35
   replace SKe32 := SKe32.mono mono_rdN hGk35
   replace Eu33 := Eu33.mono mono_rdN hGk35
   replace SAk34 := SAk34.mono mono_rdAttr hGk35
   replace SKk34 := SKk34.mono mono_rdN hGk35
   obtain rfl : xq3_0 = xk35 := heq3_0.trans hek35.symm
   refine rl_nil <| ⟨Keep Gk35 [.blk bq5_0 [.int .u8 (xq3_0.kind), .string (str (xq3_0.tag)), .string (str (xq3_0.key)), .slice (taq5_0) (xq3_0.as.length) (xq3_0.as.length), .string (str (xq3_0.text)), .slice (kaq5_0) (xq3_0.kids.length) (xq3_0.kids.length)] 30, .blk bq5_1 [.int .u8 ((strF xq3_0).kind), .string (str ((strF xq3_0).tag)), .string (str ((strF xq3_0).key)), .slice (taq5_1) ((strF xq3_0).as.length) ((strF xq3_0).as.length), .string (str ((strF xq3_0).text)), .slice (kaq5_1) ((strF xq3_0).kids.length) ((strF xq3_0).kids.length)] 30, .blk b1 [.int .u8 (((pt : Nat) : Int)), .int .u8 (((psl : Nat) : Int)), .slice (ca) (cs.length) (cc)] 24], M.keep (Gle.refl _) (by simp), fun w h => h.mono hGk35 (by simp), ?_⟩
   refine pk_keep_g F rfl rfl (decide_eq_true (by decide)) ?_
   refine rl_guard_t F rfl rfl rfl (decide_eq_true (by decide)) ?_
   refine rl_call F ent43 rfl rfl (rstrip_all xq3_0 _ _ _ _ _ _ _ _ M hkk35 hlk35 SAk35 SKk35) ?_; clear F M a; rintro _ Gk36 w a hGk36 M ⟨tak36, tck36, kak36, kck36, rfl, hkk36, hlk36, SAk36, SKk36⟩ F
   replace S := S.mono mono_rdB hGk36
   replace S2 := S2.mono mono_rdB hGk36
   replace Eaq3_0 := Eaq3_0.mono mono_rdAttr hGk36
   replace SAq5_0 := SAq5_0.mono mono_rdAttr hGk36
   replace SKq5_0 := SKq5_0.mono mono_rdNE hGk36
   replace SAq5_1 := SAq5_1.mono mono_rdAttr hGk36
   replace SKq5_1 := SKq5_1.mono mono_rdNE hGk36
   replace SAe27 := SAe27.mono mono_rdAttr hGk36
   replace SKe27 := SKe27.mono mono_rdN hGk36
   replace SAe28 := SAe28.mono mono_rdAttr hGk36
   replace SKe28 := SKe28.mono mono_rdN hGk36
   replace SAe31 := SAe31.mono mono_rdAttr hGk36
   replace SKe31 := SKe31.mono mono_rdN hGk36
   replace SAe32 := SAe32.mono mono_rdAttr hGk36
   replace SKe32 := SKe32.mono mono_rdN hGk36
   replace Eu33 := Eu33.mono mono_rdN hGk36
   replace SAk34 := SAk34.mono mono_rdAttr hGk36
   replace SKk34 := SKk34.mono mono_rdN hGk36
   replace SAk35 := SAk35.mono mono_rdAttr hGk36
   replace SKk35 := SKk35.mono mono_rdN hGk36
   refine rl_nil <| ⟨Keep Gk36 [.blk bq5_0 [.int .u8 (xq3_0.kind), .string (str (xq3_0.tag)), .string (str (xq3_0.key)), .slice (taq5_0) (xq3_0.as.length) (xq3_0.as.length), .string (str (xq3_0.text)), .slice (kaq5_0) (xq3_0.kids.length) (xq3_0.kids.length)] 30, .blk bq5_1 [.int .u8 ((strF xq3_0).kind), .string (str ((strF xq3_0).tag)), .string (str ((strF xq3_0).key)), .slice (taq5_1) ((strF xq3_0).as.length) ((strF xq3_0).as.length), .string (str ((strF xq3_0).text)), .slice (kaq5_1) ((strF xq3_0).kids.length) ((strF xq3_0).kids.length)] 30, .blk b1 [.int .u8 (((pt : Nat) : Int)), .int .u8 (((psl : Nat) : Int)), .slice (ca) (cs.length) (cc)] 24], M.keep (Gle.refl _) (by simp), fun w h => h.mono hGk36 (by simp), ?_⟩
   refine pk_keep_g F rfl rfl (decide_eq_true (by decide)) ?_
   refine rl_guard_t F rfl rfl rfl (decide_eq_true (by decide)) ?_
   refine rl_callS F ent18 rfl rfl (rsame_spec (x := (strF xq3_0)) (u := (strF xq3_0)) M hkq5_1 hlq5_1 SAq5_1 (weakN SKq5_1) hkk36 hlk36 SAk36 SKk36) ?_; clear F M a; rintro _ w a M rfl F
   refine rl_nil <| ⟨Keep Gk36 [.blk bq5_0 [.int .u8 (xq3_0.kind), .string (str (xq3_0.tag)), .string (str (xq3_0.key)), .slice (taq5_0) (xq3_0.as.length) (xq3_0.as.length), .string (str (xq3_0.text)), .slice (kaq5_0) (xq3_0.kids.length) (xq3_0.kids.length)] 30, .blk bq5_1 [.int .u8 ((strF xq3_0).kind), .string (str ((strF xq3_0).tag)), .string (str ((strF xq3_0).key)), .slice (taq5_1) ((strF xq3_0).as.length) ((strF xq3_0).as.length), .string (str ((strF xq3_0).text)), .slice (kaq5_1) ((strF xq3_0).kids.length) ((strF xq3_0).kids.length)] 30, .blk b1 [.int .u8 (((pt : Nat) : Int)), .int .u8 (((psl : Nat) : Int)), .slice (ca) (cs.length) (cc)] 24], M.keep (Gle.refl _) (by simp), fun w h => h.mono (Gle.refl _) (by simp), ?_⟩
   rw [sameF_yes ⟨(strF_valid hVq3_0), (strF_valid hVq3_0), rfl⟩] at F
   refine pk_free_g F rfl rfl (decide_eq_true (by decide)) (fun w _ => run_eqi (F.ev rfl) (F.ev rfl)) rfl ?_; clear F a; intro a F
   refine pk_free F (fun w _ => run_pick_t (F.ev rfl) (decide_eq_true (by decide)) (F.ev rfl)) rfl ?_; clear F a; intro a F
   refine pk_free F (fun w _ => run_move (F.ev rfl)) rfl ?_; clear F a; intro a F
   refine pk_keep_g F rfl rfl (decide_eq_true (by decide)) ?_
   refine rl_guard_t F rfl rfl rfl (decide_eq_true (by decide)) ?_
   refine rl_callS F ent13 rfl rfl (nlives_spec M) ?_; clear F M a; rintro _ w a M rfl F
   refine rl_nil <| ⟨Keep Gk36 [.blk bq5_0 [.int .u8 (xq3_0.kind), .string (str (xq3_0.tag)), .string (str (xq3_0.key)), .slice (taq5_0) (xq3_0.as.length) (xq3_0.as.length), .string (str (xq3_0.text)), .slice (kaq5_0) (xq3_0.kids.length) (xq3_0.kids.length)] 30, .blk bq5_1 [.int .u8 ((strF xq3_0).kind), .string (str ((strF xq3_0).tag)), .string (str ((strF xq3_0).key)), .slice (taq5_1) ((strF xq3_0).as.length) ((strF xq3_0).as.length), .string (str ((strF xq3_0).text)), .slice (kaq5_1) ((strF xq3_0).kids.length) ((strF xq3_0).kids.length)] 30, .blk b1 [.int .u8 (((pt : Nat) : Int)), .int .u8 (((psl : Nat) : Int)), .slice (ca) (cs.length) (cc)] 24], M.keep (Gle.refl _) (by simp), fun w h => h.mono (Gle.refl _) (by simp), ?_⟩
   refine pk_free F (fun w _ => run_pick_t (F.ev rfl) (decide_eq_true (by decide)) (F.ev rfl)) rfl ?_; clear F a; intro a F
   refine pk_free F (fun w _ => run_assign (F.ev rfl)) rfl ?_; clear F a; intro a F
   refine pk_nil <| q_tn <| wp_ret <| fin1 F rfl rfl ?_
   exact ⟨_, (((((hgq3_0.trans hGt4).trans hGq5).trans hGk34).trans hGk35).trans hGk36), M.weaken (.cons _ (.cons _ (.cons _ (.cons _ (.cons _ (.cons _ (.cons _ (.cons _ (List.Sublist.refl _))))))))), by rfl⟩
  ·intro hc
   have h37b := hc; clear hc
   have h37 : ¬ (0 < ((xq3_0.kids.length : Nat) : Int)) := of_decide_eq_false h37b
   refine wp_skip <| q_tn <| wp_seq <| w_plan3 [(.pure, 0), (.pure, 1), (.keep, 2), (.keep, 3), (.free, 4), (.free, 5), (.pure, 6), (.pure, 7), (.keep, 8), (.keep, 9), (.keep, 10), (.free, 11), (.free, 12), (.free, 13), (.keep, 14), (.free, 15), (.free, 16)] [] (Keep Gq5 [.blk bq5_0 [.int .u8 (xq3_0.kind), .string (str (xq3_0.tag)), .string (str (xq3_0.key)), .slice (taq5_0) (xq3_0.as.length) (xq3_0.as.length), .string (str (xq3_0.text)), .slice (kaq5_0) (xq3_0.kids.length) (xq3_0.kids.length)] 30, .blk bq5_1 [.int .u8 ((strF xq3_0).kind), .string (str ((strF xq3_0).tag)), .string (str ((strF xq3_0).key)), .slice (taq5_1) ((strF xq3_0).as.length) ((strF xq3_0).as.length), .string (str ((strF xq3_0).text)), .slice (kaq5_1) ((strF xq3_0).kids.length) ((strF xq3_0).kids.length)] 30, .blk b1 [.int .u8 (((pt : Nat) : Int)), .int .u8 (((psl : Nat) : Int)), .slice (ca) (cs.length) (cc)] 24]) rfl (by kernel_rfl) (fun c a d v w h => by cases d <;> exact h) ((M.drew _).keep (Gle.refl _) (by simp)) ?_
   replace M := M.drew (w.drawn + 1)
   refine pk_pure F (fun w M => run_loadA tok30 rfl (F.ev rfl) (cs := [.int .u8 (xq3_0.kind), .string (str (xq3_0.tag)), .string (str (xq3_0.key)), .slice (taq5_0) (xq3_0.as.length) (xq3_0.as.length), .string (str (xq3_0.text)), .slice (kaq5_0) (xq3_0.kids.length) (xq3_0.kids.length)]) rfl (M.cellsL (k := 0) rfl rfl)) rfl ?_; clear F a; intro a F
   refine pk_pure F (fun w M => run_loadA tok24 rfl (F.ev rfl) (cs := [.int .u8 (((pt : Nat) : Int)), .int .u8 (((psl : Nat) : Int)), .slice (ca) (cs.length) (cc)]) rfl (M.cellsL (k := 2) rfl rfl)) rfl ?_; clear F a; intro a F
   refine pk_keep ?_ rfl
   refine rl_call F ent14 rfl rfl (nofE_spec M S (pt := pt) (psl := psl) (by omega) (by omega)) ?_; clear F M a; rintro _ Gk38 w a hGk38 M ⟨xk38, tak38, kak38, tck38, kck38, rfl, hVk38, hkk38, hlk38, SAk38, SKk38, hek38⟩ F
   replace S := S.mono mono_rdB hGk38
   replace S2 := S2.mono mono_rdB hGk38
   replace Eaq3_0 := Eaq3_0.mono mono_rdAttr hGk38
   replace Ekq3_0 := Ekq3_0.mono mono_rdN hGk38
   replace SAq5_0 := SAq5_0.mono mono_rdAttr hGk38
   replace SKq5_0 := SKq5_0.mono mono_rdNE hGk38
   replace SAq5_1 := SAq5_1.mono mono_rdAttr hGk38
   replace SKq5_1 := SKq5_1.mono mono_rdNE hGk38
   obtain rfl : xq3_0 = xk38 := heq3_0.trans hek38.symm
   refine rl_nil <| ⟨Keep Gk38 [.blk bq5_0 [.int .u8 (xq3_0.kind), .string (str (xq3_0.tag)), .string (str (xq3_0.key)), .slice (taq5_0) (xq3_0.as.length) (xq3_0.as.length), .string (str (xq3_0.text)), .slice (kaq5_0) (xq3_0.kids.length) (xq3_0.kids.length)] 30, .blk bq5_1 [.int .u8 ((strF xq3_0).kind), .string (str ((strF xq3_0).tag)), .string (str ((strF xq3_0).key)), .slice (taq5_1) ((strF xq3_0).as.length) ((strF xq3_0).as.length), .string (str ((strF xq3_0).text)), .slice (kaq5_1) ((strF xq3_0).kids.length) ((strF xq3_0).kids.length)] 30, .blk b1 [.int .u8 (((pt : Nat) : Int)), .int .u8 (((psl : Nat) : Int)), .slice (ca) (cs.length) (cc)] 24], M.keep (Gle.refl _) (by simp), fun w h => h.mono hGk38 (by simp), ?_⟩
   refine pk_keep ?_ rfl
   refine rl_callS F ent18 rfl rfl (rsame_spec (x := xq3_0) (u := xq3_0) M hkq5_0 hlq5_0 SAq5_0 (weakN SKq5_0) hkk38 hlk38 SAk38 SKk38) ?_; clear F M a; rintro _ w a M rfl F
   refine rl_nil <| ⟨Keep Gk38 [.blk bq5_0 [.int .u8 (xq3_0.kind), .string (str (xq3_0.tag)), .string (str (xq3_0.key)), .slice (taq5_0) (xq3_0.as.length) (xq3_0.as.length), .string (str (xq3_0.text)), .slice (kaq5_0) (xq3_0.kids.length) (xq3_0.kids.length)] 30, .blk bq5_1 [.int .u8 ((strF xq3_0).kind), .string (str ((strF xq3_0).tag)), .string (str ((strF xq3_0).key)), .slice (taq5_1) ((strF xq3_0).as.length) ((strF xq3_0).as.length), .string (str ((strF xq3_0).text)), .slice (kaq5_1) ((strF xq3_0).kids.length) ((strF xq3_0).kids.length)] 30, .blk b1 [.int .u8 (((pt : Nat) : Int)), .int .u8 (((psl : Nat) : Int)), .slice (ca) (cs.length) (cc)] 24], M.keep (Gle.refl _) (by simp), fun w h => h.mono (Gle.refl _) (by simp), ?_⟩
   rw [sameF_yes ⟨hVq3_0, hVq3_0, rfl⟩] at F
   refine pk_free F (fun w _ => run_eqi (F.ev rfl) (F.ev rfl)) rfl ?_; clear F a; intro a F
   refine pk_free F (fun w _ => run_move (F.ev rfl)) rfl ?_; clear F a; intro a F
   refine pk_pure_g F rfl rfl (decide_eq_true (by decide)) (fun w M => run_loadA tok30 rfl (F.ev rfl) (cs := [.int .u8 ((strF xq3_0).kind), .string (str ((strF xq3_0).tag)), .string (str ((strF xq3_0).key)), .slice (taq5_1) ((strF xq3_0).as.length) ((strF xq3_0).as.length), .string (str ((strF xq3_0).text)), .slice (kaq5_1) ((strF xq3_0).kids.length) ((strF xq3_0).kids.length)]) rfl (M.cellsL (k := 1) rfl rfl)) rfl ?_; clear F a; intro a F
   refine pk_pure_g F rfl rfl (decide_eq_true (by decide)) (fun w M => run_loadA tok24 rfl (F.ev rfl) (cs := [.int .u8 (((pt : Nat) : Int)), .int .u8 (((psl : Nat) : Int)), .slice (ca) (cs.length) (cc)]) rfl (M.cellsL (k := 2) rfl rfl)) rfl ?_; clear F a; intro a F
   refine pk_keep_g F rfl rfl (decide_eq_true (by decide)) ?_
   refine rl_guard_t F rfl rfl rfl (decide_eq_true (by decide)) ?_
   refine rl_call F ent14 rfl rfl (nofE_spec M S (pt := pt) (psl := psl) (by omega) (by omega)) ?_; clear F M a; rintro _ Gk39 w a hGk39 M ⟨xk39, tak39, kak39, tck39, kck39, rfl, hVk39, hkk39, hlk39, SAk39, SKk39, hek39⟩ F
   replace S := S.mono mono_rdB hGk39
   replace S2 := S2.mono mono_rdB hGk39
   replace Eaq3_0 := Eaq3_0.mono mono_rdAttr hGk39
   replace Ekq3_0 := Ekq3_0.mono mono_rdN hGk39
   replace SAq5_0 := SAq5_0.mono mono_rdAttr hGk39
   replace SKq5_0 := SKq5_0.mono mono_rdNE hGk39
   replace SAq5_1 := SAq5_1.mono mono_rdAttr hGk39
   replace SKq5_1 := SKq5_1.mono mono_rdNE hGk39
   replace SAk38 := SAk38.mono mono_rdAttr hGk39
   replace SKk38 := SKk38.mono mono_rdN hGk39
   obtain rfl : xq3_0 = xk39 := heq3_0.trans hek39.symm
   refine rl_nil <| ⟨Keep Gk39 [.blk bq5_0 [.int .u8 (xq3_0.kind), .string (str (xq3_0.tag)), .string (str (xq3_0.key)), .slice (taq5_0) (xq3_0.as.length) (xq3_0.as.length), .string (str (xq3_0.text)), .slice (kaq5_0) (xq3_0.kids.length) (xq3_0.kids.length)] 30, .blk bq5_1 [.int .u8 ((strF xq3_0).kind), .string (str ((strF xq3_0).tag)), .string (str ((strF xq3_0).key)), .slice (taq5_1) ((strF xq3_0).as.length) ((strF xq3_0).as.length), .string (str ((strF xq3_0).text)), .slice (kaq5_1) ((strF xq3_0).kids.length) ((strF xq3_0).kids.length)] 30, .blk b1 [.int .u8 (((pt : Nat) : Int)), .int .u8 (((psl : Nat) : Int)), .slice (ca) (cs.length) (cc)] 24], M.keep (Gle.refl _) (by simp), fun w h => h.mono hGk39 (by simp), ?_⟩
   refine pk_keep_g F rfl rfl (decide_eq_true (by decide)) ?_
   refine rl_guard_t F rfl rfl rfl (decide_eq_true (by decide)) ?_
   refine rl_call F ent43 rfl rfl (rstrip_all xq3_0 _ _ _ _ _ _ _ _ M hkk39 hlk39 SAk39 SKk39) ?_; clear F M a; rintro _ Gk40 w a hGk40 M ⟨tak40, tck40, kak40, kck40, rfl, hkk40, hlk40, SAk40, SKk40⟩ F
   replace S := S.mono mono_rdB hGk40
   replace S2 := S2.mono mono_rdB hGk40
   replace Eaq3_0 := Eaq3_0.mono mono_rdAttr hGk40
   replace Ekq3_0 := Ekq3_0.mono mono_rdN hGk40
   replace SAq5_0 := SAq5_0.mono mono_rdAttr hGk40
   replace SKq5_0 := SKq5_0.mono mono_rdNE hGk40
   replace SAq5_1 := SAq5_1.mono mono_rdAttr hGk40
   replace SKq5_1 := SKq5_1.mono mono_rdNE hGk40
   replace SAk38 := SAk38.mono mono_rdAttr hGk40
   replace SKk38 := SKk38.mono mono_rdN hGk40
   replace SAk39 := SAk39.mono mono_rdAttr hGk40
   replace SKk39 := SKk39.mono mono_rdN hGk40
   refine rl_nil <| ⟨Keep Gk40 [.blk bq5_0 [.int .u8 (xq3_0.kind), .string (str (xq3_0.tag)), .string (str (xq3_0.key)), .slice (taq5_0) (xq3_0.as.length) (xq3_0.as.length), .string (str (xq3_0.text)), .slice (kaq5_0) (xq3_0.kids.length) (xq3_0.kids.length)] 30, .blk bq5_1 [.int .u8 ((strF xq3_0).kind), .string (str ((strF xq3_0).tag)), .string (str ((strF xq3_0).key)), .slice (taq5_1) ((strF xq3_0).as.length) ((strF xq3_0).as.length), .string (str ((strF xq3_0).text)), .slice (kaq5_1) ((strF xq3_0).kids.length) ((strF xq3_0).kids.length)] 30, .blk b1 [.int .u8 (((pt : Nat) : Int)), .int .u8 (((psl : Nat) : Int)), .slice (ca) (cs.length) (cc)] 24], M.keep (Gle.refl _) (by simp), fun w h => h.mono hGk40 (by simp), ?_⟩
   refine pk_keep_g F rfl rfl (decide_eq_true (by decide)) ?_
   refine rl_guard_t F rfl rfl rfl (decide_eq_true (by decide)) ?_
   refine rl_callS F ent18 rfl rfl (rsame_spec (x := (strF xq3_0)) (u := (strF xq3_0)) M hkq5_1 hlq5_1 SAq5_1 (weakN SKq5_1) hkk40 hlk40 SAk40 SKk40) ?_; clear F M a; rintro _ w a M rfl F
   refine rl_nil <| ⟨Keep Gk40 [.blk bq5_0 [.int .u8 (xq3_0.kind), .string (str (xq3_0.tag)), .string (str (xq3_0.key)), .slice (taq5_0) (xq3_0.as.length) (xq3_0.as.length), .string (str (xq3_0.text)), .slice (kaq5_0) (xq3_0.kids.length) (xq3_0.kids.length)] 30, .blk bq5_1 [.int .u8 ((strF xq3_0).kind), .string (str ((strF xq3_0).tag)), .string (str ((strF xq3_0).key)), .slice (taq5_1) ((strF xq3_0).as.length) ((strF xq3_0).as.length), .string (str ((strF xq3_0).text)), .slice (kaq5_1) ((strF xq3_0).kids.length) ((strF xq3_0).kids.length)] 30, .blk b1 [.int .u8 (((pt : Nat) : Int)), .int .u8 (((psl : Nat) : Int)), .slice (ca) (cs.length) (cc)] 24], M.keep (Gle.refl _) (by simp), fun w h => h.mono (Gle.refl _) (by simp), ?_⟩
   rw [sameF_yes ⟨(strF_valid hVq3_0), (strF_valid hVq3_0), rfl⟩] at F
   refine pk_free_g F rfl rfl (decide_eq_true (by decide)) (fun w _ => run_eqi (F.ev rfl) (F.ev rfl)) rfl ?_; clear F a; intro a F
   refine pk_free F (fun w _ => run_pick_t (F.ev rfl) (decide_eq_true (by decide)) (F.ev rfl)) rfl ?_; clear F a; intro a F
   refine pk_free F (fun w _ => run_move (F.ev rfl)) rfl ?_; clear F a; intro a F
   refine pk_keep_g F rfl rfl (decide_eq_true (by decide)) ?_
   refine rl_guard_t F rfl rfl rfl (decide_eq_true (by decide)) ?_
   refine rl_callS F ent13 rfl rfl (nlives_spec M) ?_; clear F M a; rintro _ w a M rfl F
   refine rl_nil <| ⟨Keep Gk40 [.blk bq5_0 [.int .u8 (xq3_0.kind), .string (str (xq3_0.tag)), .string (str (xq3_0.key)), .slice (taq5_0) (xq3_0.as.length) (xq3_0.as.length), .string (str (xq3_0.text)), .slice (kaq5_0) (xq3_0.kids.length) (xq3_0.kids.length)] 30, .blk bq5_1 [.int .u8 ((strF xq3_0).kind), .string (str ((strF xq3_0).tag)), .string (str ((strF xq3_0).key)), .slice (taq5_1) ((strF xq3_0).as.length) ((strF xq3_0).as.length), .string (str ((strF xq3_0).text)), .slice (kaq5_1) ((strF xq3_0).kids.length) ((strF xq3_0).kids.length)] 30, .blk b1 [.int .u8 (((pt : Nat) : Int)), .int .u8 (((psl : Nat) : Int)), .slice (ca) (cs.length) (cc)] 24], M.keep (Gle.refl _) (by simp), fun w h => h.mono (Gle.refl _) (by simp), ?_⟩
   refine pk_free F (fun w _ => run_pick_t (F.ev rfl) (decide_eq_true (by decide)) (F.ev rfl)) rfl ?_; clear F a; intro a F
   refine pk_free F (fun w _ => run_assign (F.ev rfl)) rfl ?_; clear F a; intro a F
   refine pk_nil <| q_tn <| wp_ret <| fin1 F rfl rfl ?_
   exact ⟨_, (((((hgq3_0.trans hGt4).trans hGq5).trans hGk38).trans hGk39).trans hGk40), M.weaken (.cons _ (.cons _ (.cons _ (.cons _ (.cons _ (.cons _ (.cons _ (.cons _ (List.Sublist.refl _))))))))), by rfl⟩
theorem nodesSame_law {w0 w : World} {G : Ghost} {L : List Res} (M : Mem w0 G L w) {ca : Option Addr} {cc : Nat} {cs : List UInt8} (S : RdSl rdB 1 G (.slice ca cs.length cc) cs) {n0 n1 : Int} (k0 : inKind .u8 n0) (k1 : inKind .u8 n1) {ca2 : Option Addr} {cc2 : Nat} {cs2 : List UInt8} (S2 : RdSl rdB 1 G (.slice ca2 cs2.length cc2) cs2) {n2 n3 : Int} (k2 : inKind .u8 n2) (k3 : inKind .u8 n3) : Calls Tryz.prog 12 #[.agg #[.int .u8 n0, .int .u8 n1, .slice ca cs.length cc], .agg #[.int .u8 n2, .int .u8 n3, .slice ca2 cs2.length cc2]] w (RetS w0 G L fun v => v = .bool true) := by
 obtain ⟨pt, rfl, hpt⟩ := u8_natN k0
 obtain ⟨psl, rfl, hps⟩ := u8_natN k1
 obtain ⟨pt2, rfl, hpt2⟩ := u8_natN k2
 obtain ⟨psl2, rfl, hps2⟩ := u8_natN k3
 exact Ret.plain M (nodesSame_ret M S hpt hps S2 hpt2 hps2)
end Go.Proofs.YtlnehkjmmegkhaaGreat
