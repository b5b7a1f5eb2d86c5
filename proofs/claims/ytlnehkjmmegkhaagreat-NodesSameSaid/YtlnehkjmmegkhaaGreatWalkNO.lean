/- The walks, part NO. -/
import Derived.Test.YtlnehkjmmegkhaaGreatWalkNM
namespace Go.Proofs.YtlnehkjmmegkhaaGreat
open Go Go.Y Go.Proofs
set_option linter.unusedSimpArgs false
set_option linter.unusedVariables false
def RstQ (x : NT) : Prop := ∀ (w0 w : World) (G : Ghost) (L : List Res) (ta ka : Option Addr) (tc kc : Nat), Mem w0 G L w → inKind .u8 x.kind → (x.tag.length ≤ 9223372036854775807 ∧ x.key.length ≤ 9223372036854775807 ∧ x.text.length ≤ 9223372036854775807) → RdSl rdAttr 2 G (.slice ta x.as.length tc) x.as → RdSl rdN 6 G (.slice ka x.kids.length kc) x.kids →
  Calls Tryz.prog 43 #[.agg #[.int .u8 (x.kind), .string (str (x.tag)), .string (str (x.key)), .slice (ta) (x.as.length) (tc), .string (str (x.text)), .slice (ka) (x.kids.length) (kc)]] w (Ret w0 G L fun G' v => ∃ a1 c1 a2 c2, v = .agg #[.int .u8 (strF x).kind, .string (str (strF x).tag), .string (str (strF x).key), .slice a1 (strF x).as.length c1, .string (str (strF x).text), .slice a2 (strF x).kids.length c2] ∧ inKind .u8 (strF x).kind ∧ ((strF x).tag.length ≤ 9223372036854775807 ∧ (strF x).key.length ≤ 9223372036854775807 ∧ (strF x).text.length ≤ 9223372036854775807) ∧ RdSl rdAttr 2 G' (.slice a1 (strF x).as.length c1) (strF x).as ∧ RdSl rdN 6 G' (.slice a2 (strF x).kids.length c2) (strF x).kids)
theorem str_kids {x : NT} (h : Valid x) : x.kids.map strF = x.kids.map (copF false) := List.map_congr_left fun y hy => strF_yes (valid_kid h hy)
theorem valid_small {x : NT} (h : Valid x) : x.as.length ≤ 8 ∧ x.kids.length ≤ 16 := alone_small h.1
set_option maxHeartbeats 1000000 in
theorem rstrip_step {x : NT} (ih : ∀ y ∈ x.kids, RstQ y) {w0 w : World} {G : Ghost} {L : List Res} (M : Mem w0 G L w) {ta : Option Addr} {tc : Nat} {ka : Option Addr} {kc : Nat} (hk : inKind .u8 x.kind) (hl : (x.tag.length ≤ 9223372036854775807 ∧ x.key.length ≤ 9223372036854775807 ∧ x.text.length ≤ 9223372036854775807)) (SA : RdSl rdAttr 2 G (.slice ta x.as.length tc) x.as) (SK : RdSl rdN 6 G (.slice ka x.kids.length kc) x.kids) : Calls Tryz.prog 43 #[.agg #[.int .u8 (x.kind), .string (str (x.tag)), .string (str (x.key)), .slice (ta) (x.as.length) (tc), .string (str (x.text)), .slice (ka) (x.kids.length) (kc)]] w (Ret w0 G L fun G' v => ∃ a1 c1 a2 c2, v = .agg #[.int .u8 (strF x).kind, .string (str (strF x).tag), .string (str (strF x).key), .slice a1 (strF x).as.length c1, .string (str (strF x).text), .slice a2 (strF x).kids.length c2] ∧ inKind .u8 (strF x).kind ∧ ((strF x).tag.length ≤ 9223372036854775807 ∧ (strF x).key.length ≤ 9223372036854775807 ∧ (strF x).text.length ≤ 9223372036854775807) ∧ RdSl rdAttr 2 G' (.slice a1 (strF x).as.length c1) (strF x).as ∧ RdSl rdN 6 G' (.slice a2 (strF x).kids.length c2) (strF x).kids) := by
 refine calls_start (vs := [_]) Tryz.func43 rfl (n := 53) rfl rfl ?_
 intro a F
 refine wp_seq <| w_reg <| rl_box F M rfl (cs := [.int .u8 (x.kind), .string (str (x.tag)), .string (str (x.key)), .slice (ta) (x.as.length) (tc), .string (str (x.text)), .slice (ka) (x.kids.length) (kc)]) rfl rfl ?_; clear F M a; intro b1 w a M F
 refine rl_alloc F M tok30 rfl rfl ?_; clear F M a; intro b2 w a M F
 refine rl_nil <| q_tn ?_
 iterate 2 (refine wp_seq ?_)
 refine w_reg <| rl_run F (run_loadA tok30 rfl (F.ev rfl) (cs := [.int .u8 (x.kind), .string (str (x.tag)), .string (str (x.key)), .slice (ta) (x.as.length) (tc), .string (str (x.text)), .slice (ka) (x.kids.length) (kc)]) rfl (M.cellsL (k := 1) rfl rfl)) rfl ?_; clear F a; intro a F
 refine rl_callS F ent48 rfl rfl (rcheck_spec (x := x) M hk hl SA SK) ?_; clear F M a; rintro _ w a M rfl F
 refine rl_run F (run_nei (F.ev rfl) (F.ev rfl)) rfl ?_; clear F a; intro a F
 refine rl_nil <| q_tn <| w_cond F rfl ?_ ?_
 ·intro hc
  have h4b := hc; clear hc
  have h4 : ¬ (chkF x = 0) := of_decide_eq_false (of_not_t h4b)
  have h4c : (decide (chkF x = 0)) = false := (of_not_t h4b)
  refine wp_seq <| w_reg <| rl_run F (run_buildS (cs := [.int .u8 (0), .string (str ([] : List UInt8)), .string (str ([] : List UInt8)), .slice none (0) (0), .string (str ([] : List UInt8)), .slice none (0) (0)]) (ps := []) tok30.k rfl tok30 (F.evp rfl) rfl) rfl ?_; clear F a; intro a F
  refine rl_storeA F M tok30 (k := 0) rfl rfl rfl (us := [.int .u8 (0), .string (str ([] : List UInt8)), .string (str ([] : List UInt8)), .slice none (0) (0), .string (str ([] : List UInt8)), .slice none (0) (0)]) rfl rfl (by simp [Value.oneCell']) (by simp) ?_; clear F M a; intro w a M F
  change Mem w0 G (.blk b2 [.int .u8 (0), .string (str ([] : List UInt8)), .string (str ([] : List UInt8)), .slice none (0) (0), .string (str ([] : List UInt8)), .slice none (0) (0)] 30 :: _ :: L) _ at M
  refine rl_nil <| q_tn <| wp_ret <| q_tr <| fin_c F M (k := 0) rfl rfl tok30 rfl rfl rfl ?_
  have hV : ¬ Valid x := fun h_ => by have := chkF_yes h_; omega
  rw [strF_no hV]
  exact ⟨_, (Gle.refl _), M.weaken (.cons _ (.cons _ (List.Sublist.refl _))), none, 0, none, 0, rfl, zeroN_k, zeroN_l, RdSl.nil, RdSl.nil⟩
 ·intro hc
  have h5b := hc; clear hc
  have h5 : chkF x = 0 := of_decide_eq_true (of_not_f h5b)
  have h5c : (decide (chkF x = 0)) = true := (of_not_f h5b)
  refine wp_skip <| q_tn <| wp_seq ?_
  have hV : Valid x := chkF_zero.1 (by omega)
  have hsm := valid_small hV
  have bA := SA.bound
  have bK := SK.bound
  refine w_reg <| rl_run F (run_fieldAddr tok30.k rfl rfl (F.ev rfl)) rfl ?_; clear F a; intro a F
  refine rl_run F (run_load1 (agf tok5 rfl) (F.ev rfl) (M.cellL (k := 1) rfl rfl)) rfl ?_; clear F a; intro a F
  refine rl_run F (run_fieldAddr tok30.k rfl rfl (F.ev rfl)) rfl ?_; clear F a; intro a F
  refine rl_run F (run_load1 (agf tok9 rfl) (F.ev rfl) (M.cellL (k := 1) rfl rfl)) rfl ?_; clear F a; intro a F
  refine rl_run F (run_fieldAddr tok30.k rfl rfl (F.ev rfl)) rfl ?_; clear F a; intro a F
  refine rl_run F (run_load1 (agf tok9 rfl) (F.ev rfl) (M.cellL (k := 1) rfl rfl)) rfl ?_; clear F a; intro a F
  refine rl_run F (run_buildS (cs := [.int .u8 (x.kind), .string (str (x.tag)), .string (str ([] : List UInt8)), .slice none (0) (0), .string (str (x.text)), .slice none (0) (0)]) (ps := [(0, .int .u8 (x.kind)), (1, .string (str (x.tag))), (4, .string (str (x.text)))]) tok30.k rfl tok30 (F.evp rfl) rfl) rfl ?_; clear F a; intro a F
  refine rl_alloc F M tok30 rfl rfl ?_; clear F M a; intro b6 w a M F
  refine rl_storeA F M tok30 (k := 0) rfl rfl rfl (us := [.int .u8 (x.kind), .string (str (x.tag)), .string (str ([] : List UInt8)), .slice none (0) (0), .string (str (x.text)), .slice none (0) (0)]) rfl rfl (by simp [Value.oneCell']) (by simp) ?_; clear F M a; intro w a M F
  change Mem w0 G (.blk b6 [.int .u8 (x.kind), .string (str (x.tag)), .string (str ([] : List UInt8)), .slice none (0) (0), .string (str (x.text)), .slice none (0) (0)] 30 :: _ :: _ :: L) _ at M
  refine rl_nil <| q_tn ?_
  iterate 2 (refine wp_seq ?_)
  refine w_reg <| rl_run F (run_assign (F.ev rfl)) rfl ?_; clear F a; intro a F
  refine rl_nil <| q_tn <| wp_block ?_
  have M := M.nilrow 87 2
  refine w_loopN (fun m a' w' => ∃ (i : Nat), ∃ (ay : Option Addr), ∃ (ny : Nat), ∃ (cy : Nat), ∃ (csy : List Value), m = x.as.length - i ∧ ∃ G8, Gle G G8 ∧ Fits 53 a' [(1, .pointer (some ⟨b1, 0, none⟩)), (2, .pointer (some ⟨b2, 0, none⟩)), (3, .pointer (some ⟨b6, 0, none⟩)), (4, .int .i64 (((i : Nat) : Int)))] ∧ Mem w0 G8 (.row (.slice (ay) (ny) (cy)) (ny) (csy) 87 2 :: .blk b6 [.int .u8 (x.kind), .string (str (x.tag)), .string (str ([] : List UInt8)), .slice (ay) (ny) (cy), .string (str (x.text)), .slice none (0) (0)] 30 :: .blk b2 [.int .u8 (0), .string (str ([] : List UInt8)), .string (str ([] : List UInt8)), .slice none (0) (0), .string (str ([] : List UInt8)), .slice none (0) (0)] 30 :: .blk b1 [.int .u8 (x.kind), .string (str (x.tag)), .string (str (x.key)), .slice (ta) (x.as.length) (tc), .string (str (x.text)), .slice (ka) (x.kids.length) (kc)] 30 :: L) w' ∧ (i ≤ x.as.length) ∧ (ny = i) ∧ (Els rdAttr 2 G8 csy (x.as.take i))) _ ⟨0, (none), (0), (0), ([]), rfl, G, Gle.refl _, F.to ⟨rfl, rfl, rfl, rfl, trivial⟩, M, Nat.zero_le _, rfl, Els.nil⟩ ?_
  clear F M
  rintro m a w ⟨i, ay, ny, cy, csy, rfl, G8, hG8, F, M, hii, hny, Ey⟩
  replace SA := SA.mono mono_rdAttr hG8
  replace SK := SK.mono mono_rdN hG8
  iterate 2 (refine wp_seq ?_)
  refine w_reg <| rl_run F (run_move (F.ev rfl)) rfl ?_; clear F a; intro a F
  refine rl_run F (run_fieldAddr tok30.k rfl rfl (F.ev rfl)) rfl ?_; clear F a; intro a F
  refine rl_run F (run_load1 (agf tok27 rfl) (F.ev rfl) (M.cellL (k := 3) rfl rfl)) rfl ?_; clear F a; intro a F
  refine rl_run F (run_lenSl tok27.k (F.ev rfl)) rfl ?_; clear F a; intro a F
  refine rl_run F (run_lss (F.ev rfl) (F.ev rfl)) rfl ?_; clear F a; intro a F
  refine rl_nil <| q_tn <| w_cond F rfl ?_ ?_
  ·intro hc
   have h9b := hc; clear hc
   have h9 : ((i : Nat) : Int) < ((x.as.length : Nat) : Int) := of_decide_eq_true h9b
   refine wp_skip <| q_tn <| wp_seq <| wp_block <| w_plan3 [(.free, 0), (.pure, 1), (.free, 2), (.pure, 3), (.free, 4), (.free, 5), (.pure, 6), (.keep, 7), (.keep, 8), (.free, 9), (.chg, 10)] [10] (Keep G8 [.blk b6 [.int .u8 (x.kind), .string (str (x.tag)), .string (str ([] : List UInt8)), .slice (ay) (ny) (cy), .string (str (x.text)), .slice none (0) (0)] 30, .blk b2 [.int .u8 (0), .string (str ([] : List UInt8)), .string (str ([] : List UInt8)), .slice none (0) (0), .string (str ([] : List UInt8)), .slice none (0) (0)] 30, .blk b1 [.int .u8 (x.kind), .string (str (x.tag)), .string (str (x.key)), .slice (ta) (x.as.length) (tc), .string (str (x.text)), .slice (ka) (x.kids.length) (kc)] 30]) rfl (by kernel_rfl) (fun c a d v w h => by cases d <;> exact h) ((M.drew _).keep (Gle.refl _) (by simp)) ?_
   replace M := M.drew (w.drawn + 1)
   refine pk_free F (fun w _ => run_fieldAddr tok30.k rfl rfl (F.ev rfl)) rfl ?_; clear F a; intro a F
   refine pk_pure F (fun w M => run_load1 (agf tok27 rfl) (F.ev rfl) (M.cellL (k := 0) rfl rfl)) rfl ?_; clear F a; intro a F
   refine pk_free F (fun w _ => run_fieldAddr tok30.k rfl rfl (F.ev rfl)) rfl ?_; clear F a; intro a F
   refine pk_pure F (fun w M => run_load1 (agf tok27 rfl) (F.ev rfl) (M.cellL (k := 2) rfl rfl)) rfl ?_; clear F a; intro a F
   refine pk_free F (fun w _ => run_move (F.ev rfl)) rfl ?_; clear F a; intro a F
   obtain ⟨Xe10, hXe10⟩ := get_of_lt (xs := x.as) (i := i) (by omega)
   obtain ⟨be10, oe10, _, Ie10, _, Ae10, ⟨rfl, hn1e10, hv1e10⟩⟩ := SA.at hXe10
   refine pk_free F (fun w _ => run_indexI tok27.k tok87 (F.ev rfl) (F.ev rfl) (by omega) Ie10) rfl ?_; clear F a; intro a F
   refine pk_pure F (fun w M => run_loadA tok87 rfl (F.ev rfl) (cs := [.string (str (Xe10.n)), .string (str (Xe10.v))]) rfl (M.cellsA Ae10 0 (by omega) rfl)) rfl ?_; clear F a; intro a F
   refine pk_keep ?_ rfl
   refine rl_buildSlice1 F M tok27.k tok87 rfl rfl (cs := [.string (str (Xe10.n)), .string (str (Xe10.v))]) rfl rfl (by simp [Value.oneCell']) (by decide) rfl ?_; clear F M a; intro v11 w a M F
   obtain ⟨av11, cv11, rfl, hlev11, hcmv11, hlv11⟩ := M.row_shape (k := 0) rfl
   refine rl_nil <| ⟨Keep G8 [.blk b6 [.int .u8 (x.kind), .string (str (x.tag)), .string (str ([] : List UInt8)), .slice (ay) (ny) (cy), .string (str (x.text)), .slice none (0) (0)] 30, .blk b2 [.int .u8 (0), .string (str ([] : List UInt8)), .string (str ([] : List UInt8)), .slice none (0) (0), .string (str ([] : List UInt8)), .slice none (0) (0)] 30, .blk b1 [.int .u8 (x.kind), .string (str (x.tag)), .string (str (x.key)), .slice (ta) (x.as.length) (tc), .string (str (x.text)), .slice (ka) (x.kids.length) (kc)] 30], M.keep (Gle.refl _) (by simp), fun w h => h.mono (Gle.refl _) (by simp), ?_⟩
   have E12 : Els rdAttr 2 G8 [.string (str (Xe10.n)), .string (str (Xe10.v))] [Xe10] := Els.one ⟨rfl, hn1e10, hv1e10⟩ rfl
   refine pk_keep ?_ rfl
   refine rl_append_row F M (k := 1) (k2 := 0) rfl rfl tok27.k tok87 rfl rfl (by decide) rfl rfl (by show _ * 32 ≤ _; (try simp only [List.length_drop, List.length_take, List.length_append, List.length_cons, List.length_nil]); omega) (by (try simp only [List.length_drop, List.length_take, List.length_append, List.length_cons, List.length_nil]); omega) rfl ?_; clear F M a; intro v13 w a M F
   have Ev13 := Els.append Ey E12
   obtain ⟨av13, cv13, rfl, hlev13, hcmv13, hlv13⟩ := M.row_shape (k := 1) rfl
   refine rl_nil <| ⟨Keep G8 [.blk b6 [.int .u8 (x.kind), .string (str (x.tag)), .string (str ([] : List UInt8)), .slice (ay) (ny) (cy), .string (str (x.text)), .slice none (0) (0)] 30, .blk b2 [.int .u8 (0), .string (str ([] : List UInt8)), .string (str ([] : List UInt8)), .slice none (0) (0), .string (str ([] : List UInt8)), .slice none (0) (0)] 30, .blk b1 [.int .u8 (x.kind), .string (str (x.tag)), .string (str (x.key)), .slice (ta) (x.as.length) (tc), .string (str (x.text)), .slice (ka) (x.kids.length) (kc)] 30], M.keep (Gle.refl _) (by simp), fun w h => h.mono (Gle.refl _) (by simp), ?_⟩
   refine pk_free F (fun w _ => run_fieldAddr tok30.k rfl rfl (F.ev rfl)) rfl ?_; clear F a; intro a F
   refine pk_chg ?_ rfl
   refine rl_store1 F M tok27 rfl (k := 2) rfl rfl rfl rfl rfl ?_; clear F M a; intro w a M F
   refine rl_nil ?_
   change Mem w0 G8 (.row (.slice (av11) (1) (cv11)) (1) ([.string (str (Xe10.n)), .string (str (Xe10.v))]) 87 2 :: .row (.slice (av13) (ny + 1) (cv13)) (ny + 1) (csy ++ ([.string (str (Xe10.n)), .string (str (Xe10.v))])) 87 2 :: .blk b6 [.int .u8 (x.kind), .string (str (x.tag)), .string (str ([] : List UInt8)), .slice (av13) (ny + 1) (cv13), .string (str (x.text)), .slice none (0) (0)] 30 :: .blk b2 [.int .u8 (0), .string (str ([] : List UInt8)), .string (str ([] : List UInt8)), .slice none (0) (0), .string (str ([] : List UInt8)), .slice none (0) (0)] 30 :: .blk b1 [.int .u8 (x.kind), .string (str (x.tag)), .string (str (x.key)), .slice (ta) (x.as.length) (tc), .string (str (x.text)), .slice (ka) (x.kids.length) (kc)] 30 :: L) _ at M
   refine ⟨Keep G8 [.row (.slice (av11) (1) (cv11)) (1) ([.string (str (Xe10.n)), .string (str (Xe10.v))]) 87 2, .row (.slice (av13) (ny + 1) (cv13)) (ny + 1) (csy ++ ([.string (str (Xe10.n)), .string (str (Xe10.v))])) 87 2, .blk b6 [.int .u8 (x.kind), .string (str (x.tag)), .string (str ([] : List UInt8)), .slice (av13) (ny + 1) (cv13), .string (str (x.text)), .slice none (0) (0)] 30, .blk b2 [.int .u8 (0), .string (str ([] : List UInt8)), .string (str ([] : List UInt8)), .slice none (0) (0), .string (str ([] : List UInt8)), .slice none (0) (0)] 30, .blk b1 [.int .u8 (x.kind), .string (str (x.tag)), .string (str (x.key)), .slice (ta) (x.as.length) (tc), .string (str (x.text)), .slice (ka) (x.kids.length) (kc)] 30], M.keep (Gle.refl _) (by simp), ?_⟩
   refine pk_nil <| q_bn <| q_tn <| w_reg <| rl_run F (run_move (F.ev rfl)) rfl ?_; clear F a; intro a F
   refine rl_run F (run_addi (F.ev rfl) (F.ev rfl) (in_i64 (by omega) (by omega))) rfl ?_; clear F a; intro a F
   refine rl_run F (run_assign (F.ev rfl)) rfl ?_; clear F a; intro a F
   refine rl_nil <| q_tn ?_
   exact ⟨_, by omega, i + 1, (av13), (ny + 1), (cv13), (csy ++ ([.string (str (Xe10.n)), .string (str (Xe10.v))])), rfl, G8, hG8, F.to ⟨rfl, rfl, rfl, rfl, trivial⟩, (M.weaken (.cons _ (.cons_cons _ (.cons_cons _ (.cons_cons _ (.cons_cons _ (List.Sublist.refl _))))))), by omega, by omega, by rw [Tr.take_snoc' hXe10]; exact Ev13⟩
  ·intro hc
   have h14b := hc; clear hc
   have h14 : ¬ (((i : Nat) : Int) < ((x.as.length : Nat) : Int)) := of_decide_eq_false h14b
   refine wp_exit ?_
   iterate 2 (refine q_te ?_)
   refine q_bh <| q_tn ?_
   iterate 2 (refine wp_seq ?_)
   rw [List.take_of_length_le (by omega)] at Ey
   have hny2 : ny = x.as.length := by omega
   clear hny
   subst hny2
   obtain ⟨hnz15, Gz15, az15, cz15, hGz15, hez15, Sz15, M⟩ := M.freeze_row mono_rdAttr (k := 0) rfl Ey (by decide)
   clear hez15 az15 cz15
   replace SA := SA.mono mono_rdAttr hGz15
   replace SK := SK.mono mono_rdN hGz15
   clear hnz15
   refine w_reg <| rl_run F (run_assign (F.ev rfl)) rfl ?_; clear F a; intro a F
   refine rl_nil <| q_tn <| wp_block ?_
   have M := M.nilrow 30 6
   refine w_loopN (fun m a' w' => ∃ (j : Nat), ∃ (az : Option Addr), ∃ (nz : Nat), ∃ (cz : Nat), ∃ (csz : List Value), m = x.kids.length - j ∧ ∃ G16, Gle Gz15 G16 ∧ Fits 53 a' [(1, .pointer (some ⟨b1, 0, none⟩)), (2, .pointer (some ⟨b2, 0, none⟩)), (3, .pointer (some ⟨b6, 0, none⟩)), (5, .int .i64 (((j : Nat) : Int)))] ∧ Mem w0 G16 (.row (.slice (az) (nz) (cz)) (nz) (csz) 30 6 :: .blk b6 [.int .u8 (x.kind), .string (str (x.tag)), .string (str ([] : List UInt8)), .slice (ay) (x.as.length) (cy), .string (str (x.text)), .slice (az) (nz) (cz)] 30 :: .blk b2 [.int .u8 (0), .string (str ([] : List UInt8)), .string (str ([] : List UInt8)), .slice none (0) (0), .string (str ([] : List UInt8)), .slice none (0) (0)] 30 :: .blk b1 [.int .u8 (x.kind), .string (str (x.tag)), .string (str (x.key)), .slice (ta) (x.as.length) (tc), .string (str (x.text)), .slice (ka) (x.kids.length) (kc)] 30 :: L) w' ∧ (j ≤ x.kids.length) ∧ (nz = j) ∧ (Els rdN 6 G16 csz ((x.kids.take j).map strF))) _ ⟨0, (none), (0), (0), ([]), rfl, Gz15, Gle.refl _, F.to ⟨rfl, rfl, rfl, rfl, trivial⟩, M, Nat.zero_le _, rfl, Els.nil⟩ ?_
   clear F M
   rintro m a w ⟨j, az, nz, cz, csz, rfl, G16, hG16, F, M, hij, hnz, Ez⟩
   replace SA := SA.mono mono_rdAttr hG16
   replace SK := SK.mono mono_rdN hG16
   replace Sz15 := Sz15.mono mono_rdAttr hG16
   iterate 2 (refine wp_seq ?_)
   refine w_reg <| rl_run F (run_move (F.ev rfl)) rfl ?_; clear F a; intro a F
   refine rl_run F (run_fieldAddr tok30.k rfl rfl (F.ev rfl)) rfl ?_; clear F a; intro a F
   refine rl_run F (run_load1 (agf tok28 rfl) (F.ev rfl) (M.cellL (k := 3) rfl rfl)) rfl ?_; clear F a; intro a F
   refine rl_run F (run_lenSl tok28.k (F.ev rfl)) rfl ?_; clear F a; intro a F
   refine rl_run F (run_lss (F.ev rfl) (F.ev rfl)) rfl ?_; clear F a; intro a F
   refine rl_nil <| q_tn <| w_cond F rfl ?_ ?_
   ·intro hc
    have h17b := hc; clear hc
    have h17 : ((j : Nat) : Int) < ((x.kids.length : Nat) : Int) := of_decide_eq_true h17b
    refine wp_skip <| q_tn <| wp_seq <| wp_block <| w_plan3 [(.free, 0), (.pure, 1), (.free, 2), (.pure, 3), (.free, 4), (.free, 5), (.pure, 6), (.keep, 7), (.keep, 8), (.keep, 9), (.free, 10), (.chg, 11)] [11] (Keep G16 [.blk b6 [.int .u8 (x.kind), .string (str (x.tag)), .string (str ([] : List UInt8)), .slice (ay) (x.as.length) (cy), .string (str (x.text)), .slice (az) (nz) (cz)] 30, .blk b2 [.int .u8 (0), .string (str ([] : List UInt8)), .string (str ([] : List UInt8)), .slice none (0) (0), .string (str ([] : List UInt8)), .slice none (0) (0)] 30, .blk b1 [.int .u8 (x.kind), .string (str (x.tag)), .string (str (x.key)), .slice (ta) (x.as.length) (tc), .string (str (x.text)), .slice (ka) (x.kids.length) (kc)] 30]) rfl (by kernel_rfl) (fun c a d v w h => by cases d <;> exact h) ((M.drew _).keep (Gle.refl _) (by simp)) ?_
    replace M := M.drew (w.drawn + 1)
    refine pk_free F (fun w _ => run_fieldAddr tok30.k rfl rfl (F.ev rfl)) rfl ?_; clear F a; intro a F
    refine pk_pure F (fun w M => run_load1 (agf tok28 rfl) (F.ev rfl) (M.cellL (k := 0) rfl rfl)) rfl ?_; clear F a; intro a F
    refine pk_free F (fun w _ => run_fieldAddr tok30.k rfl rfl (F.ev rfl)) rfl ?_; clear F a; intro a F
    refine pk_pure F (fun w M => run_load1 (agf tok28 rfl) (F.ev rfl) (M.cellL (k := 2) rfl rfl)) rfl ?_; clear F a; intro a F
    refine pk_free F (fun w _ => run_move (F.ev rfl)) rfl ?_; clear F a; intro a F
    obtain ⟨Xe18, hXe18⟩ := get_of_lt (xs := x.kids) (i := j) (by omega)
    obtain ⟨be18, oe18, _, Ie18, _, Ae18, hTe18⟩ := SK.at hXe18
    obtain ⟨tae18, tce18, kae18, kce18, rfl, hke18, hle18, SAe18, SKe18⟩ := rdT_open hTe18
    refine pk_free F (fun w _ => run_indexI tok28.k tok30 (F.ev rfl) (F.ev rfl) (by omega) Ie18) rfl ?_; clear F a; intro a F
    refine pk_pure F (fun w M => run_loadA tok30 rfl (F.ev rfl) (cs := [.int .u8 (Xe18.kind), .string (str (Xe18.tag)), .string (str (Xe18.key)), .slice (tae18) (Xe18.as.length) (tce18), .string (str (Xe18.text)), .slice (kae18) (Xe18.kids.length) (kce18)]) rfl (M.cellsA Ae18 0 (by omega) rfl)) rfl ?_; clear F a; intro a F
    refine pk_keep ?_ rfl
    refine rl_call F ent43 rfl rfl (ih Xe18 (List.mem_of_getElem? hXe18) _ _ _ _ _ _ _ _ M hke18 hle18 SAe18 SKe18) ?_; clear F M a; rintro _ Gk19 w a hGk19 M ⟨tak19, tck19, kak19, kck19, rfl, hkk19, hlk19, SAk19, SKk19⟩ F
    replace SA := SA.mono mono_rdAttr hGk19
    replace SK := SK.mono mono_rdN hGk19
    replace Sz15 := Sz15.mono mono_rdAttr hGk19
    replace Ez := Ez.mono mono_rdN hGk19
    replace Ae18 := Ae18.mono hGk19
    replace SAe18 := SAe18.mono mono_rdAttr hGk19
    replace SKe18 := SKe18.mono mono_rdN hGk19
    refine rl_nil <| ⟨Keep Gk19 [.blk b6 [.int .u8 (x.kind), .string (str (x.tag)), .string (str ([] : List UInt8)), .slice (ay) (x.as.length) (cy), .string (str (x.text)), .slice (az) (nz) (cz)] 30, .blk b2 [.int .u8 (0), .string (str ([] : List UInt8)), .string (str ([] : List UInt8)), .slice none (0) (0), .string (str ([] : List UInt8)), .slice none (0) (0)] 30, .blk b1 [.int .u8 (x.kind), .string (str (x.tag)), .string (str (x.key)), .slice (ta) (x.as.length) (tc), .string (str (x.text)), .slice (ka) (x.kids.length) (kc)] 30], M.keep (Gle.refl _) (by simp), fun w h => h.mono hGk19 (by simp), ?_⟩
    refine pk_keep ?_ rfl
    refine rl_buildSlice1 F M tok28.k tok30 rfl rfl (cs := [.int .u8 ((strF Xe18).kind), .string (str ((strF Xe18).tag)), .string (str ((strF Xe18).key)), .slice (tak19) ((strF Xe18).as.length) (tck19), .string (str ((strF Xe18).text)), .slice (kak19) ((strF Xe18).kids.length) (kck19)]) rfl rfl (by simp [Value.oneCell']) (by decide) rfl ?_; clear F M a; intro v20 w a M F
    obtain ⟨av20, cv20, rfl, hlev20, hcmv20, hlv20⟩ := M.row_shape (k := 0) rfl
    refine rl_nil <| ⟨Keep Gk19 [.blk b6 [.int .u8 (x.kind), .string (str (x.tag)), .string (str ([] : List UInt8)), .slice (ay) (x.as.length) (cy), .string (str (x.text)), .slice (az) (nz) (cz)] 30, .blk b2 [.int .u8 (0), .string (str ([] : List UInt8)), .string (str ([] : List UInt8)), .slice none (0) (0), .string (str ([] : List UInt8)), .slice none (0) (0)] 30, .blk b1 [.int .u8 (x.kind), .string (str (x.tag)), .string (str (x.key)), .slice (ta) (x.as.length) (tc), .string (str (x.text)), .slice (ka) (x.kids.length) (kc)] 30], M.keep (Gle.refl _) (by simp), fun w h => h.mono (Gle.refl _) (by simp), ?_⟩
    have E21 : Els rdN 6 Gk19 [.int .u8 ((strF Xe18).kind), .string (str ((strF Xe18).tag)), .string (str ((strF Xe18).key)), .slice (tak19) ((strF Xe18).as.length) (tck19), .string (str ((strF Xe18).text)), .slice (kak19) ((strF Xe18).kids.length) (kck19)] [(strF Xe18)] := Els.one (rdT_close (x := (strF Xe18)) hkk19 hlk19 SAk19 SKk19) rfl
    refine pk_keep ?_ rfl
    refine rl_append_row F M (k := 1) (k2 := 0) rfl rfl tok28.k tok30 rfl rfl (by decide) rfl rfl (by show _ * 104 ≤ _; (try simp only [List.length_drop, List.length_take, List.length_append, List.length_cons, List.length_nil]); omega) (by (try simp only [List.length_drop, List.length_take, List.length_append, List.length_cons, List.length_nil]); omega) rfl ?_; clear F M a; intro v22 w a M F
    have Ev22 := Els.append Ez E21
    obtain ⟨av22, cv22, rfl, hlev22, hcmv22, hlv22⟩ := M.row_shape (k := 1) rfl
    refine rl_nil <| ⟨Keep Gk19 [.blk b6 [.int .u8 (x.kind), .string (str (x.tag)), .string (str ([] : List UInt8)), .slice (ay) (x.as.length) (cy), .string (str (x.text)), .slice (az) (nz) (cz)] 30, .blk b2 [.int .u8 (0), .string (str ([] : List UInt8)), .string (str ([] : List UInt8)), .slice none (0) (0), .string (str ([] : List UInt8)), .slice none (0) (0)] 30, .blk b1 [.int .u8 (x.kind), .string (str (x.tag)), .string (str (x.key)), .slice (ta) (x.as.length) (tc), .string (str (x.text)), .slice (ka) (x.kids.length) (kc)] 30], M.keep (Gle.refl _) (by simp), fun w h => h.mono (Gle.refl _) (by simp), ?_⟩
    refine pk_free F (fun w _ => run_fieldAddr tok30.k rfl rfl (F.ev rfl)) rfl ?_; clear F a; intro a F
    refine pk_chg ?_ rfl
    refine rl_store1 F M tok28 rfl (k := 2) rfl rfl rfl rfl rfl ?_; clear F M a; intro w a M F
    refine rl_nil ?_
    change Mem w0 Gk19 (.row (.slice (av20) (1) (cv20)) (1) ([.int .u8 ((strF Xe18).kind), .string (str ((strF Xe18).tag)), .string (str ((strF Xe18).key)), .slice (tak19) ((strF Xe18).as.length) (tck19), .string (str ((strF Xe18).text)), .slice (kak19) ((strF Xe18).kids.length) (kck19)]) 30 6 :: .row (.slice (av22) (nz + 1) (cv22)) (nz + 1) (csz ++ ([.int .u8 ((strF Xe18).kind), .string (str ((strF Xe18).tag)), .string (str ((strF Xe18).key)), .slice (tak19) ((strF Xe18).as.length) (tck19), .string (str ((strF Xe18).text)), .slice (kak19) ((strF Xe18).kids.length) (kck19)])) 30 6 :: .blk b6 [.int .u8 (x.kind), .string (str (x.tag)), .string (str ([] : List UInt8)), .slice (ay) (x.as.length) (cy), .string (str (x.text)), .slice (av22) (nz + 1) (cv22)] 30 :: .blk b2 [.int .u8 (0), .string (str ([] : List UInt8)), .string (str ([] : List UInt8)), .slice none (0) (0), .string (str ([] : List UInt8)), .slice none (0) (0)] 30 :: .blk b1 [.int .u8 (x.kind), .string (str (x.tag)), .string (str (x.key)), .slice (ta) (x.as.length) (tc), .string (str (x.text)), .slice (ka) (x.kids.length) (kc)] 30 :: L) _ at M
    refine ⟨Keep Gk19 [.row (.slice (av20) (1) (cv20)) (1) ([.int .u8 ((strF Xe18).kind), .string (str ((strF Xe18).tag)), .string (str ((strF Xe18).key)), .slice (tak19) ((strF Xe18).as.length) (tck19), .string (str ((strF Xe18).text)), .slice (kak19) ((strF Xe18).kids.length) (kck19)]) 30 6, .row (.slice (av22) (nz + 1) (cv22)) (nz + 1) (csz ++ ([.int .u8 ((strF Xe18).kind), .string (str ((strF Xe18).tag)), .string (str ((strF Xe18).key)), .slice (tak19) ((strF Xe18).as.length) (tck19), .string (str ((strF Xe18).text)), .slice (kak19) ((strF Xe18).kids.length) (kck19)])) 30 6, .blk b6 [.int .u8 (x.kind), .string (str (x.tag)), .string (str ([] : List UInt8)), .slice (ay) (x.as.length) (cy), .string (str (x.text)), .slice (av22) (nz + 1) (cv22)] 30, .blk b2 [.int .u8 (0), .string (str ([] : List UInt8)), .string (str ([] : List UInt8)), .slice none (0) (0), .string (str ([] : List UInt8)), .slice none (0) (0)] 30, .blk b1 [.int .u8 (x.kind), .string (str (x.tag)), .string (str (x.key)), .slice (ta) (x.as.length) (tc), .string (str (x.text)), .slice (ka) (x.kids.length) (kc)] 30], M.keep (Gle.refl _) (by simp), ?_⟩
    refine pk_nil <| q_bn <| q_tn <| w_reg <| rl_run F (run_move (F.ev rfl)) rfl ?_; clear F a; intro a F
    refine rl_run F (run_addi (F.ev rfl) (F.ev rfl) (in_i64 (by omega) (by omega))) rfl ?_; clear F a; intro a F
    refine rl_run F (run_assign (F.ev rfl)) rfl ?_; clear F a; intro a F
    refine rl_nil <| q_tn ?_
    exact ⟨_, by omega, j + 1, (av22), (nz + 1), (cv22), (csz ++ ([.int .u8 ((strF Xe18).kind), .string (str ((strF Xe18).tag)), .string (str ((strF Xe18).key)), .slice (tak19) ((strF Xe18).as.length) (tck19), .string (str ((strF Xe18).text)), .slice (kak19) ((strF Xe18).kids.length) (kck19)])), rfl, Gk19, (hG16.trans hGk19), F.to ⟨rfl, rfl, rfl, rfl, trivial⟩, (M.weaken (.cons _ (.cons_cons _ (.cons_cons _ (.cons_cons _ (.cons_cons _ (List.Sublist.refl _))))))), by omega, by omega, by rw [Tr.take_snoc' hXe18, List.map_append]; exact Ev22⟩
   ·intro hc
    have h23b := hc; clear hc
    have h23 : ¬ (((j : Nat) : Int) < ((x.kids.length : Nat) : Int)) := of_decide_eq_false h23b
    refine wp_exit ?_
    iterate 2 (refine q_te ?_)
    refine q_bh <| q_tn <| wp_seq ?_
    rw [List.take_of_length_le (by omega), str_kids hV] at Ez
    have hnz2 : nz = (x.kids.map (copF false)).length := by rw [List.length_map]; omega
    clear hnz
    subst hnz2
    obtain ⟨hnz24, Gz24, az24, cz24, hGz24, hez24, Sz24, M⟩ := M.freeze_row mono_rdN (k := 0) rfl Ez (by decide)
    clear hez24 az24 cz24
    replace SA := SA.mono mono_rdAttr hGz24
    replace SK := SK.mono mono_rdN hGz24
    replace Sz15 := Sz15.mono mono_rdAttr hGz24
    clear hnz24
    refine w_reg <| rl_run F (run_loadA tok30 rfl (F.ev rfl) (cs := [.int .u8 (x.kind), .string (str (x.tag)), .string (str ([] : List UInt8)), .slice (ay) (x.as.length) (cy), .string (str (x.text)), .slice (az) ((x.kids.map (copF false)).length) (cz)]) rfl (M.cellsL (k := 0) rfl rfl)) rfl ?_; clear F a; intro a F
    refine rl_storeA F M tok30 (k := 1) rfl rfl rfl (us := [.int .u8 (x.kind), .string (str (x.tag)), .string (str ([] : List UInt8)), .slice (ay) (x.as.length) (cy), .string (str (x.text)), .slice (az) ((x.kids.map (copF false)).length) (cz)]) rfl rfl (by simp [Value.oneCell']) (by simp) ?_; clear F M a; intro w a M F
    change Mem w0 Gz24 (_ :: .blk b2 [.int .u8 (x.kind), .string (str (x.tag)), .string (str ([] : List UInt8)), .slice (ay) (x.as.length) (cy), .string (str (x.text)), .slice (az) ((x.kids.map (copF false)).length) (cz)] 30 :: _ :: L) _ at M
    refine rl_nil <| q_tn <| wp_ret <| fin_c F M (k := 1) rfl rfl tok30 rfl rfl rfl ?_
    rw [strF_yes hV]
    exact ⟨_, (((hG8.trans hGz15).trans hG16).trans hGz24), M.weaken (.cons _ (.cons _ (.cons _ (List.Sublist.refl _)))), _, _, _, _, by rw [copF_eq]; rfl, by rw [copF_kind]; exact hk, copF_len hl, by rw [copF_eq]; exact Sz15, by rw [copF_eq]; exact Sz24⟩
theorem rstrip_all (x : NT) : RstQ x := by
 induction x using Tr.ind with
 | _ x ih => intro w0 w G L ta ka tc kc M hk hl SA SK; exact rstrip_step ih M hk hl SA SK
end Go.Proofs.YtlnehkjmmegkhaaGreat
