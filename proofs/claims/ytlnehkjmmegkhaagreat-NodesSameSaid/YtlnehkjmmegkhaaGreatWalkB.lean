/- The walks, part B. -/
import Derived.Test.YtlnehkjmmegkhaaGreatWalkA
namespace Go.Proofs.YtlnehkjmmegkhaaGreat
open Go Go.Y Go.Proofs
set_option linter.unusedSimpArgs false
set_option linter.unusedVariables false
theorem keyf_spec {w0 w : World} {G : Ghost} {L : List Res} {b : Nat} {x d : NT} {ta ka tad kad : Option Addr} {tc kc tcd kcd : Nat} (M : Mem w0 G (.blk b [.int .u8 (x.kind), .string (str (x.tag)), .string (str (x.key)), .slice (ta) (x.as.length) (tc), .string (str (x.text)), .slice (ka) (x.kids.length) (kc)] 30 :: L) w) :
  Calls Tryz.prog 111 #[.agg #[.int .u8 (d.kind), .string (str (d.tag)), .string (str (d.key)), .slice (tad) (d.as.length) (tcd), .string (str (d.text)), .slice (kad) (d.kids.length) (kcd)], .pointer (some ⟨b, 0, none⟩)] w (RetS w0 G (.blk b [.int .u8 (x.kind), .string (str (x.tag)), .string (str (x.key)), .slice (ta) (x.as.length) (tc), .string (str (x.text)), .slice (ka) (x.kids.length) (kc)] 30 :: L) fun v => v = .bool (decide (d.key = x.key))) := by
 refine calls_start (vs := [_, _]) Tryz.func111 rfl (n := 9) rfl rfl ?_
 intro a F
 refine wp_seq <| w_reg <| rl_box F M rfl (cs := [.int .u8 (d.kind), .string (str (d.tag)), .string (str (d.key)), .slice (tad) (d.as.length) (tcd), .string (str (d.text)), .slice (kad) (d.kids.length) (kcd)]) rfl rfl ?_; clear F M a; intro b1 w a M F
 refine rl_run F (run_assign (F.ev rfl)) rfl ?_; clear F a; intro a F
 refine rl_nil <| q_tn <| wp_seq <| w_reg <| rl_run F (run_fieldAddr tok30.k rfl rfl (F.ev rfl)) rfl ?_; clear F a; intro a F
 refine rl_run F (run_load1 (agf tok9 rfl) (F.ev rfl) (M.cellL (k := 0) rfl rfl)) rfl ?_; clear F a; intro a F
 refine rl_run F (run_fieldAddr tok30.k rfl rfl (F.ev rfl)) rfl ?_; clear F a; intro a F
 refine rl_run F (run_load1 (agf tok9 rfl) (F.ev rfl) (M.cellL (k := 1) rfl rfl)) rfl ?_; clear F a; intro a F
 refine rl_run F (run_strEq (F.ev rfl) (F.ev rfl)) rfl ?_; clear F a; intro a F
 refine rl_run F (run_assign (F.ev rfl)) rfl ?_; clear F a; intro a F
 refine rl_nil <| q_tn <| wp_ret <| fin1 F rfl rfl ?_
 exact ⟨M.weaken (.cons _ (.cons_cons _ (List.Sublist.refl _))), by simp⟩
theorem idxn_spec {w0 w : World} {G : Ghost} {L : List Res} {b : Nat} {x : NT} {ta ka : Option Addr} {tc kc : Nat} (M : Mem w0 G (.blk b [.int .u8 (x.kind), .string (str (x.tag)), .string (str (x.key)), .slice (ta) (x.as.length) (tc), .string (str (x.text)), .slice (ka) (x.kids.length) (kc)] 30 :: L) w) {ks : List NT} {kad : Option Addr} {kcd : Nat} (S : RdSl rdN 6 G (.slice kad ks.length kcd) ks) (hks : ks.length ≤ 9223372036854775807) :
  Calls Tryz.prog 123 #[.slice kad ks.length kcd, .func (.func 111) #[] #[.pointer (some ⟨b, 0, none⟩)]] w (RetS w0 G (.blk b [.int .u8 (x.kind), .string (str (x.tag)), .string (str (x.key)), .slice (ta) (x.as.length) (tc), .string (str (x.text)), .slice (ka) (x.kids.length) (kc)] 30 :: L) fun v => ∃ z : Int, v = .int .i64 z ∧ (0 ≤ z ↔ HasKey ks x.key)) := by
 refine calls_start (vs := [_, _]) Tryz.func123 rfl (n := 19) rfl rfl ?_
 intro a F
 refine wp_seq <| w_reg <| rl_run F (run_assign (F.ev rfl)) rfl ?_; clear F a; intro a F
 refine rl_nil <| q_tn ?_
 iterate 2 (refine wp_seq ?_)
 refine w_reg <| rl_run F (run_move (F.ev rfl)) rfl ?_; clear F a; intro a F
 refine rl_run F (run_lenSl tok28.k (F.ev rfl)) rfl ?_; clear F a; intro a F
 refine rl_run F (run_move (F.ev rfl)) rfl ?_; clear F a; intro a F
 refine rl_nil <| q_tn <| wp_block <| w_loopN (fun m a' w' => ∃ (i : Nat), m = ks.length - i ∧ Fits 19 a' [(0, .slice (kad) (ks.length) (kcd)), (1, .func (.func 111) #[] #[.pointer (some ⟨b, 0, none⟩)]), (7, .int .i64 (((ks.length : Nat) : Int))), (8, .int .i64 (((i : Nat) : Int)))] ∧ Mem w0 G (.blk b [.int .u8 (x.kind), .string (str (x.tag)), .string (str (x.key)), .slice (ta) (x.as.length) (tc), .string (str (x.text)), .slice (ka) (x.kids.length) (kc)] 30 :: L) w' ∧ (i ≤ ks.length) ∧ (∀ (m : Nat) (d : NT), m < i → ks[m]? = some d → d.key ≠ x.key)) _ ⟨0, rfl, F.to ⟨rfl, rfl, rfl, rfl, trivial⟩, M, Nat.zero_le _, fun m d h => by omega⟩ ?_
 clear F M
 rintro m a w ⟨i, rfl, F, M, hi, hA⟩
 refine wp_seq <| w_reg <| rl_run F (run_lss (F.ev rfl) (F.ev rfl)) rfl ?_; clear F a; intro a F
 refine rl_nil <| q_tn <| wp_seq <| w_cond F rfl ?_ ?_
 ·intro hc
  have h1b := hc; clear hc
  have h1 : ((i : Nat) : Int) < ((ks.length : Nat) : Int) := of_decide_eq_true h1b
  refine wp_skip <| q_tn <| wp_seq <| wp_block <| wp_seq <| w_reg <| rl_run F (run_move (F.ev rfl)) rfl ?_; clear F a; intro a F
  refine rl_run F (run_assign (F.ev rfl)) rfl ?_; clear F a; intro a F
  refine rl_nil <| q_tn <| wp_seq <| w_reg ?_
  iterate 3 (refine rl_run F (run_move (F.ev rfl)) rfl ?_; clear F a; intro a F)
  obtain ⟨Xe2, hXe2⟩ := get_of_lt (xs := ks) (i := i) (by omega)
  obtain ⟨be2, oe2, _, Ie2, _, Ae2, hTe2⟩ := S.at hXe2
  obtain ⟨tae2, tce2, kae2, kce2, rfl, hke2, hle2, SAe2, SKe2⟩ := rdT_open hTe2
  refine rl_run F (run_indexI tok28.k tok30 (F.ev rfl) (F.ev rfl) (by omega) Ie2) rfl ?_; clear F a; intro a F
  refine rl_run F (run_loadA tok30 rfl (F.ev rfl) (cs := [.int .u8 (Xe2.kind), .string (str (Xe2.tag)), .string (str (Xe2.key)), .slice (tae2) (Xe2.as.length) (tce2), .string (str (Xe2.text)), .slice (kae2) (Xe2.kids.length) (kce2)]) rfl (M.cellsA Ae2 0 (by omega) rfl)) rfl ?_; clear F a; intro a F
  change Mem w0 G (_ :: L) _ at M
  refine rl_callvS F ent111 (caps := [.pointer (some ⟨b, 0, none⟩)]) rfl rfl rfl (keyf_spec (x := x) (d := Xe2) M) ?_; clear F M a; rintro _ w a M rfl F
  refine rl_nil <| q_tn <| w_cond F rfl ?_ ?_
  ·intro hc
   have h3b := hc; clear hc
   have h3 : Xe2.key = x.key := of_decide_eq_true h3b
   refine wp_seq <| w_reg <| rl_run F (run_move (F.ev rfl)) rfl ?_; clear F a; intro a F
   refine rl_run F (run_assign (F.ev rfl)) rfl ?_; clear F a; intro a F
   refine rl_nil <| q_tn <| wp_ret <| q_br ?_
   iterate 2 (refine q_tr ?_)
   refine q_br <| q_tr <| fin1 F rfl rfl ?_
   exact ⟨M, _, rfl, ⟨fun _ => ⟨_, List.mem_of_getElem? hXe2, by assumption⟩, fun _ => by omega⟩⟩
  ·intro hc
   have h4b := hc; clear hc
   have h4 : ¬ (Xe2.key = x.key) := of_decide_eq_false h4b
   refine wp_skip <| q_bn <| q_tn <| w_reg <| rl_run F (run_addi (F.ev rfl) (F.ev rfl) (in_i64 (by omega) (by omega))) rfl ?_; clear F a; intro a F
   refine rl_run F (run_move (F.ev rfl)) rfl ?_; clear F a; intro a F
   refine rl_nil <| q_tn ?_
   exact ⟨_, by omega, i + 1, rfl, F.to ⟨rfl, rfl, rfl, rfl, trivial⟩, M, by omega, fun m d hm hd => by rcases Nat.eq_or_lt_of_le (show m ≤ i by omega) with e | e; (subst e; rw [hXe2] at hd; simp only [Option.some.injEq] at hd; subst hd; assumption); exact hA m d e hd⟩
 ·intro hc
  have h5b := hc; clear hc
  have h5 : ¬ (((i : Nat) : Int) < ((ks.length : Nat) : Int)) := of_decide_eq_false h5b
  refine wp_exit ?_
  iterate 2 (refine q_te ?_)
  refine q_bh <| q_tn <| wp_seq <| w_reg <| rl_run F (run_assign (F.ev rfl)) rfl ?_; clear F a; intro a F
  refine rl_nil <| q_tn <| wp_ret <| fin1 F rfl rfl ?_
  exact ⟨M, _, rfl, ⟨fun h => by omega, fun ⟨d, hd, he⟩ => by obtain ⟨m, hm⟩ := List.mem_iff_getElem?.1 hd; exact absurd he (hA m d (by have := lt_of_get hm; omega) hm)⟩⟩
theorem contn_spec {w0 w : World} {G : Ghost} {L : List Res} {b : Nat} {x : NT} {ta ka : Option Addr} {tc kc : Nat} (M : Mem w0 G (.blk b [.int .u8 (x.kind), .string (str (x.tag)), .string (str (x.key)), .slice (ta) (x.as.length) (tc), .string (str (x.text)), .slice (ka) (x.kids.length) (kc)] 30 :: L) w) {ks : List NT} {kad : Option Addr} {kcd : Nat} (S : RdSl rdN 6 G (.slice kad ks.length kcd) ks) (hks : ks.length ≤ 9223372036854775807) :
  Calls Tryz.prog 110 #[.slice kad ks.length kcd, .func (.func 111) #[] #[.pointer (some ⟨b, 0, none⟩)]] w (RetS w0 G (.blk b [.int .u8 (x.kind), .string (str (x.tag)), .string (str (x.key)), .slice (ta) (x.as.length) (tc), .string (str (x.text)), .slice (ka) (x.kids.length) (kc)] 30 :: L) fun v => ∃ bb : Bool, v = .bool bb ∧ (bb = true ↔ HasKey ks x.key)) := by
 refine calls_start (vs := [_, _]) Tryz.func110 rfl (n := 9) rfl rfl ?_
 intro a F
 refine wp_seq <| w_reg <| rl_run F (run_assign (F.ev rfl)) rfl ?_; clear F a; intro a F
 refine rl_nil <| q_tn <| wp_seq <| w_reg ?_
 iterate 2 (refine rl_run F (run_move (F.ev rfl)) rfl ?_; clear F a; intro a F)
 change Mem w0 G (_ :: L) _ at M
 refine rl_callS F ent123 rfl rfl (idxn_spec (x := x) (ks := ks) M S (by omega)) ?_; clear F M a; rintro _ w a M ⟨z1, rfl, hz1⟩ F
 refine rl_run F (run_geq (F.ev rfl) (F.ev rfl)) rfl ?_; clear F a; intro a F
 refine rl_run F (run_assign (F.ev rfl)) rfl ?_; clear F a; intro a F
 refine rl_nil <| q_tn <| wp_ret <| fin1 F rfl rfl ?_
 exact ⟨M, _, rfl, decide_eq_true_iff.trans hz1⟩
theorem alone_spec {w0 w : World} {G : Ghost} {L : List Res} (M : Mem w0 G L w) {x : NT} {ta : Option Addr} {tc : Nat} {ka : Option Addr} {kc : Nat} (hk : inKind .u8 x.kind) (hl : (x.tag.length ≤ 9223372036854775807 ∧ x.key.length ≤ 9223372036854775807 ∧ x.text.length ≤ 9223372036854775807)) (SA : RdSl rdAttr 2 G (.slice ta x.as.length tc) x.as) (SK : RdSl rdN 6 G (.slice ka x.kids.length kc) x.kids) {nb no : Nat} (A : At G nb no [.int .u8 (x.kind), .string (str (x.tag)), .string (str (x.key)), .slice (ta) (x.as.length) (tc), .string (str (x.text)), .slice (ka) (x.kids.length) (kc)]) : Calls Tryz.prog 88 #[.pointer (some ⟨nb, no, none⟩)] w (RetS w0 G L fun v => ∃ bb : Bool, v = .bool bb ∧ (bb = true ↔ Alone x)) := by
 refine calls_start (vs := [_]) Tryz.func88 rfl (n := 161) rfl rfl ?_
 intro a F
 refine wp_seq <| w_reg <| rl_run F (run_assign (F.ev rfl)) rfl ?_; clear F a; intro a F
 refine rl_nil <| q_tn ?_
 iterate 2 (refine wp_seq ?_)
 refine w_reg <| rl_run F (run_move (F.ev rfl)) rfl ?_; clear F a; intro a F
 refine rl_run F (run_nilCheck (F.ev rfl)) rfl ?_; clear F a; intro a F
 refine rl_run F (run_fieldAddr tok30.k rfl rfl (F.ev rfl)) rfl ?_; clear F a; intro a F
 refine rl_run F (run_load1 (agf tok5 rfl) (F.ev rfl) (M.cellA A 0 rfl rfl)) rfl ?_; clear F a; intro a F
 refine rl_run F (run_eqi (F.ev rfl) (F.ev rfl)) rfl ?_; clear F a; intro a F
 refine rl_nil <| q_tn <| w_cond F rfl ?_ ?_
 ·intro hc
  have h1b := hc; clear hc
  have h1 : x.kind = 2 := of_decide_eq_true h1b
  refine wp_seq <| w_reg <| rl_run F (run_move (F.ev rfl)) rfl ?_; clear F a; intro a F
  refine rl_run F (run_nilCheck (F.ev rfl)) rfl ?_; clear F a; intro a F
  refine rl_run F (run_fieldAddr tok30.k rfl rfl (F.ev rfl)) rfl ?_; clear F a; intro a F
  refine rl_run F (run_load1 (agf tok9 rfl) (F.ev rfl) (M.cellA A 4 rfl rfl)) rfl ?_; clear F a; intro a F
  refine rl_callS F ent108 rfl rfl (ntext_spec (s := x.text) M (by omega)) ?_; clear F M a; rintro _ w a M ⟨b2, rfl, hb2⟩ F
  refine rl_run F (run_move (F.ev rfl)) rfl ?_; clear F a; intro a F
  rcases Bool.eq_false_or_eq_true (b2) with hc | hc
  ·skip
   have h3b := hc; clear hc
   have h3 : (b2) = true := h3b
   refine rl_guard_t F rfl rfl rfl h3b ?_
   refine rl_run F (run_move (F.ev rfl)) rfl ?_; clear F a; intro a F
   refine rl_guard_t F rfl rfl rfl h3b ?_
   refine rl_run F (run_nilCheck (F.ev rfl)) rfl ?_; clear F a; intro a F
   refine rl_guard_t F rfl rfl rfl h3b ?_
   refine rl_run F (run_fieldAddr tok30.k rfl rfl (F.ev rfl)) rfl ?_; clear F a; intro a F
   refine rl_guard_t F rfl rfl rfl h3b ?_
   refine rl_run F (run_load1 (agf tok9 rfl) (F.ev rfl) (M.cellA A 1 rfl rfl)) rfl ?_; clear F a; intro a F
   refine rl_guard_t F rfl rfl rfl h3b ?_
   refine rl_run F (run_strEq (F.ev rfl) (F.ev rfl)) rfl ?_; clear F a; intro a F
   refine rl_run F (run_pick_t (F.ev rfl) h3b (F.ev rfl)) rfl ?_; clear F a; intro a F
   refine rl_run F (run_move (F.ev rfl)) rfl ?_; clear F a; intro a F
   rcases Bool.eq_false_or_eq_true (decide (x.tag = ([] : List UInt8))) with hc | hc
   ·skip
    have h4b := hc; clear hc
    have h4 : x.tag = ([] : List UInt8) := of_decide_eq_true h4b
    refine rl_guard_t F rfl rfl rfl h4b ?_
    refine rl_run F (run_move (F.ev rfl)) rfl ?_; clear F a; intro a F
    refine rl_guard_t F rfl rfl rfl h4b ?_
    refine rl_run F (run_nilCheck (F.ev rfl)) rfl ?_; clear F a; intro a F
    refine rl_guard_t F rfl rfl rfl h4b ?_
    refine rl_run F (run_fieldAddr tok30.k rfl rfl (F.ev rfl)) rfl ?_; clear F a; intro a F
    refine rl_guard_t F rfl rfl rfl h4b ?_
    refine rl_run F (run_load1 (agf tok9 rfl) (F.ev rfl) (M.cellA A 2 rfl rfl)) rfl ?_; clear F a; intro a F
    refine rl_guard_t F rfl rfl rfl h4b ?_
    refine rl_run F (run_strEq (F.ev rfl) (F.ev rfl)) rfl ?_; clear F a; intro a F
    refine rl_run F (run_pick_t (F.ev rfl) h4b (F.ev rfl)) rfl ?_; clear F a; intro a F
    refine rl_run F (run_move (F.ev rfl)) rfl ?_; clear F a; intro a F
    rcases Bool.eq_false_or_eq_true (decide (x.key = ([] : List UInt8))) with hc | hc
    ·skip
     have h5b := hc; clear hc
     have h5 : x.key = ([] : List UInt8) := of_decide_eq_true h5b
     refine rl_guard_t F rfl rfl rfl h5b ?_
     refine rl_run F (run_move (F.ev rfl)) rfl ?_; clear F a; intro a F
     refine rl_guard_t F rfl rfl rfl h5b ?_
     refine rl_run F (run_nilCheck (F.ev rfl)) rfl ?_; clear F a; intro a F
     refine rl_guard_t F rfl rfl rfl h5b ?_
     refine rl_run F (run_fieldAddr tok30.k rfl rfl (F.ev rfl)) rfl ?_; clear F a; intro a F
     refine rl_guard_t F rfl rfl rfl h5b ?_
     refine rl_run F (run_load1 (agf tok27 rfl) (F.ev rfl) (M.cellA A 3 rfl rfl)) rfl ?_; clear F a; intro a F
     refine rl_guard_t F rfl rfl rfl h5b ?_
     refine rl_run F (run_lenSl tok27.k (F.ev rfl)) rfl ?_; clear F a; intro a F
     refine rl_guard_t F rfl rfl rfl h5b ?_
     refine rl_run F (run_eqi (F.ev rfl) (F.ev rfl)) rfl ?_; clear F a; intro a F
     refine rl_run F (run_pick_t (F.ev rfl) h5b (F.ev rfl)) rfl ?_; clear F a; intro a F
     refine rl_run F (run_move (F.ev rfl)) rfl ?_; clear F a; intro a F
     rcases Bool.eq_false_or_eq_true (decide (((x.as.length : Nat) : Int) = 0)) with hc | hc
     ·skip
      have h6b := hc; clear hc
      have h6 : ((x.as.length : Nat) : Int) = 0 := of_decide_eq_true h6b
      refine rl_guard_t F rfl rfl rfl h6b ?_
      refine rl_run F (run_move (F.ev rfl)) rfl ?_; clear F a; intro a F
      refine rl_guard_t F rfl rfl rfl h6b ?_
      refine rl_run F (run_nilCheck (F.ev rfl)) rfl ?_; clear F a; intro a F
      refine rl_guard_t F rfl rfl rfl h6b ?_
      refine rl_run F (run_fieldAddr tok30.k rfl rfl (F.ev rfl)) rfl ?_; clear F a; intro a F
      refine rl_guard_t F rfl rfl rfl h6b ?_
      refine rl_run F (run_load1 (agf tok28 rfl) (F.ev rfl) (M.cellA A 5 rfl rfl)) rfl ?_; clear F a; intro a F
      refine rl_guard_t F rfl rfl rfl h6b ?_
      refine rl_run F (run_lenSl tok28.k (F.ev rfl)) rfl ?_; clear F a; intro a F
      refine rl_guard_t F rfl rfl rfl h6b ?_
      refine rl_run F (run_eqi (F.ev rfl) (F.ev rfl)) rfl ?_; clear F a; intro a F
      refine rl_run F (run_pick_t (F.ev rfl) h6b (F.ev rfl)) rfl ?_; clear F a; intro a F
      refine rl_run F (run_assign (F.ev rfl)) rfl ?_; clear F a; intro a F
      refine rl_nil <| q_tn <| wp_ret <| q_tr <| fin1 F rfl rfl ?_
      exact ⟨M, (decide (((x.kids.length : Nat) : Int) = 0)), rfl, (by rw [alone_words (by assumption)]; clear F M; grind)⟩
     ·skip
      have h7b := hc; clear hc
      have h7 : ¬ (((x.as.length : Nat) : Int) = 0) := of_decide_eq_false h7b
      iterate 6 (refine rl_guard_f F rfl rfl rfl h7b ?_; clear F a; intro a F)
      refine rl_run F (run_pick_f (F.ev rfl) h7b (F.ev rfl)) rfl ?_; clear F a; intro a F
      refine rl_run F (run_assign (F.ev rfl)) rfl ?_; clear F a; intro a F
      refine rl_nil <| q_tn <| wp_ret <| q_tr <| fin1 F rfl rfl ?_
      exact ⟨M, false, rfl, (by rw [alone_words (by assumption)]; clear F M; grind)⟩
    ·skip
     have h8b := hc; clear hc
     have h8 : ¬ (x.key = ([] : List UInt8)) := of_decide_eq_false h8b
     iterate 6 (refine rl_guard_f F rfl rfl rfl h8b ?_; clear F a; intro a F)
     refine rl_run F (run_pick_f (F.ev rfl) h8b (F.ev rfl)) rfl ?_; clear F a; intro a F
     refine rl_run F (run_move (F.ev rfl)) rfl ?_; clear F a; intro a F
     iterate 6 (refine rl_guard_f F rfl rfl rfl rfl ?_; clear F a; intro a F)
     refine rl_run F (run_pick_f (F.ev rfl) rfl (F.ev rfl)) rfl ?_; clear F a; intro a F
     refine rl_run F (run_assign (F.ev rfl)) rfl ?_; clear F a; intro a F
     refine rl_nil <| q_tn <| wp_ret <| q_tr <| fin1 F rfl rfl ?_
     exact ⟨M, false, rfl, (by rw [alone_words (by assumption)]; clear F M; grind)⟩
   ·skip
    have h9b := hc; clear hc
    have h9 : ¬ (x.tag = ([] : List UInt8)) := of_decide_eq_false h9b
    iterate 5 (refine rl_guard_f F rfl rfl rfl h9b ?_; clear F a; intro a F)
    refine rl_run F (run_pick_f (F.ev rfl) h9b (F.ev rfl)) rfl ?_; clear F a; intro a F
    refine rl_run F (run_move (F.ev rfl)) rfl ?_; clear F a; intro a F
    iterate 6 (refine rl_guard_f F rfl rfl rfl rfl ?_; clear F a; intro a F)
    refine rl_run F (run_pick_f (F.ev rfl) rfl (F.ev rfl)) rfl ?_; clear F a; intro a F
    refine rl_run F (run_move (F.ev rfl)) rfl ?_; clear F a; intro a F
    iterate 6 (refine rl_guard_f F rfl rfl rfl rfl ?_; clear F a; intro a F)
    refine rl_run F (run_pick_f (F.ev rfl) rfl (F.ev rfl)) rfl ?_; clear F a; intro a F
    refine rl_run F (run_assign (F.ev rfl)) rfl ?_; clear F a; intro a F
    refine rl_nil <| q_tn <| wp_ret <| q_tr <| fin1 F rfl rfl ?_
    exact ⟨M, false, rfl, (by rw [alone_words (by assumption)]; clear F M; grind)⟩
  ·skip
   have h10b := hc; clear hc
   have h10 : (b2) = false := h10b
   iterate 5 (refine rl_guard_f F rfl rfl rfl h10b ?_; clear F a; intro a F)
   refine rl_run F (run_pick_f (F.ev rfl) h10b (F.ev rfl)) rfl ?_; clear F a; intro a F
   refine rl_run F (run_move (F.ev rfl)) rfl ?_; clear F a; intro a F
   iterate 5 (refine rl_guard_f F rfl rfl rfl rfl ?_; clear F a; intro a F)
   refine rl_run F (run_pick_f (F.ev rfl) rfl (F.ev rfl)) rfl ?_; clear F a; intro a F
   refine rl_run F (run_move (F.ev rfl)) rfl ?_; clear F a; intro a F
   iterate 6 (refine rl_guard_f F rfl rfl rfl rfl ?_; clear F a; intro a F)
   refine rl_run F (run_pick_f (F.ev rfl) rfl (F.ev rfl)) rfl ?_; clear F a; intro a F
   refine rl_run F (run_move (F.ev rfl)) rfl ?_; clear F a; intro a F
   iterate 6 (refine rl_guard_f F rfl rfl rfl rfl ?_; clear F a; intro a F)
   refine rl_run F (run_pick_f (F.ev rfl) rfl (F.ev rfl)) rfl ?_; clear F a; intro a F
   refine rl_run F (run_assign (F.ev rfl)) rfl ?_; clear F a; intro a F
   refine rl_nil <| q_tn <| wp_ret <| q_tr <| fin1 F rfl rfl ?_
   exact ⟨M, false, rfl, (by rw [alone_words (by assumption)]; clear F M; grind)⟩
 ·intro hc
  have h11b := hc; clear hc
  have h11 : ¬ (x.kind = 2) := of_decide_eq_false h11b
  refine wp_skip <| q_tn ?_
  iterate 2 (refine wp_seq ?_)
  refine w_cut (fun a' w' => ∃ (bb : Bool), Fits 161 a' [(0, .pointer (some ⟨nb, no, none⟩)), (97, .bool (bb))] ∧ Mem w0 G (L) w' ∧ (bb = true ↔ ¬ Elem x)) ?_ ?_
  ·skip
   refine w_reg <| rl_run F (run_move (F.ev rfl)) rfl ?_; clear F a; intro a F
   refine rl_run F (run_nilCheck (F.ev rfl)) rfl ?_; clear F a; intro a F
   refine rl_run F (run_fieldAddr tok30.k rfl rfl (F.ev rfl)) rfl ?_; clear F a; intro a F
   refine rl_run F (run_load1 (agf tok5 rfl) (F.ev rfl) (M.cellA A 0 rfl rfl)) rfl ?_; clear F a; intro a F
   refine rl_run F (run_nei (F.ev rfl) (F.ev rfl)) rfl ?_; clear F a; intro a F
   refine rl_run F (run_move (F.ev rfl)) rfl ?_; clear F a; intro a F
   rcases Bool.eq_false_or_eq_true (!(decide (x.kind = 1))) with hc | hc
   ·skip
    have h12b := hc; clear hc
    have h12 : ¬ (x.kind = 1) := of_decide_eq_false (of_not_t h12b)
    have h12c : (decide (x.kind = 1)) = false := (of_not_t h12b)
    iterate 6 (refine rl_guard_f F rfl rfl rfl (not_t h12c) ?_; clear F a; intro a F)
    refine rl_run F (run_pick_t (F.ev rfl) (not_t h12c) (F.ev rfl)) rfl ?_; clear F a; intro a F
    refine rl_run F (run_move (F.ev rfl)) rfl ?_; clear F a; intro a F
    iterate 6 (refine rl_guard_f F rfl rfl rfl rfl ?_; clear F a; intro a F)
    iterate 6 (refine rl_guard_u F rfl rfl rfl ?_; clear F a; intro a F)
    refine rl_guard_f F rfl rfl rfl rfl ?_; clear F a; intro a F
    refine rl_run F (run_pick_t (F.ev rfl) rfl (F.ev rfl)) rfl ?_; clear F a; intro a F
    refine rl_run F (run_move (F.ev rfl)) rfl ?_; clear F a; intro a F
    iterate 5 (refine rl_guard_f F rfl rfl rfl rfl ?_; clear F a; intro a F)
    refine rl_run F (run_pick_t (F.ev rfl) rfl (F.ev rfl)) rfl ?_; clear F a; intro a F
    refine rl_run F (run_move (F.ev rfl)) rfl ?_; clear F a; intro a F
    iterate 6 (refine rl_guard_f F rfl rfl rfl rfl ?_; clear F a; intro a F)
    refine rl_run F (run_pick_t (F.ev rfl) rfl (F.ev rfl)) rfl ?_; clear F a; intro a F
    refine rl_run F (run_move (F.ev rfl)) rfl ?_; clear F a; intro a F
    iterate 6 (refine rl_guard_f F rfl rfl rfl rfl ?_; clear F a; intro a F)
    refine rl_run F (run_pick_t (F.ev rfl) rfl (F.ev rfl)) rfl ?_; clear F a; intro a F
    refine rl_nil ?_
    exact ⟨true, F.to ⟨rfl, rfl, trivial⟩, M, by unfold Elem; clear F M; grind⟩
   ·skip
    have h13b := hc; clear hc
    have h13 : x.kind = 1 := of_decide_eq_true (of_not_f h13b)
    have h13c : (decide (x.kind = 1)) = true := (of_not_f h13b)
    refine rl_guard_t F rfl rfl rfl (not_f h13c) ?_
    refine rl_run F (run_move (F.ev rfl)) rfl ?_; clear F a; intro a F
    refine rl_guard_t F rfl rfl rfl (not_f h13c) ?_
    refine rl_run F (run_nilCheck (F.ev rfl)) rfl ?_; clear F a; intro a F
    refine rl_guard_t F rfl rfl rfl (not_f h13c) ?_
    refine rl_run F (run_fieldAddr tok30.k rfl rfl (F.ev rfl)) rfl ?_; clear F a; intro a F
    refine rl_guard_t F rfl rfl rfl (not_f h13c) ?_
    refine rl_run F (run_load1 (agf tok9 rfl) (F.ev rfl) (M.cellA A 1 rfl rfl)) rfl ?_; clear F a; intro a F
    refine rl_guard_t F rfl rfl rfl (not_f h13c) ?_
    refine rl_callS F ent109 rfl rfl (nnamed_spec (s := x.tag) M (by omega)) ?_; clear F M a; rintro _ w a M ⟨b14, rfl, hb14⟩ F
    refine rl_guard_t F rfl rfl rfl (not_f h13c) ?_
    refine rl_run F (run_not (F.ev rfl)) rfl ?_; clear F a; intro a F
    refine rl_run F (run_pick_f (F.ev rfl) (not_f h13c) (F.ev rfl)) rfl ?_; clear F a; intro a F
    refine rl_run F (run_move (F.ev rfl)) rfl ?_; clear F a; intro a F
    rcases Bool.eq_false_or_eq_true (!(b14)) with hc | hc
    ·skip
     have h15b := hc; clear hc
     have h15 : (b14) = false := (of_not_t h15b)
     have h15c : (b14) = false := (of_not_t h15b)
     iterate 6 (refine rl_guard_f F rfl rfl rfl (not_t h15c) ?_; clear F a; intro a F)
     iterate 6 (refine rl_guard_u F rfl rfl rfl ?_; clear F a; intro a F)
     refine rl_guard_f F rfl rfl rfl (not_t h15c) ?_; clear F a; intro a F
     refine rl_run F (run_pick_t (F.ev rfl) (not_t h15c) (F.ev rfl)) rfl ?_; clear F a; intro a F
     refine rl_run F (run_move (F.ev rfl)) rfl ?_; clear F a; intro a F
     iterate 5 (refine rl_guard_f F rfl rfl rfl rfl ?_; clear F a; intro a F)
     refine rl_run F (run_pick_t (F.ev rfl) rfl (F.ev rfl)) rfl ?_; clear F a; intro a F
     refine rl_run F (run_move (F.ev rfl)) rfl ?_; clear F a; intro a F
     iterate 6 (refine rl_guard_f F rfl rfl rfl rfl ?_; clear F a; intro a F)
     refine rl_run F (run_pick_t (F.ev rfl) rfl (F.ev rfl)) rfl ?_; clear F a; intro a F
     refine rl_run F (run_move (F.ev rfl)) rfl ?_; clear F a; intro a F
     iterate 6 (refine rl_guard_f F rfl rfl rfl rfl ?_; clear F a; intro a F)
     refine rl_run F (run_pick_t (F.ev rfl) rfl (F.ev rfl)) rfl ?_; clear F a; intro a F
     refine rl_nil ?_
     exact ⟨true, F.to ⟨rfl, rfl, trivial⟩, M, by unfold Elem; clear F M; grind⟩
    ·skip
     have h16b := hc; clear hc
     have h16 : (b14) = true := (of_not_f h16b)
     have h16c : (b14) = true := (of_not_f h16b)
     refine rl_guard_t F rfl rfl rfl (not_f h16c) ?_
     refine rl_run F (run_move (F.ev rfl)) rfl ?_; clear F a; intro a F
     refine rl_guard_t F rfl rfl rfl (not_f h16c) ?_
     refine rl_run F (run_nilCheck (F.ev rfl)) rfl ?_; clear F a; intro a F
     refine rl_guard_t F rfl rfl rfl (not_f h16c) ?_
     refine rl_run F (run_fieldAddr tok30.k rfl rfl (F.ev rfl)) rfl ?_; clear F a; intro a F
     refine rl_guard_t F rfl rfl rfl (not_f h16c) ?_
     refine rl_run F (run_load1 (agf tok9 rfl) (F.ev rfl) (M.cellA A 2 rfl rfl)) rfl ?_; clear F a; intro a F
     refine rl_guard_t F rfl rfl rfl (not_f h16c) ?_
     refine rl_run F (run_strNe (F.ev rfl) (F.ev rfl)) rfl ?_; clear F a; intro a F
     refine rl_guard_t F rfl rfl rfl (not_f h16c) ?_
     refine rl_run F (run_move (F.ev rfl)) rfl ?_; clear F a; intro a F
     rcases Bool.eq_false_or_eq_true (!(decide (x.key = ([] : List UInt8)))) with hc | hc
     ·skip
      have h17b := hc; clear hc
      have h17 : ¬ (x.key = ([] : List UInt8)) := of_decide_eq_false (of_not_t h17b)
      have h17c : (decide (x.key = ([] : List UInt8))) = false := (of_not_t h17b)
      refine rl_guard_t F rfl rfl rfl (not_t h17c) ?_
      refine rl_run F (run_move (F.ev rfl)) rfl ?_; clear F a; intro a F
      refine rl_guard_t F rfl rfl rfl (not_t h17c) ?_
      refine rl_run F (run_nilCheck (F.ev rfl)) rfl ?_; clear F a; intro a F
      refine rl_guard_t F rfl rfl rfl (not_t h17c) ?_
      refine rl_run F (run_fieldAddr tok30.k rfl rfl (F.ev rfl)) rfl ?_; clear F a; intro a F
      refine rl_guard_t F rfl rfl rfl (not_t h17c) ?_
      refine rl_run F (run_load1 (agf tok9 rfl) (F.ev rfl) (M.cellA A 2 rfl rfl)) rfl ?_; clear F a; intro a F
      refine rl_guard_t F rfl rfl rfl (not_t h17c) ?_
      refine rl_callS F ent109 rfl rfl (nnamed_spec (s := x.key) M (by omega)) ?_; clear F M a; rintro _ w a M ⟨b18, rfl, hb18⟩ F
      refine rl_guard_t F rfl rfl rfl (not_t h17c) ?_
      refine rl_run F (run_not (F.ev rfl)) rfl ?_; clear F a; intro a F
      refine rl_guard_t F rfl rfl rfl (not_f h16c) ?_
      refine rl_run F (run_pick_t (F.ev rfl) (not_t h17c) (F.ev rfl)) rfl ?_; clear F a; intro a F
      refine rl_run F (run_pick_f (F.ev rfl) (not_f h16c) (F.ev rfl)) rfl ?_; clear F a; intro a F
      refine rl_run F (run_move (F.ev rfl)) rfl ?_; clear F a; intro a F
      rcases Bool.eq_false_or_eq_true (!(b18)) with hc | hc
      ·skip
       have h19b := hc; clear hc
       have h19 : (b18) = false := (of_not_t h19b)
       have h19c : (b18) = false := (of_not_t h19b)
       iterate 5 (refine rl_guard_f F rfl rfl rfl (not_t h19c) ?_; clear F a; intro a F)
       refine rl_run F (run_pick_t (F.ev rfl) (not_t h19c) (F.ev rfl)) rfl ?_; clear F a; intro a F
       refine rl_run F (run_move (F.ev rfl)) rfl ?_; clear F a; intro a F
       iterate 6 (refine rl_guard_f F rfl rfl rfl rfl ?_; clear F a; intro a F)
       refine rl_run F (run_pick_t (F.ev rfl) rfl (F.ev rfl)) rfl ?_; clear F a; intro a F
       refine rl_run F (run_move (F.ev rfl)) rfl ?_; clear F a; intro a F
       iterate 6 (refine rl_guard_f F rfl rfl rfl rfl ?_; clear F a; intro a F)
       refine rl_run F (run_pick_t (F.ev rfl) rfl (F.ev rfl)) rfl ?_; clear F a; intro a F
       refine rl_nil ?_
       exact ⟨true, F.to ⟨rfl, rfl, trivial⟩, M, by unfold Elem; clear F M; grind⟩
      ·skip
       have h20b := hc; clear hc
       have h20 : (b18) = true := (of_not_f h20b)
       have h20c : (b18) = true := (of_not_f h20b)
       refine rl_guard_t F rfl rfl rfl (not_f h20c) ?_
       refine rl_run F (run_move (F.ev rfl)) rfl ?_; clear F a; intro a F
       refine rl_guard_t F rfl rfl rfl (not_f h20c) ?_
       refine rl_run F (run_nilCheck (F.ev rfl)) rfl ?_; clear F a; intro a F
       refine rl_guard_t F rfl rfl rfl (not_f h20c) ?_
       refine rl_run F (run_fieldAddr tok30.k rfl rfl (F.ev rfl)) rfl ?_; clear F a; intro a F
       refine rl_guard_t F rfl rfl rfl (not_f h20c) ?_
       refine rl_run F (run_load1 (agf tok9 rfl) (F.ev rfl) (M.cellA A 4 rfl rfl)) rfl ?_; clear F a; intro a F
       refine rl_guard_t F rfl rfl rfl (not_f h20c) ?_
       refine rl_run F (run_strNe (F.ev rfl) (F.ev rfl)) rfl ?_; clear F a; intro a F
       refine rl_run F (run_pick_f (F.ev rfl) (not_f h20c) (F.ev rfl)) rfl ?_; clear F a; intro a F
       refine rl_run F (run_move (F.ev rfl)) rfl ?_; clear F a; intro a F
       rcases Bool.eq_false_or_eq_true (!(decide (x.text = ([] : List UInt8)))) with hc | hc
       ·skip
        have h21b := hc; clear hc
        have h21 : ¬ (x.text = ([] : List UInt8)) := of_decide_eq_false (of_not_t h21b)
        have h21c : (decide (x.text = ([] : List UInt8))) = false := (of_not_t h21b)
        iterate 6 (refine rl_guard_f F rfl rfl rfl (not_t h21c) ?_; clear F a; intro a F)
        refine rl_run F (run_pick_t (F.ev rfl) (not_t h21c) (F.ev rfl)) rfl ?_; clear F a; intro a F
        refine rl_run F (run_move (F.ev rfl)) rfl ?_; clear F a; intro a F
        iterate 6 (refine rl_guard_f F rfl rfl rfl rfl ?_; clear F a; intro a F)
        refine rl_run F (run_pick_t (F.ev rfl) rfl (F.ev rfl)) rfl ?_; clear F a; intro a F
        refine rl_nil ?_
        exact ⟨true, F.to ⟨rfl, rfl, trivial⟩, M, by unfold Elem; clear F M; grind⟩
       ·skip
        have h22b := hc; clear hc
        have h22 : x.text = ([] : List UInt8) := of_decide_eq_true (of_not_f h22b)
        have h22c : (decide (x.text = ([] : List UInt8))) = true := (of_not_f h22b)
        refine rl_guard_t F rfl rfl rfl (not_f h22c) ?_
        refine rl_run F (run_move (F.ev rfl)) rfl ?_; clear F a; intro a F
        refine rl_guard_t F rfl rfl rfl (not_f h22c) ?_
        refine rl_run F (run_nilCheck (F.ev rfl)) rfl ?_; clear F a; intro a F
        refine rl_guard_t F rfl rfl rfl (not_f h22c) ?_
        refine rl_run F (run_fieldAddr tok30.k rfl rfl (F.ev rfl)) rfl ?_; clear F a; intro a F
        refine rl_guard_t F rfl rfl rfl (not_f h22c) ?_
        refine rl_run F (run_load1 (agf tok27 rfl) (F.ev rfl) (M.cellA A 3 rfl rfl)) rfl ?_; clear F a; intro a F
        refine rl_guard_t F rfl rfl rfl (not_f h22c) ?_
        refine rl_run F (run_lenSl tok27.k (F.ev rfl)) rfl ?_; clear F a; intro a F
        refine rl_guard_t F rfl rfl rfl (not_f h22c) ?_
        refine rl_run F (run_gtr (F.ev rfl) (F.ev rfl)) rfl ?_; clear F a; intro a F
        refine rl_run F (run_pick_f (F.ev rfl) (not_f h22c) (F.ev rfl)) rfl ?_; clear F a; intro a F
        refine rl_run F (run_move (F.ev rfl)) rfl ?_; clear F a; intro a F
        rcases Bool.eq_false_or_eq_true (decide (8 < ((x.as.length : Nat) : Int))) with hc | hc
        ·skip
         have h23b := hc; clear hc
         have h23 : 8 < ((x.as.length : Nat) : Int) := of_decide_eq_true h23b
         iterate 6 (refine rl_guard_f F rfl rfl rfl h23b ?_; clear F a; intro a F)
         refine rl_run F (run_pick_t (F.ev rfl) h23b (F.ev rfl)) rfl ?_; clear F a; intro a F
         refine rl_nil ?_
         exact ⟨true, F.to ⟨rfl, rfl, trivial⟩, M, by unfold Elem; clear F M; grind⟩
        ·skip
         have h24b := hc; clear hc
         have h24 : ¬ (8 < ((x.as.length : Nat) : Int)) := of_decide_eq_false h24b
         refine rl_guard_t F rfl rfl rfl h24b ?_
         refine rl_run F (run_move (F.ev rfl)) rfl ?_; clear F a; intro a F
         refine rl_guard_t F rfl rfl rfl h24b ?_
         refine rl_run F (run_nilCheck (F.ev rfl)) rfl ?_; clear F a; intro a F
         refine rl_guard_t F rfl rfl rfl h24b ?_
         refine rl_run F (run_fieldAddr tok30.k rfl rfl (F.ev rfl)) rfl ?_; clear F a; intro a F
         refine rl_guard_t F rfl rfl rfl h24b ?_
         refine rl_run F (run_load1 (agf tok28 rfl) (F.ev rfl) (M.cellA A 5 rfl rfl)) rfl ?_; clear F a; intro a F
         refine rl_guard_t F rfl rfl rfl h24b ?_
         refine rl_run F (run_lenSl tok28.k (F.ev rfl)) rfl ?_; clear F a; intro a F
         refine rl_guard_t F rfl rfl rfl h24b ?_
         refine rl_run F (run_gtr (F.ev rfl) (F.ev rfl)) rfl ?_; clear F a; intro a F
         refine rl_run F (run_pick_f (F.ev rfl) h24b (F.ev rfl)) rfl ?_; clear F a; intro a F
         refine rl_nil ?_
         exact ⟨(decide (16 < ((x.kids.length : Nat) : Int))), F.to ⟨rfl, rfl, trivial⟩, M, by unfold Elem; clear F M; grind⟩
     ·skip
      have h25b := hc; clear hc
      have h25 : x.key = ([] : List UInt8) := of_decide_eq_true (of_not_f h25b)
      have h25c : (decide (x.key = ([] : List UInt8))) = true := (of_not_f h25b)
      iterate 6 (refine rl_guard_f F rfl rfl rfl (not_f h25c) ?_; clear F a; intro a F)
      refine rl_guard_t F rfl rfl rfl (not_f h16c) ?_
      refine rl_run F (run_pick_f (F.ev rfl) (not_f h25c) (F.ev rfl)) rfl ?_; clear F a; intro a F
      refine rl_run F (run_pick_f (F.ev rfl) (not_f h16c) (F.ev rfl)) rfl ?_; clear F a; intro a F
      refine rl_run F (run_move (F.ev rfl)) rfl ?_; clear F a; intro a F
      refine rl_guard_t F rfl rfl rfl rfl ?_
      refine rl_run F (run_move (F.ev rfl)) rfl ?_; clear F a; intro a F
      refine rl_guard_t F rfl rfl rfl rfl ?_
      refine rl_run F (run_nilCheck (F.ev rfl)) rfl ?_; clear F a; intro a F
      refine rl_guard_t F rfl rfl rfl rfl ?_
      refine rl_run F (run_fieldAddr tok30.k rfl rfl (F.ev rfl)) rfl ?_; clear F a; intro a F
      refine rl_guard_t F rfl rfl rfl rfl ?_
      refine rl_run F (run_load1 (agf tok9 rfl) (F.ev rfl) (M.cellA A 4 rfl rfl)) rfl ?_; clear F a; intro a F
      refine rl_guard_t F rfl rfl rfl rfl ?_
      refine rl_run F (run_strNe (F.ev rfl) (F.ev rfl)) rfl ?_; clear F a; intro a F
      refine rl_run F (run_pick_f (F.ev rfl) rfl (F.ev rfl)) rfl ?_; clear F a; intro a F
      refine rl_run F (run_move (F.ev rfl)) rfl ?_; clear F a; intro a F
      rcases Bool.eq_false_or_eq_true (!(decide (x.text = ([] : List UInt8)))) with hc | hc
      ·skip
       have h26b := hc; clear hc
       have h26 : ¬ (x.text = ([] : List UInt8)) := of_decide_eq_false (of_not_t h26b)
       have h26c : (decide (x.text = ([] : List UInt8))) = false := (of_not_t h26b)
       iterate 6 (refine rl_guard_f F rfl rfl rfl (not_t h26c) ?_; clear F a; intro a F)
       refine rl_run F (run_pick_t (F.ev rfl) (not_t h26c) (F.ev rfl)) rfl ?_; clear F a; intro a F
       refine rl_run F (run_move (F.ev rfl)) rfl ?_; clear F a; intro a F
       iterate 6 (refine rl_guard_f F rfl rfl rfl rfl ?_; clear F a; intro a F)
       refine rl_run F (run_pick_t (F.ev rfl) rfl (F.ev rfl)) rfl ?_; clear F a; intro a F
       refine rl_nil ?_
       exact ⟨true, F.to ⟨rfl, rfl, trivial⟩, M, by unfold Elem; clear F M; grind⟩
      ·skip
       have h27b := hc; clear hc
       have h27 : x.text = ([] : List UInt8) := of_decide_eq_true (of_not_f h27b)
       have h27c : (decide (x.text = ([] : List UInt8))) = true := (of_not_f h27b)
       refine rl_guard_t F rfl rfl rfl (not_f h27c) ?_
       refine rl_run F (run_move (F.ev rfl)) rfl ?_; clear F a; intro a F
       refine rl_guard_t F rfl rfl rfl (not_f h27c) ?_
       refine rl_run F (run_nilCheck (F.ev rfl)) rfl ?_; clear F a; intro a F
       refine rl_guard_t F rfl rfl rfl (not_f h27c) ?_
       refine rl_run F (run_fieldAddr tok30.k rfl rfl (F.ev rfl)) rfl ?_; clear F a; intro a F
       refine rl_guard_t F rfl rfl rfl (not_f h27c) ?_
       refine rl_run F (run_load1 (agf tok27 rfl) (F.ev rfl) (M.cellA A 3 rfl rfl)) rfl ?_; clear F a; intro a F
       refine rl_guard_t F rfl rfl rfl (not_f h27c) ?_
       refine rl_run F (run_lenSl tok27.k (F.ev rfl)) rfl ?_; clear F a; intro a F
       refine rl_guard_t F rfl rfl rfl (not_f h27c) ?_
       refine rl_run F (run_gtr (F.ev rfl) (F.ev rfl)) rfl ?_; clear F a; intro a F
       refine rl_run F (run_pick_f (F.ev rfl) (not_f h27c) (F.ev rfl)) rfl ?_; clear F a; intro a F
       refine rl_run F (run_move (F.ev rfl)) rfl ?_; clear F a; intro a F
       rcases Bool.eq_false_or_eq_true (decide (8 < ((x.as.length : Nat) : Int))) with hc | hc
       ·skip
        have h28b := hc; clear hc
        have h28 : 8 < ((x.as.length : Nat) : Int) := of_decide_eq_true h28b
        iterate 6 (refine rl_guard_f F rfl rfl rfl h28b ?_; clear F a; intro a F)
        refine rl_run F (run_pick_t (F.ev rfl) h28b (F.ev rfl)) rfl ?_; clear F a; intro a F
        refine rl_nil ?_
        exact ⟨true, F.to ⟨rfl, rfl, trivial⟩, M, by unfold Elem; clear F M; grind⟩
       ·skip
        have h29b := hc; clear hc
        have h29 : ¬ (8 < ((x.as.length : Nat) : Int)) := of_decide_eq_false h29b
        refine rl_guard_t F rfl rfl rfl h29b ?_
        refine rl_run F (run_move (F.ev rfl)) rfl ?_; clear F a; intro a F
        refine rl_guard_t F rfl rfl rfl h29b ?_
        refine rl_run F (run_nilCheck (F.ev rfl)) rfl ?_; clear F a; intro a F
        refine rl_guard_t F rfl rfl rfl h29b ?_
        refine rl_run F (run_fieldAddr tok30.k rfl rfl (F.ev rfl)) rfl ?_; clear F a; intro a F
        refine rl_guard_t F rfl rfl rfl h29b ?_
        refine rl_run F (run_load1 (agf tok28 rfl) (F.ev rfl) (M.cellA A 5 rfl rfl)) rfl ?_; clear F a; intro a F
        refine rl_guard_t F rfl rfl rfl h29b ?_
        refine rl_run F (run_lenSl tok28.k (F.ev rfl)) rfl ?_; clear F a; intro a F
        refine rl_guard_t F rfl rfl rfl h29b ?_
        refine rl_run F (run_gtr (F.ev rfl) (F.ev rfl)) rfl ?_; clear F a; intro a F
        refine rl_run F (run_pick_f (F.ev rfl) h29b (F.ev rfl)) rfl ?_; clear F a; intro a F
        refine rl_nil ?_
        exact ⟨(decide (16 < ((x.kids.length : Nat) : Int))), F.to ⟨rfl, rfl, trivial⟩, M, by unfold Elem; clear F M; grind⟩
  ·clear F M
   rintro a w ⟨bb, F, M, hbb⟩
   refine q_tn <| w_cond F rfl ?_ ?_
   ·intro hc
    have h30b := hc; clear hc
    have h30 : (bb) = true := h30b
    refine wp_seq <| w_reg <| rl_run F (run_assign (F.ev rfl)) rfl ?_; clear F a; intro a F
    refine rl_nil <| q_tn <| wp_ret <| q_tr <| fin1 F rfl rfl ?_
    exact ⟨M, false, rfl, (by rw [alone_elem (by assumption)]; have q99 := @bl_le; clear F M; grind)⟩
   ·intro hc
    have h31b := hc; clear hc
    have h31 : (bb) = false := h31b
    refine wp_skip <| q_tn ?_
    iterate 2 (refine wp_seq ?_)
    have hE : Elem x := by clear F M; grind
    obtain ⟨hE1, hE2, hE3, hE4, hE5, hE6⟩ := id hE
    refine w_reg <| rl_run F (run_move (F.ev rfl)) rfl ?_; clear F a; intro a F
    refine rl_run F (run_nilCheck (F.ev rfl)) rfl ?_; clear F a; intro a F
    refine rl_run F (run_fieldAddr tok30.k rfl rfl (F.ev rfl)) rfl ?_; clear F a; intro a F
    refine rl_run F (run_load1 (agf tok27 rfl) (F.ev rfl) (M.cellA A 3 rfl rfl)) rfl ?_; clear F a; intro a F
    refine rl_run F (run_lenSl tok27.k (F.ev rfl)) rfl ?_; clear F a; intro a F
    refine rl_run F (run_move (F.ev rfl)) rfl ?_; clear F a; intro a F
    refine rl_nil <| q_tn <| wp_block <| w_loopN (fun m a' w' => ∃ (i : Nat), m = x.as.length - i ∧ Fits 161 a' [(0, .pointer (some ⟨nb, no, none⟩)), (101, .slice (ta) (x.as.length) (tc)), (102, .int .i64 (((x.as.length : Nat) : Int))), (103, .int .i64 (((i : Nat) : Int)))] ∧ Mem w0 G (L) w' ∧ (i ≤ x.as.length) ∧ (AttrsTo x.as i)) _ ⟨0, rfl, F.to ⟨rfl, rfl, rfl, rfl, trivial⟩, M, Nat.zero_le _, AttrsTo.zero _⟩ ?_
    clear F M
    rintro m a w ⟨i, rfl, F, M, hi, hA⟩
    refine wp_seq <| w_reg <| rl_run F (run_lss (F.ev rfl) (F.ev rfl)) rfl ?_; clear F a; intro a F
    refine rl_nil <| q_tn <| wp_seq <| w_cond F rfl ?_ ?_
    ·intro hc
     have h32b := hc; clear hc
     have h32 : ((i : Nat) : Int) < ((x.as.length : Nat) : Int) := of_decide_eq_true h32b
     refine wp_skip <| q_tn <| wp_seq <| wp_block <| wp_seq <| w_reg <| rl_run F (run_move (F.ev rfl)) rfl ?_; clear F a; intro a F
     obtain ⟨Xe33, hXe33⟩ := get_of_lt (xs := x.as) (i := i) (by omega)
     obtain ⟨be33, oe33, _, Ie33, _, Ae33, ⟨rfl, hn1e33, hv1e33⟩⟩ := SA.at hXe33
     refine rl_run F (run_indexI tok27.k tok87 (F.ev rfl) (F.ev rfl) (by omega) Ie33) rfl ?_; clear F a; intro a F
     refine rl_run F (run_loadA tok87 rfl (F.ev rfl) (cs := [.string (str (Xe33.n)), .string (str (Xe33.v))]) rfl (M.cellsA Ae33 0 (by omega) rfl)) rfl ?_; clear F a; intro a F
     refine rl_alloc F M tok87 rfl rfl ?_; clear F M a; intro b34 w a M F
     refine rl_run F (run_assign (F.ev rfl)) rfl ?_; clear F a; intro a F
     refine rl_storeA F M tok87 (k := 0) rfl rfl rfl (us := [.string (str (Xe33.n)), .string (str (Xe33.v))]) rfl rfl (by simp [Value.oneCell']) (by simp) ?_; clear F M a; intro w a M F
     change Mem w0 G (.blk b34 [.string (str (Xe33.n)), .string (str (Xe33.v))] 87 :: L) _ at M
     refine rl_nil <| q_tn <| wp_seq <| w_plan2 [(.free, 0), (.pure, 1), (.keep, 2), (.free, 3), (.free, 4), (.free, 5), (.pure, 6), (.keep, 7), (.free, 8), (.free, 9), (.free, 10), (.free, 11), (.free, 12), (.free, 13), (.free, 14), (.pure, 15), (.free, 16), (.free, 17), (.free, 18), (.pure, 19), (.free, 20), (.free, 21), (.free, 22), (.free, 23), (.pure, 24), (.free, 25), (.free, 26), (.free, 27)] [] (Keep G [.blk b34 [.string (str (Xe33.n)), .string (str (Xe33.v))] 87]) rfl (by kernel_rfl) (fun c a d v w h => by cases d <;> exact h) ((M.drew _).keep (Gle.refl _) (by simp)) ?_
     replace M := M.drew (w.drawn + 1)
     refine pk_free F (fun w _ => run_fieldAddr tok87.k rfl rfl (F.ev rfl)) rfl ?_; clear F a; intro a F
     refine pk_pure F (fun w M => run_load1 (agf tok9 rfl) (F.ev rfl) (M.cellL (k := 0) rfl rfl)) rfl ?_; clear F a; intro a F
     refine pk_keep ?_ rfl
     refine rl_callS F ent109 rfl rfl (nnamed_spec (s := Xe33.n) M (by omega)) ?_; clear F M a; rintro _ w a M ⟨b36, rfl, hb36⟩ F
     refine rl_nil <| ⟨Keep G [.blk b34 [.string (str (Xe33.n)), .string (str (Xe33.v))] 87], M.keep (Gle.refl _) (by simp), fun w h => h.mono (Gle.refl _) (by simp), ?_⟩
     refine pk_free F (fun w _ => run_not (F.ev rfl)) rfl ?_; clear F a; intro a F
     refine pk_free F (fun w _ => run_move (F.ev rfl)) rfl ?_; clear F a; intro a F
     rcases Bool.eq_false_or_eq_true (!(b36)) with hc | hc
     ·skip
      have h37b := hc; clear hc
      have h37 : (b36) = false := (of_not_t h37b)
      have h37c : (b36) = false := (of_not_t h37b)
      iterate 4 (refine pk_skip F rfl rfl (not_t h37c) rfl ?_; clear F a; intro a F)
      refine pk_free F (fun w _ => run_pick_t (F.ev rfl) (not_t h37c) (F.ev rfl)) rfl ?_; clear F a; intro a F
      refine pk_free F (fun w _ => run_move (F.ev rfl)) rfl ?_; clear F a; intro a F
      iterate 3 (refine pk_skip F rfl rfl rfl rfl ?_; clear F a; intro a F)
      iterate 12 (refine pk_skip_u F rfl rfl rfl ?_; clear F a; intro a F)
      refine pk_skip F rfl rfl rfl rfl ?_; clear F a; intro a F
      refine pk_free F (fun w _ => run_pick_t (F.ev rfl) rfl (F.ev rfl)) rfl ?_; clear F a; intro a F
      refine pk_nil <| q_tn <| w_cond_t F rfl rfl ?_
      refine wp_seq <| w_reg <| rl_run F (run_assign (F.ev rfl)) rfl ?_; clear F a; intro a F
      refine rl_nil <| q_tn <| wp_ret <| q_br ?_
      iterate 2 (refine q_tr ?_)
      refine q_br <| q_tr <| fin1 F rfl rfl ?_
      exact ⟨(M.weaken (.cons _ (List.Sublist.refl _))), false, rfl, (by rw [alone_elem (by assumption)]; have q0 := attrs_no1 hXe33; have q99 := @bl_le; clear F M; grind)⟩
     ·skip
      have h38b := hc; clear hc
      have h38 : (b36) = true := (of_not_f h38b)
      have h38c : (b36) = true := (of_not_f h38b)
      refine pk_free_g F rfl rfl (not_f h38c) (fun w _ => run_fieldAddr tok87.k rfl rfl (F.ev rfl)) rfl ?_; clear F a; intro a F
      refine pk_pure_g F rfl rfl (not_f h38c) (fun w M => run_load1 (agf tok9 rfl) (F.ev rfl) (M.cellL (k := 0) rfl rfl)) rfl ?_; clear F a; intro a F
      refine pk_keep_g F rfl rfl (not_f h38c) ?_
      refine rl_guard_t F rfl rfl rfl (not_f h38c) ?_
      refine rl_callS F ent108 rfl rfl (ntext_spec (s := Xe33.v) M (by omega)) ?_; clear F M a; rintro _ w a M ⟨b39, rfl, hb39⟩ F
      refine rl_nil <| ⟨Keep G [.blk b34 [.string (str (Xe33.n)), .string (str (Xe33.v))] 87], M.keep (Gle.refl _) (by simp), fun w h => h.mono (Gle.refl _) (by simp), ?_⟩
      refine pk_free_g F rfl rfl (not_f h38c) (fun w _ => run_not (F.ev rfl)) rfl ?_; clear F a; intro a F
      refine pk_free F (fun w _ => run_pick_f (F.ev rfl) (not_f h38c) (F.ev rfl)) rfl ?_; clear F a; intro a F
      refine pk_free F (fun w _ => run_move (F.ev rfl)) rfl ?_; clear F a; intro a F
      rcases Bool.eq_false_or_eq_true (!(b39)) with hc | hc
      ·skip
       have h40b := hc; clear hc
       have h40 : (b39) = false := (of_not_t h40b)
       have h40c : (b39) = false := (of_not_t h40b)
       iterate 3 (refine pk_skip F rfl rfl (not_t h40c) rfl ?_; clear F a; intro a F)
       iterate 12 (refine pk_skip_u F rfl rfl rfl ?_; clear F a; intro a F)
       refine pk_skip F rfl rfl (not_t h40c) rfl ?_; clear F a; intro a F
       refine pk_free F (fun w _ => run_pick_t (F.ev rfl) (not_t h40c) (F.ev rfl)) rfl ?_; clear F a; intro a F
       refine pk_nil <| q_tn <| w_cond_t F rfl rfl ?_
       refine wp_seq <| w_reg <| rl_run F (run_assign (F.ev rfl)) rfl ?_; clear F a; intro a F
       refine rl_nil <| q_tn <| wp_ret <| q_br ?_
       iterate 2 (refine q_tr ?_)
       refine q_br <| q_tr <| fin1 F rfl rfl ?_
       exact ⟨(M.weaken (.cons _ (List.Sublist.refl _))), false, rfl, (by rw [alone_elem (by assumption)]; have q0 := attrs_no1 hXe33; have q99 := @bl_le; clear F M; grind)⟩
      ·skip
       have h41b := hc; clear hc
       have h41 : (b39) = true := (of_not_f h41b)
       have h41c : (b39) = true := (of_not_f h41b)
       refine pk_free_g F rfl rfl (not_f h41c) (fun w _ => run_move (F.ev rfl)) rfl ?_; clear F a; intro a F
       refine pk_free_g F rfl rfl (not_f h41c) (fun w _ => run_gtr (F.ev rfl) (F.ev rfl)) rfl ?_; clear F a; intro a F
       refine pk_free_g F rfl rfl (not_f h41c) (fun w _ => run_move (F.ev rfl)) rfl ?_; clear F a; intro a F
       rcases Bool.eq_false_or_eq_true (decide (0 < ((i : Nat) : Int))) with hc | hc
       ·skip
        have h42b := hc; clear hc
        have h42 : 0 < ((i : Nat) : Int) := of_decide_eq_true h42b
        refine pk_free_g F rfl rfl h42b (fun w _ => run_fieldAddr tok87.k rfl rfl (F.ev rfl)) rfl ?_; clear F a; intro a F
        refine pk_pure_g F rfl rfl h42b (fun w M => run_load1 (agf tok9 rfl) (F.ev rfl) (M.cellL (k := 0) rfl rfl)) rfl ?_; clear F a; intro a F
        refine pk_free_g F rfl rfl h42b (fun w _ => run_move (F.ev rfl)) rfl ?_; clear F a; intro a F
        refine pk_free_g F rfl rfl h42b (fun w _ => run_nilCheck (F.ev rfl)) rfl ?_; clear F a; intro a F
        refine pk_free_g F rfl rfl h42b (fun w _ => run_fieldAddr tok30.k rfl rfl (F.ev rfl)) rfl ?_; clear F a; intro a F
        refine pk_pure_g F rfl rfl h42b (fun w M => run_load1 (agf tok27 rfl) (F.ev rfl) (M.cellA A 3 rfl rfl)) rfl ?_; clear F a; intro a F
        refine pk_free_g F rfl rfl h42b (fun w _ => run_move (F.ev rfl)) rfl ?_; clear F a; intro a F
        refine pk_free_g F rfl rfl h42b (fun w _ => run_subi (F.ev rfl) (F.ev rfl) (in_i64 (by omega) (by omega))) rfl ?_; clear F a; intro a F
        have hs43 : ((((i : Nat) : Int)) - 1 : Int) = ((i - 1 : Nat) : Int) := by omega
        rw [hs43] at F
        obtain ⟨Xe44, hXe44⟩ := get_of_lt (xs := x.as) (i := i - 1) (by omega)
        obtain ⟨be44, oe44, _, Ie44, _, Ae44, ⟨rfl, hn1e44, hv1e44⟩⟩ := SA.at hXe44
        refine pk_free_g F rfl rfl h42b (fun w _ => run_indexI tok27.k tok87 (F.ev rfl) (F.ev rfl) (by omega) Ie44) rfl ?_; clear F a; intro a F
        refine pk_free_g F rfl rfl h42b (fun w _ => run_fieldAddr tok87.k rfl rfl (F.ev rfl)) rfl ?_; clear F a; intro a F
        refine pk_pure_g F rfl rfl h42b (fun w M => run_load1 (agf tok9 rfl) (F.ev rfl) (M.cellA Ae44 0 rfl rfl)) rfl ?_; clear F a; intro a F
        refine pk_free_g F rfl rfl h42b (fun w _ => run_strLeq (F.ev rfl) (F.ev rfl)) rfl ?_; clear F a; intro a F
        refine pk_free_g F rfl rfl (not_f h41c) (fun w _ => run_pick_t (F.ev rfl) h42b (F.ev rfl)) rfl ?_; clear F a; intro a F
        refine pk_free F (fun w _ => run_pick_f (F.ev rfl) (not_f h41c) (F.ev rfl)) rfl ?_; clear F a; intro a F
        refine pk_nil <| q_tn <| w_cond F rfl ?_ ?_
        ·intro hc
         have h45b := hc; clear hc
         have h45 : (Op.bytesLess Xe33.n Xe44.n || Xe33.n == Xe44.n) = true := h45b
         refine wp_seq <| w_reg <| rl_run F (run_assign (F.ev rfl)) rfl ?_; clear F a; intro a F
         refine rl_nil <| q_tn <| wp_ret <| q_br ?_
         iterate 2 (refine q_tr ?_)
         refine q_br <| q_tr <| fin1 F rfl rfl ?_
         exact ⟨(M.weaken (.cons _ (List.Sublist.refl _))), false, rfl, (by rw [alone_elem (by assumption)]; have q0 := attrs_no1 hXe33; have q1 := fun h => attrs_no2 hXe33 hXe44 h; have q2 := attrs_no1 hXe44; have q3 := fun h => attrs_no2 hXe44 hXe33 h; have q99 := @bl_le; clear F M; grind)⟩
        ·intro hc
         have h46b := hc; clear hc
         have h46 : (Op.bytesLess Xe33.n Xe44.n || Xe33.n == Xe44.n) = false := h46b
         refine wp_skip <| q_bn <| q_tn <| w_reg <| rl_run F (run_addi (F.ev rfl) (F.ev rfl) (in_i64 (by omega) (by omega))) rfl ?_; clear F a; intro a F
         refine rl_run F (run_move (F.ev rfl)) rfl ?_; clear F a; intro a F
         refine rl_nil <| q_tn ?_
         exact ⟨_, by omega, i + 1, rfl, F.to ⟨rfl, rfl, rfl, rfl, trivial⟩, (M.weaken (.cons _ (List.Sublist.refl _))), by omega, hA.step hXe33 (by clear F M; grind) (by clear F M; grind) (fun y h_ hy => by rw [hXe44] at hy; simp only [Option.some.injEq] at hy; subst hy; clear F M; have q99 := @bl_le; grind)⟩
       ·skip
        have h47b := hc; clear hc
        have h47 : ¬ (0 < ((i : Nat) : Int)) := of_decide_eq_false h47b
        iterate 12 (refine pk_skip F rfl rfl h47b rfl ?_; clear F a; intro a F)
        refine pk_free_g F rfl rfl (not_f h41c) (fun w _ => run_pick_f (F.ev rfl) h47b (F.ev rfl)) rfl ?_; clear F a; intro a F
        refine pk_free F (fun w _ => run_pick_f (F.ev rfl) (not_f h41c) (F.ev rfl)) rfl ?_; clear F a; intro a F
        refine pk_nil <| q_tn <| w_cond_f F rfl rfl ?_
        refine wp_skip <| q_bn <| q_tn <| w_reg <| rl_run F (run_addi (F.ev rfl) (F.ev rfl) (in_i64 (by omega) (by omega))) rfl ?_; clear F a; intro a F
        refine rl_run F (run_move (F.ev rfl)) rfl ?_; clear F a; intro a F
        refine rl_nil <| q_tn ?_
        exact ⟨_, by omega, i + 1, rfl, F.to ⟨rfl, rfl, rfl, rfl, trivial⟩, (M.weaken (.cons _ (List.Sublist.refl _))), by omega, hA.step hXe33 (by clear F M; grind) (by clear F M; grind) (fun y h_ => by omega)⟩
    ·intro hc
     have h48b := hc; clear hc
     have h48 : ¬ (((i : Nat) : Int) < ((x.as.length : Nat) : Int)) := of_decide_eq_false h48b
     refine wp_exit ?_
     iterate 2 (refine q_te ?_)
     refine q_bh <| q_tn ?_
     iterate 2 (refine wp_seq ?_)
     refine w_reg <| rl_run F (run_move (F.ev rfl)) rfl ?_; clear F a; intro a F
     refine rl_run F (run_nilCheck (F.ev rfl)) rfl ?_; clear F a; intro a F
     refine rl_run F (run_fieldAddr tok30.k rfl rfl (F.ev rfl)) rfl ?_; clear F a; intro a F
     refine rl_run F (run_load1 (agf tok28 rfl) (F.ev rfl) (M.cellA A 5 rfl rfl)) rfl ?_; clear F a; intro a F
     refine rl_run F (run_lenSl tok28.k (F.ev rfl)) rfl ?_; clear F a; intro a F
     refine rl_run F (run_move (F.ev rfl)) rfl ?_; clear F a; intro a F
     refine rl_nil <| q_tn <| wp_block <| w_loopN (fun m a' w' => ∃ (j : Nat), m = x.kids.length - j ∧ Fits 161 a' [(0, .pointer (some ⟨nb, no, none⟩)), (140, .slice (ka) (x.kids.length) (kc)), (141, .int .i64 (((x.kids.length : Nat) : Int))), (142, .int .i64 (((j : Nat) : Int)))] ∧ Mem w0 G (L) w' ∧ (j ≤ x.kids.length) ∧ (AttrsOk x.as) ∧ (KeysTo x.kids j)) _ ⟨0, rfl, F.to ⟨rfl, rfl, rfl, rfl, trivial⟩, M, Nat.zero_le _, hA.all (by omega), KeysTo.zero _⟩ ?_
     clear F M
     rintro m a w ⟨j, rfl, F, M, hj, hAO, hK⟩
     refine wp_seq <| w_reg <| rl_run F (run_lss (F.ev rfl) (F.ev rfl)) rfl ?_; clear F a; intro a F
     refine rl_nil <| q_tn <| wp_seq <| w_cond F rfl ?_ ?_
     ·intro hc
      have h49b := hc; clear hc
      have h49 : ((j : Nat) : Int) < ((x.kids.length : Nat) : Int) := of_decide_eq_true h49b
      refine wp_skip <| q_tn <| wp_seq <| wp_block <| wp_seq <| w_reg <| rl_run F (run_move (F.ev rfl)) rfl ?_; clear F a; intro a F
      obtain ⟨Xe50, hXe50⟩ := get_of_lt (xs := x.kids) (i := j) (by omega)
      obtain ⟨be50, oe50, _, Ie50, _, Ae50, hTe50⟩ := SK.at hXe50
      obtain ⟨tae50, tce50, kae50, kce50, rfl, hke50, hle50, SAe50, SKe50⟩ := rdT_open hTe50
      refine rl_run F (run_indexI tok28.k tok30 (F.ev rfl) (F.ev rfl) (by omega) Ie50) rfl ?_; clear F a; intro a F
      refine rl_run F (run_loadA tok30 rfl (F.ev rfl) (cs := [.int .u8 (Xe50.kind), .string (str (Xe50.tag)), .string (str (Xe50.key)), .slice (tae50) (Xe50.as.length) (tce50), .string (str (Xe50.text)), .slice (kae50) (Xe50.kids.length) (kce50)]) rfl (M.cellsA Ae50 0 (by omega) rfl)) rfl ?_; clear F a; intro a F
      refine rl_alloc F M tok30 rfl rfl ?_; clear F M a; intro b51 w a M F
      refine rl_run F (run_assign (F.ev rfl)) rfl ?_; clear F a; intro a F
      refine rl_storeA F M tok30 (k := 0) rfl rfl rfl (us := [.int .u8 (Xe50.kind), .string (str (Xe50.tag)), .string (str (Xe50.key)), .slice (tae50) (Xe50.as.length) (tce50), .string (str (Xe50.text)), .slice (kae50) (Xe50.kids.length) (kce50)]) rfl rfl (by simp [Value.oneCell']) (by simp) ?_; clear F M a; intro w a M F
      change Mem w0 G (.blk b51 [.int .u8 (Xe50.kind), .string (str (Xe50.tag)), .string (str (Xe50.key)), .slice (tae50) (Xe50.as.length) (tce50), .string (str (Xe50.text)), .slice (kae50) (Xe50.kids.length) (kce50)] 30 :: L) _ at M
      refine rl_nil <| q_tn <| wp_seq <| w_reg <| rl_run F (run_fieldAddr tok30.k rfl rfl (F.ev rfl)) rfl ?_; clear F a; intro a F
      refine rl_run F (run_load1 (agf tok9 rfl) (F.ev rfl) (M.cellL (k := 0) rfl rfl)) rfl ?_; clear F a; intro a F
      refine rl_run F (run_strNe (F.ev rfl) (F.ev rfl)) rfl ?_; clear F a; intro a F
      refine rl_run F (run_move (F.ev rfl)) rfl ?_; clear F a; intro a F
      rcases Bool.eq_false_or_eq_true (!(decide (Xe50.key = ([] : List UInt8)))) with hc | hc
      ·skip
       have h53b := hc; clear hc
       have h53 : ¬ (Xe50.key = ([] : List UInt8)) := of_decide_eq_false (of_not_t h53b)
       have h53c : (decide (Xe50.key = ([] : List UInt8))) = false := (of_not_t h53b)
       refine rl_guard_t F rfl rfl rfl (not_t h53c) ?_
       refine rl_run F (run_move (F.ev rfl)) rfl ?_; clear F a; intro a F
       refine rl_guard_t F rfl rfl rfl (not_t h53c) ?_
       refine rl_run F (run_nilCheck (F.ev rfl)) rfl ?_; clear F a; intro a F
       refine rl_guard_t F rfl rfl rfl (not_t h53c) ?_
       refine rl_run F (run_fieldAddr tok30.k rfl rfl (F.ev rfl)) rfl ?_; clear F a; intro a F
       refine rl_guard_t F rfl rfl rfl (not_t h53c) ?_
       refine rl_run F (run_load1 (agf tok28 rfl) (F.ev rfl) (M.cellA A 5 rfl rfl)) rfl ?_; clear F a; intro a F
       refine rl_guard_t F rfl rfl rfl (not_t h53c) ?_
       refine rl_run F (run_move (F.ev rfl)) rfl ?_; clear F a; intro a F
       refine rl_guard_t F rfl rfl rfl (not_t h53c) ?_
       obtain ⟨as54, cs54, Is54, hms54, hcs54, Ss54⟩ := SK.partT (j) (by omega)
       refine rl_run F (run_sliceI tok28.k tok30 Is54 (F.ev rfl) (h := j) (kl := .i64) (zl := 0) rfl ⟨(F.ev rfl), by omega⟩ (by omega) (by omega)) rfl ?_; clear F a; intro a F
       have hf55 : j - 0 = (x.kids.take (j)).length := by rw [List.length_take]; omega
       rw [hf55] at F Ss54
       refine rl_guard_t F rfl rfl rfl (not_t h53c) ?_
       refine rl_run F (run_makeFunc (vs := #[.pointer (some ⟨b51, 0, none⟩)]) (by simp only [List.map_toArray, List.map_cons, List.map_nil, F.ev (x := .tmp 6) rfl])) rfl ?_; clear F a; intro a F
       refine rl_guard_t F rfl rfl rfl (not_t h53c) ?_
       change Mem w0 G (.blk b51 [.int .u8 (Xe50.kind), .string (str (Xe50.tag)), .string (str (Xe50.key)), .slice (tae50) (Xe50.as.length) (tce50), .string (str (Xe50.text)), .slice (kae50) (Xe50.kids.length) (kce50)] 30 :: L) _ at M
       refine rl_callS F ent110 rfl rfl (contn_spec (x := Xe50) (ks := x.kids.take (j)) M (by have h_ := Ss54; simpa using h_) (by omega)) ?_; clear F M a; rintro _ w a M ⟨b56, rfl, hb56⟩ F
       refine rl_run F (run_pick_t (F.ev rfl) (not_t h53c) (F.ev rfl)) rfl ?_; clear F a; intro a F
       refine rl_nil <| q_tn <| w_cond F rfl ?_ ?_
       ·intro hc
        have h57b := hc; clear hc
        have h57 : (b56) = true := h57b
        refine wp_seq <| w_reg <| rl_run F (run_assign (F.ev rfl)) rfl ?_; clear F a; intro a F
        refine rl_nil <| q_tn <| wp_ret <| q_br ?_
        iterate 2 (refine q_tr ?_)
        refine q_br <| q_tr <| fin1 F rfl rfl ?_
        exact ⟨(M.weaken (.cons _ (List.Sublist.refl _))), false, rfl, (by rw [alone_elem (by assumption)]; have q0 := haskey_no hXe50; have q99 := @bl_le; clear F M; grind)⟩
       ·intro hc
        have h58b := hc; clear hc
        have h58 : (b56) = false := h58b
        refine wp_skip <| q_bn <| q_tn <| w_reg <| rl_run F (run_addi (F.ev rfl) (F.ev rfl) (in_i64 (by omega) (by omega))) rfl ?_; clear F a; intro a F
        refine rl_run F (run_move (F.ev rfl)) rfl ?_; clear F a; intro a F
        refine rl_nil <| q_tn ?_
        exact ⟨_, by omega, j + 1, rfl, F.to ⟨rfl, rfl, rfl, rfl, trivial⟩, (M.weaken (.cons _ (List.Sublist.refl _))), by omega, hAO, hK.step hXe50 (by clear F M; first | (left; assumption) | (right; exact haskey_step (by grind)))⟩
      ·skip
       have h59b := hc; clear hc
       have h59 : Xe50.key = ([] : List UInt8) := of_decide_eq_true (of_not_f h59b)
       have h59c : (decide (Xe50.key = ([] : List UInt8))) = true := (of_not_f h59b)
       iterate 8 (refine rl_guard_f F rfl rfl rfl (not_f h59c) ?_; clear F a; intro a F)
       refine rl_run F (run_pick_f (F.ev rfl) (not_f h59c) (F.ev rfl)) rfl ?_; clear F a; intro a F
       refine rl_nil <| q_tn <| w_cond_f F rfl rfl ?_
       refine wp_skip <| q_bn <| q_tn <| w_reg <| rl_run F (run_addi (F.ev rfl) (F.ev rfl) (in_i64 (by omega) (by omega))) rfl ?_; clear F a; intro a F
       refine rl_run F (run_move (F.ev rfl)) rfl ?_; clear F a; intro a F
       refine rl_nil <| q_tn ?_
       exact ⟨_, by omega, j + 1, rfl, F.to ⟨rfl, rfl, rfl, rfl, trivial⟩, (M.weaken (.cons _ (List.Sublist.refl _))), by omega, hAO, hK.step hXe50 (by clear F M; first | (left; assumption) | (right; exact haskey_step (by grind)))⟩
     ·intro hc
      have h60b := hc; clear hc
      have h60 : ¬ (((j : Nat) : Int) < ((x.kids.length : Nat) : Int)) := of_decide_eq_false h60b
      refine wp_exit ?_
      iterate 2 (refine q_te ?_)
      refine q_bh <| q_tn <| wp_seq <| w_reg <| rl_run F (run_assign (F.ev rfl)) rfl ?_; clear F a; intro a F
      refine rl_nil <| q_tn <| wp_ret <| fin1 F rfl rfl ?_
      exact ⟨M, true, rfl, (by rw [alone_elem (by assumption)]; exact ⟨fun _ => ⟨hE, hAO, hK.all (by omega)⟩, fun _ => rfl⟩)⟩
theorem rone_spec {w0 w : World} {G : Ghost} {L : List Res} (M : Mem w0 G L w) {x : NT} {ta : Option Addr} {tc : Nat} {ka : Option Addr} {kc : Nat} (hk : inKind .u8 x.kind) (hl : (x.tag.length ≤ 9223372036854775807 ∧ x.key.length ≤ 9223372036854775807 ∧ x.text.length ≤ 9223372036854775807)) (SA : RdSl rdAttr 2 G (.slice ta x.as.length tc) x.as) (SK : RdSl rdN 6 G (.slice ka x.kids.length kc) x.kids) : Calls Tryz.prog 107 #[.agg #[.int .u8 (x.kind), .string (str (x.tag)), .string (str (x.key)), .slice (ta) (x.as.length) (tc), .string (str (x.text)), .slice (ka) (x.kids.length) (kc)]] w (RetS w0 G L fun v => ∃ bb : Bool, v = .bool bb ∧ (bb = true ↔ Alone x)) := by
 refine calls_start (vs := [_]) Tryz.func107 rfl (n := 149) rfl rfl ?_
 intro a F
 refine wp_seq <| w_reg <| rl_box F M rfl (cs := [.int .u8 (x.kind), .string (str (x.tag)), .string (str (x.key)), .slice (ta) (x.as.length) (tc), .string (str (x.text)), .slice (ka) (x.kids.length) (kc)]) rfl rfl ?_; clear F M a; intro b1 w a M F
 refine rl_run F (run_assign (F.ev rfl)) rfl ?_; clear F a; intro a F
 refine rl_nil <| q_tn ?_
 iterate 2 (refine wp_seq ?_)
 refine w_reg <| rl_run F (run_fieldAddr tok30.k rfl rfl (F.ev rfl)) rfl ?_; clear F a; intro a F
 refine rl_run F (run_load1 (agf tok5 rfl) (F.ev rfl) (M.cellL (k := 0) rfl rfl)) rfl ?_; clear F a; intro a F
 refine rl_run F (run_eqi (F.ev rfl) (F.ev rfl)) rfl ?_; clear F a; intro a F
 refine rl_nil <| q_tn <| w_cond F rfl ?_ ?_
 ·intro hc
  have h2b := hc; clear hc
  have h2 : x.kind = 2 := of_decide_eq_true h2b
  refine wp_seq <| w_reg <| rl_run F (run_fieldAddr tok30.k rfl rfl (F.ev rfl)) rfl ?_; clear F a; intro a F
  refine rl_run F (run_load1 (agf tok9 rfl) (F.ev rfl) (M.cellL (k := 0) rfl rfl)) rfl ?_; clear F a; intro a F
  refine rl_callS F ent75 rfl rfl (rstr_spec (s := x.text) M (by omega)) ?_; clear F M a; rintro _ w a M ⟨b3, rfl, hb3⟩ F
  refine rl_run F (run_move (F.ev rfl)) rfl ?_; clear F a; intro a F
  rcases Bool.eq_false_or_eq_true (b3) with hc | hc
  ·skip
   have h4b := hc; clear hc
   have h4 : (b3) = true := h4b
   refine rl_guard_t F rfl rfl rfl h4b ?_
   refine rl_run F (run_fieldAddr tok30.k rfl rfl (F.ev rfl)) rfl ?_; clear F a; intro a F
   refine rl_guard_t F rfl rfl rfl h4b ?_
   refine rl_run F (run_load1 (agf tok9 rfl) (F.ev rfl) (M.cellL (k := 0) rfl rfl)) rfl ?_; clear F a; intro a F
   refine rl_guard_t F rfl rfl rfl h4b ?_
   refine rl_run F (run_strEq (F.ev rfl) (F.ev rfl)) rfl ?_; clear F a; intro a F
   refine rl_run F (run_pick_t (F.ev rfl) h4b (F.ev rfl)) rfl ?_; clear F a; intro a F
   refine rl_run F (run_move (F.ev rfl)) rfl ?_; clear F a; intro a F
   rcases Bool.eq_false_or_eq_true (decide (x.tag = ([] : List UInt8))) with hc | hc
   ·skip
    have h5b := hc; clear hc
    have h5 : x.tag = ([] : List UInt8) := of_decide_eq_true h5b
    refine rl_guard_t F rfl rfl rfl h5b ?_
    refine rl_run F (run_fieldAddr tok30.k rfl rfl (F.ev rfl)) rfl ?_; clear F a; intro a F
    refine rl_guard_t F rfl rfl rfl h5b ?_
    refine rl_run F (run_load1 (agf tok9 rfl) (F.ev rfl) (M.cellL (k := 0) rfl rfl)) rfl ?_; clear F a; intro a F
    refine rl_guard_t F rfl rfl rfl h5b ?_
    refine rl_run F (run_strEq (F.ev rfl) (F.ev rfl)) rfl ?_; clear F a; intro a F
    refine rl_run F (run_pick_t (F.ev rfl) h5b (F.ev rfl)) rfl ?_; clear F a; intro a F
    refine rl_run F (run_move (F.ev rfl)) rfl ?_; clear F a; intro a F
    rcases Bool.eq_false_or_eq_true (decide (x.key = ([] : List UInt8))) with hc | hc
    ·skip
     have h6b := hc; clear hc
     have h6 : x.key = ([] : List UInt8) := of_decide_eq_true h6b
     refine rl_guard_t F rfl rfl rfl h6b ?_
     refine rl_run F (run_fieldAddr tok30.k rfl rfl (F.ev rfl)) rfl ?_; clear F a; intro a F
     refine rl_guard_t F rfl rfl rfl h6b ?_
     refine rl_run F (run_load1 (agf tok27 rfl) (F.ev rfl) (M.cellL (k := 0) rfl rfl)) rfl ?_; clear F a; intro a F
     refine rl_guard_t F rfl rfl rfl h6b ?_
     refine rl_run F (run_lenSl tok27.k (F.ev rfl)) rfl ?_; clear F a; intro a F
     refine rl_guard_t F rfl rfl rfl h6b ?_
     refine rl_run F (run_eqi (F.ev rfl) (F.ev rfl)) rfl ?_; clear F a; intro a F
     refine rl_run F (run_pick_t (F.ev rfl) h6b (F.ev rfl)) rfl ?_; clear F a; intro a F
     refine rl_run F (run_move (F.ev rfl)) rfl ?_; clear F a; intro a F
     rcases Bool.eq_false_or_eq_true (decide (((x.as.length : Nat) : Int) = 0)) with hc | hc
     ·skip
      have h7b := hc; clear hc
      have h7 : ((x.as.length : Nat) : Int) = 0 := of_decide_eq_true h7b
      refine rl_guard_t F rfl rfl rfl h7b ?_
      refine rl_run F (run_fieldAddr tok30.k rfl rfl (F.ev rfl)) rfl ?_; clear F a; intro a F
      refine rl_guard_t F rfl rfl rfl h7b ?_
      refine rl_run F (run_load1 (agf tok28 rfl) (F.ev rfl) (M.cellL (k := 0) rfl rfl)) rfl ?_; clear F a; intro a F
      refine rl_guard_t F rfl rfl rfl h7b ?_
      refine rl_run F (run_lenSl tok28.k (F.ev rfl)) rfl ?_; clear F a; intro a F
      refine rl_guard_t F rfl rfl rfl h7b ?_
      refine rl_run F (run_eqi (F.ev rfl) (F.ev rfl)) rfl ?_; clear F a; intro a F
      refine rl_run F (run_pick_t (F.ev rfl) h7b (F.ev rfl)) rfl ?_; clear F a; intro a F
      refine rl_run F (run_assign (F.ev rfl)) rfl ?_; clear F a; intro a F
      refine rl_nil <| q_tn <| wp_ret <| q_tr <| fin1 F rfl rfl ?_
      exact ⟨(M.weaken (.cons _ (List.Sublist.refl _))), (decide (((x.kids.length : Nat) : Int) = 0)), rfl, (by rw [alone_words (by assumption)]; clear F M; grind)⟩
     ·skip
      have h8b := hc; clear hc
      have h8 : ¬ (((x.as.length : Nat) : Int) = 0) := of_decide_eq_false h8b
      iterate 4 (refine rl_guard_f F rfl rfl rfl h8b ?_; clear F a; intro a F)
      refine rl_run F (run_pick_f (F.ev rfl) h8b (F.ev rfl)) rfl ?_; clear F a; intro a F
      refine rl_run F (run_assign (F.ev rfl)) rfl ?_; clear F a; intro a F
      refine rl_nil <| q_tn <| wp_ret <| q_tr <| fin1 F rfl rfl ?_
      exact ⟨(M.weaken (.cons _ (List.Sublist.refl _))), false, rfl, (by rw [alone_words (by assumption)]; clear F M; grind)⟩
    ·skip
     have h9b := hc; clear hc
     have h9 : ¬ (x.key = ([] : List UInt8)) := of_decide_eq_false h9b
     iterate 4 (refine rl_guard_f F rfl rfl rfl h9b ?_; clear F a; intro a F)
     refine rl_run F (run_pick_f (F.ev rfl) h9b (F.ev rfl)) rfl ?_; clear F a; intro a F
     refine rl_run F (run_move (F.ev rfl)) rfl ?_; clear F a; intro a F
     iterate 4 (refine rl_guard_f F rfl rfl rfl rfl ?_; clear F a; intro a F)
     refine rl_run F (run_pick_f (F.ev rfl) rfl (F.ev rfl)) rfl ?_; clear F a; intro a F
     refine rl_run F (run_assign (F.ev rfl)) rfl ?_; clear F a; intro a F
     refine rl_nil <| q_tn <| wp_ret <| q_tr <| fin1 F rfl rfl ?_
     exact ⟨(M.weaken (.cons _ (List.Sublist.refl _))), false, rfl, (by rw [alone_words (by assumption)]; clear F M; grind)⟩
   ·skip
    have h10b := hc; clear hc
    have h10 : ¬ (x.tag = ([] : List UInt8)) := of_decide_eq_false h10b
    iterate 3 (refine rl_guard_f F rfl rfl rfl h10b ?_; clear F a; intro a F)
    refine rl_run F (run_pick_f (F.ev rfl) h10b (F.ev rfl)) rfl ?_; clear F a; intro a F
    refine rl_run F (run_move (F.ev rfl)) rfl ?_; clear F a; intro a F
    iterate 4 (refine rl_guard_f F rfl rfl rfl rfl ?_; clear F a; intro a F)
    refine rl_run F (run_pick_f (F.ev rfl) rfl (F.ev rfl)) rfl ?_; clear F a; intro a F
    refine rl_run F (run_move (F.ev rfl)) rfl ?_; clear F a; intro a F
    iterate 4 (refine rl_guard_f F rfl rfl rfl rfl ?_; clear F a; intro a F)
    refine rl_run F (run_pick_f (F.ev rfl) rfl (F.ev rfl)) rfl ?_; clear F a; intro a F
    refine rl_run F (run_assign (F.ev rfl)) rfl ?_; clear F a; intro a F
    refine rl_nil <| q_tn <| wp_ret <| q_tr <| fin1 F rfl rfl ?_
    exact ⟨(M.weaken (.cons _ (List.Sublist.refl _))), false, rfl, (by rw [alone_words (by assumption)]; clear F M; grind)⟩
  ·skip
   have h11b := hc; clear hc
   have h11 : (b3) = false := h11b
   iterate 3 (refine rl_guard_f F rfl rfl rfl h11b ?_; clear F a; intro a F)
   refine rl_run F (run_pick_f (F.ev rfl) h11b (F.ev rfl)) rfl ?_; clear F a; intro a F
   refine rl_run F (run_move (F.ev rfl)) rfl ?_; clear F a; intro a F
   iterate 3 (refine rl_guard_f F rfl rfl rfl rfl ?_; clear F a; intro a F)
   refine rl_run F (run_pick_f (F.ev rfl) rfl (F.ev rfl)) rfl ?_; clear F a; intro a F
   refine rl_run F (run_move (F.ev rfl)) rfl ?_; clear F a; intro a F
   iterate 4 (refine rl_guard_f F rfl rfl rfl rfl ?_; clear F a; intro a F)
   refine rl_run F (run_pick_f (F.ev rfl) rfl (F.ev rfl)) rfl ?_; clear F a; intro a F
   refine rl_run F (run_move (F.ev rfl)) rfl ?_; clear F a; intro a F
   iterate 4 (refine rl_guard_f F rfl rfl rfl rfl ?_; clear F a; intro a F)
   refine rl_run F (run_pick_f (F.ev rfl) rfl (F.ev rfl)) rfl ?_; clear F a; intro a F
   refine rl_run F (run_assign (F.ev rfl)) rfl ?_; clear F a; intro a F
   refine rl_nil <| q_tn <| wp_ret <| q_tr <| fin1 F rfl rfl ?_
   exact ⟨(M.weaken (.cons _ (List.Sublist.refl _))), false, rfl, (by rw [alone_words (by assumption)]; clear F M; grind)⟩
 ·intro hc
  have h12b := hc; clear hc
  have h12 : ¬ (x.kind = 2) := of_decide_eq_false h12b
  refine wp_skip <| q_tn ?_
  iterate 2 (refine wp_seq ?_)
  refine w_cut (fun a' w' => ∃ (bb : Bool), Fits 149 a' [(1, .pointer (some ⟨b1, 0, none⟩)), (71, .bool (bb))] ∧ Mem w0 G (.blk b1 [.int .u8 (x.kind), .string (str (x.tag)), .string (str (x.key)), .slice (ta) (x.as.length) (tc), .string (str (x.text)), .slice (ka) (x.kids.length) (kc)] 30 :: L) w' ∧ (bb = true ↔ ¬ Elem x)) ?_ ?_
  ·skip
   refine w_reg <| rl_run F (run_fieldAddr tok30.k rfl rfl (F.ev rfl)) rfl ?_; clear F a; intro a F
   refine rl_run F (run_load1 (agf tok5 rfl) (F.ev rfl) (M.cellL (k := 0) rfl rfl)) rfl ?_; clear F a; intro a F
   refine rl_run F (run_nei (F.ev rfl) (F.ev rfl)) rfl ?_; clear F a; intro a F
   refine rl_run F (run_move (F.ev rfl)) rfl ?_; clear F a; intro a F
   rcases Bool.eq_false_or_eq_true (!(decide (x.kind = 1))) with hc | hc
   ·skip
    have h13b := hc; clear hc
    have h13 : ¬ (x.kind = 1) := of_decide_eq_false (of_not_t h13b)
    have h13c : (decide (x.kind = 1)) = false := (of_not_t h13b)
    iterate 4 (refine rl_guard_f F rfl rfl rfl (not_t h13c) ?_; clear F a; intro a F)
    refine rl_run F (run_pick_t (F.ev rfl) (not_t h13c) (F.ev rfl)) rfl ?_; clear F a; intro a F
    refine rl_run F (run_move (F.ev rfl)) rfl ?_; clear F a; intro a F
    iterate 4 (refine rl_guard_f F rfl rfl rfl rfl ?_; clear F a; intro a F)
    iterate 4 (refine rl_guard_u F rfl rfl rfl ?_; clear F a; intro a F)
    refine rl_guard_f F rfl rfl rfl rfl ?_; clear F a; intro a F
    refine rl_run F (run_pick_t (F.ev rfl) rfl (F.ev rfl)) rfl ?_; clear F a; intro a F
    refine rl_run F (run_move (F.ev rfl)) rfl ?_; clear F a; intro a F
    iterate 3 (refine rl_guard_f F rfl rfl rfl rfl ?_; clear F a; intro a F)
    refine rl_run F (run_pick_t (F.ev rfl) rfl (F.ev rfl)) rfl ?_; clear F a; intro a F
    refine rl_run F (run_move (F.ev rfl)) rfl ?_; clear F a; intro a F
    iterate 4 (refine rl_guard_f F rfl rfl rfl rfl ?_; clear F a; intro a F)
    refine rl_run F (run_pick_t (F.ev rfl) rfl (F.ev rfl)) rfl ?_; clear F a; intro a F
    refine rl_run F (run_move (F.ev rfl)) rfl ?_; clear F a; intro a F
    iterate 4 (refine rl_guard_f F rfl rfl rfl rfl ?_; clear F a; intro a F)
    refine rl_run F (run_pick_t (F.ev rfl) rfl (F.ev rfl)) rfl ?_; clear F a; intro a F
    refine rl_nil ?_
    exact ⟨true, F.to ⟨rfl, rfl, trivial⟩, M, by unfold Elem; clear F M; grind⟩
   ·skip
    have h14b := hc; clear hc
    have h14 : x.kind = 1 := of_decide_eq_true (of_not_f h14b)
    have h14c : (decide (x.kind = 1)) = true := (of_not_f h14b)
    refine rl_guard_t F rfl rfl rfl (not_f h14c) ?_
    refine rl_run F (run_fieldAddr tok30.k rfl rfl (F.ev rfl)) rfl ?_; clear F a; intro a F
    refine rl_guard_t F rfl rfl rfl (not_f h14c) ?_
    refine rl_run F (run_load1 (agf tok9 rfl) (F.ev rfl) (M.cellL (k := 0) rfl rfl)) rfl ?_; clear F a; intro a F
    refine rl_guard_t F rfl rfl rfl (not_f h14c) ?_
    refine rl_callS F ent76 rfl rfl (rname_spec (s := x.tag) M (by omega)) ?_; clear F M a; rintro _ w a M ⟨b15, rfl, hb15⟩ F
    refine rl_guard_t F rfl rfl rfl (not_f h14c) ?_
    refine rl_run F (run_not (F.ev rfl)) rfl ?_; clear F a; intro a F
    refine rl_run F (run_pick_f (F.ev rfl) (not_f h14c) (F.ev rfl)) rfl ?_; clear F a; intro a F
    refine rl_run F (run_move (F.ev rfl)) rfl ?_; clear F a; intro a F
    rcases Bool.eq_false_or_eq_true (!(b15)) with hc | hc
    ·skip
     have h16b := hc; clear hc
     have h16 : (b15) = false := (of_not_t h16b)
     have h16c : (b15) = false := (of_not_t h16b)
     iterate 4 (refine rl_guard_f F rfl rfl rfl (not_t h16c) ?_; clear F a; intro a F)
     iterate 4 (refine rl_guard_u F rfl rfl rfl ?_; clear F a; intro a F)
     refine rl_guard_f F rfl rfl rfl (not_t h16c) ?_; clear F a; intro a F
     refine rl_run F (run_pick_t (F.ev rfl) (not_t h16c) (F.ev rfl)) rfl ?_; clear F a; intro a F
     refine rl_run F (run_move (F.ev rfl)) rfl ?_; clear F a; intro a F
     iterate 3 (refine rl_guard_f F rfl rfl rfl rfl ?_; clear F a; intro a F)
     refine rl_run F (run_pick_t (F.ev rfl) rfl (F.ev rfl)) rfl ?_; clear F a; intro a F
     refine rl_run F (run_move (F.ev rfl)) rfl ?_; clear F a; intro a F
     iterate 4 (refine rl_guard_f F rfl rfl rfl rfl ?_; clear F a; intro a F)
     refine rl_run F (run_pick_t (F.ev rfl) rfl (F.ev rfl)) rfl ?_; clear F a; intro a F
     refine rl_run F (run_move (F.ev rfl)) rfl ?_; clear F a; intro a F
     iterate 4 (refine rl_guard_f F rfl rfl rfl rfl ?_; clear F a; intro a F)
     refine rl_run F (run_pick_t (F.ev rfl) rfl (F.ev rfl)) rfl ?_; clear F a; intro a F
     refine rl_nil ?_
     exact ⟨true, F.to ⟨rfl, rfl, trivial⟩, M, by unfold Elem; clear F M; grind⟩
    ·skip
     have h17b := hc; clear hc
     have h17 : (b15) = true := (of_not_f h17b)
     have h17c : (b15) = true := (of_not_f h17b)
     refine rl_guard_t F rfl rfl rfl (not_f h17c) ?_
     refine rl_run F (run_fieldAddr tok30.k rfl rfl (F.ev rfl)) rfl ?_; clear F a; intro a F
     refine rl_guard_t F rfl rfl rfl (not_f h17c) ?_
     refine rl_run F (run_load1 (agf tok9 rfl) (F.ev rfl) (M.cellL (k := 0) rfl rfl)) rfl ?_; clear F a; intro a F
     refine rl_guard_t F rfl rfl rfl (not_f h17c) ?_
     refine rl_run F (run_strNe (F.ev rfl) (F.ev rfl)) rfl ?_; clear F a; intro a F
     refine rl_guard_t F rfl rfl rfl (not_f h17c) ?_
     refine rl_run F (run_move (F.ev rfl)) rfl ?_; clear F a; intro a F
     rcases Bool.eq_false_or_eq_true (!(decide (x.key = ([] : List UInt8)))) with hc | hc
     ·skip
      have h18b := hc; clear hc
      have h18 : ¬ (x.key = ([] : List UInt8)) := of_decide_eq_false (of_not_t h18b)
      have h18c : (decide (x.key = ([] : List UInt8))) = false := (of_not_t h18b)
      refine rl_guard_t F rfl rfl rfl (not_t h18c) ?_
      refine rl_run F (run_fieldAddr tok30.k rfl rfl (F.ev rfl)) rfl ?_; clear F a; intro a F
      refine rl_guard_t F rfl rfl rfl (not_t h18c) ?_
      refine rl_run F (run_load1 (agf tok9 rfl) (F.ev rfl) (M.cellL (k := 0) rfl rfl)) rfl ?_; clear F a; intro a F
      refine rl_guard_t F rfl rfl rfl (not_t h18c) ?_
      refine rl_callS F ent76 rfl rfl (rname_spec (s := x.key) M (by omega)) ?_; clear F M a; rintro _ w a M ⟨b19, rfl, hb19⟩ F
      refine rl_guard_t F rfl rfl rfl (not_t h18c) ?_
      refine rl_run F (run_not (F.ev rfl)) rfl ?_; clear F a; intro a F
      refine rl_guard_t F rfl rfl rfl (not_f h17c) ?_
      refine rl_run F (run_pick_t (F.ev rfl) (not_t h18c) (F.ev rfl)) rfl ?_; clear F a; intro a F
      refine rl_run F (run_pick_f (F.ev rfl) (not_f h17c) (F.ev rfl)) rfl ?_; clear F a; intro a F
      refine rl_run F (run_move (F.ev rfl)) rfl ?_; clear F a; intro a F
      rcases Bool.eq_false_or_eq_true (!(b19)) with hc | hc
      ·skip
       have h20b := hc; clear hc
       have h20 : (b19) = false := (of_not_t h20b)
       have h20c : (b19) = false := (of_not_t h20b)
       iterate 3 (refine rl_guard_f F rfl rfl rfl (not_t h20c) ?_; clear F a; intro a F)
       refine rl_run F (run_pick_t (F.ev rfl) (not_t h20c) (F.ev rfl)) rfl ?_; clear F a; intro a F
       refine rl_run F (run_move (F.ev rfl)) rfl ?_; clear F a; intro a F
       iterate 4 (refine rl_guard_f F rfl rfl rfl rfl ?_; clear F a; intro a F)
       refine rl_run F (run_pick_t (F.ev rfl) rfl (F.ev rfl)) rfl ?_; clear F a; intro a F
       refine rl_run F (run_move (F.ev rfl)) rfl ?_; clear F a; intro a F
       iterate 4 (refine rl_guard_f F rfl rfl rfl rfl ?_; clear F a; intro a F)
       refine rl_run F (run_pick_t (F.ev rfl) rfl (F.ev rfl)) rfl ?_; clear F a; intro a F
       refine rl_nil ?_
       exact ⟨true, F.to ⟨rfl, rfl, trivial⟩, M, by unfold Elem; clear F M; grind⟩
      ·skip
       have h21b := hc; clear hc
       have h21 : (b19) = true := (of_not_f h21b)
       have h21c : (b19) = true := (of_not_f h21b)
       refine rl_guard_t F rfl rfl rfl (not_f h21c) ?_
       refine rl_run F (run_fieldAddr tok30.k rfl rfl (F.ev rfl)) rfl ?_; clear F a; intro a F
       refine rl_guard_t F rfl rfl rfl (not_f h21c) ?_
       refine rl_run F (run_load1 (agf tok9 rfl) (F.ev rfl) (M.cellL (k := 0) rfl rfl)) rfl ?_; clear F a; intro a F
       refine rl_guard_t F rfl rfl rfl (not_f h21c) ?_
       refine rl_run F (run_strNe (F.ev rfl) (F.ev rfl)) rfl ?_; clear F a; intro a F
       refine rl_run F (run_pick_f (F.ev rfl) (not_f h21c) (F.ev rfl)) rfl ?_; clear F a; intro a F
       refine rl_run F (run_move (F.ev rfl)) rfl ?_; clear F a; intro a F
       rcases Bool.eq_false_or_eq_true (!(decide (x.text = ([] : List UInt8)))) with hc | hc
       ·skip
        have h22b := hc; clear hc
        have h22 : ¬ (x.text = ([] : List UInt8)) := of_decide_eq_false (of_not_t h22b)
        have h22c : (decide (x.text = ([] : List UInt8))) = false := (of_not_t h22b)
        iterate 4 (refine rl_guard_f F rfl rfl rfl (not_t h22c) ?_; clear F a; intro a F)
        refine rl_run F (run_pick_t (F.ev rfl) (not_t h22c) (F.ev rfl)) rfl ?_; clear F a; intro a F
        refine rl_run F (run_move (F.ev rfl)) rfl ?_; clear F a; intro a F
        iterate 4 (refine rl_guard_f F rfl rfl rfl rfl ?_; clear F a; intro a F)
        refine rl_run F (run_pick_t (F.ev rfl) rfl (F.ev rfl)) rfl ?_; clear F a; intro a F
        refine rl_nil ?_
        exact ⟨true, F.to ⟨rfl, rfl, trivial⟩, M, by unfold Elem; clear F M; grind⟩
       ·skip
        have h23b := hc; clear hc
        have h23 : x.text = ([] : List UInt8) := of_decide_eq_true (of_not_f h23b)
        have h23c : (decide (x.text = ([] : List UInt8))) = true := (of_not_f h23b)
        refine rl_guard_t F rfl rfl rfl (not_f h23c) ?_
        refine rl_run F (run_fieldAddr tok30.k rfl rfl (F.ev rfl)) rfl ?_; clear F a; intro a F
        refine rl_guard_t F rfl rfl rfl (not_f h23c) ?_
        refine rl_run F (run_load1 (agf tok27 rfl) (F.ev rfl) (M.cellL (k := 0) rfl rfl)) rfl ?_; clear F a; intro a F
        refine rl_guard_t F rfl rfl rfl (not_f h23c) ?_
        refine rl_run F (run_lenSl tok27.k (F.ev rfl)) rfl ?_; clear F a; intro a F
        refine rl_guard_t F rfl rfl rfl (not_f h23c) ?_
        refine rl_run F (run_gtr (F.ev rfl) (F.ev rfl)) rfl ?_; clear F a; intro a F
        refine rl_run F (run_pick_f (F.ev rfl) (not_f h23c) (F.ev rfl)) rfl ?_; clear F a; intro a F
        refine rl_run F (run_move (F.ev rfl)) rfl ?_; clear F a; intro a F
        rcases Bool.eq_false_or_eq_true (decide (8 < ((x.as.length : Nat) : Int))) with hc | hc
        ·skip
         have h24b := hc; clear hc
         have h24 : 8 < ((x.as.length : Nat) : Int) := of_decide_eq_true h24b
         iterate 4 (refine rl_guard_f F rfl rfl rfl h24b ?_; clear F a; intro a F)
         refine rl_run F (run_pick_t (F.ev rfl) h24b (F.ev rfl)) rfl ?_; clear F a; intro a F
         refine rl_nil ?_
         exact ⟨true, F.to ⟨rfl, rfl, trivial⟩, M, by unfold Elem; clear F M; grind⟩
        ·skip
         have h25b := hc; clear hc
         have h25 : ¬ (8 < ((x.as.length : Nat) : Int)) := of_decide_eq_false h25b
         refine rl_guard_t F rfl rfl rfl h25b ?_
         refine rl_run F (run_fieldAddr tok30.k rfl rfl (F.ev rfl)) rfl ?_; clear F a; intro a F
         refine rl_guard_t F rfl rfl rfl h25b ?_
         refine rl_run F (run_load1 (agf tok28 rfl) (F.ev rfl) (M.cellL (k := 0) rfl rfl)) rfl ?_; clear F a; intro a F
         refine rl_guard_t F rfl rfl rfl h25b ?_
         refine rl_run F (run_lenSl tok28.k (F.ev rfl)) rfl ?_; clear F a; intro a F
         refine rl_guard_t F rfl rfl rfl h25b ?_
         refine rl_run F (run_gtr (F.ev rfl) (F.ev rfl)) rfl ?_; clear F a; intro a F
         refine rl_run F (run_pick_f (F.ev rfl) h25b (F.ev rfl)) rfl ?_; clear F a; intro a F
         refine rl_nil ?_
         exact ⟨(decide (16 < ((x.kids.length : Nat) : Int))), F.to ⟨rfl, rfl, trivial⟩, M, by unfold Elem; clear F M; grind⟩
     ·skip
      have h26b := hc; clear hc
      have h26 : x.key = ([] : List UInt8) := of_decide_eq_true (of_not_f h26b)
      have h26c : (decide (x.key = ([] : List UInt8))) = true := (of_not_f h26b)
      iterate 4 (refine rl_guard_f F rfl rfl rfl (not_f h26c) ?_; clear F a; intro a F)
      refine rl_guard_t F rfl rfl rfl (not_f h17c) ?_
      refine rl_run F (run_pick_f (F.ev rfl) (not_f h26c) (F.ev rfl)) rfl ?_; clear F a; intro a F
      refine rl_run F (run_pick_f (F.ev rfl) (not_f h17c) (F.ev rfl)) rfl ?_; clear F a; intro a F
      refine rl_run F (run_move (F.ev rfl)) rfl ?_; clear F a; intro a F
      refine rl_guard_t F rfl rfl rfl rfl ?_
      refine rl_run F (run_fieldAddr tok30.k rfl rfl (F.ev rfl)) rfl ?_; clear F a; intro a F
      refine rl_guard_t F rfl rfl rfl rfl ?_
      refine rl_run F (run_load1 (agf tok9 rfl) (F.ev rfl) (M.cellL (k := 0) rfl rfl)) rfl ?_; clear F a; intro a F
      refine rl_guard_t F rfl rfl rfl rfl ?_
      refine rl_run F (run_strNe (F.ev rfl) (F.ev rfl)) rfl ?_; clear F a; intro a F
      refine rl_run F (run_pick_f (F.ev rfl) rfl (F.ev rfl)) rfl ?_; clear F a; intro a F
      refine rl_run F (run_move (F.ev rfl)) rfl ?_; clear F a; intro a F
      rcases Bool.eq_false_or_eq_true (!(decide (x.text = ([] : List UInt8)))) with hc | hc
      ·skip
       have h27b := hc; clear hc
       have h27 : ¬ (x.text = ([] : List UInt8)) := of_decide_eq_false (of_not_t h27b)
       have h27c : (decide (x.text = ([] : List UInt8))) = false := (of_not_t h27b)
       iterate 4 (refine rl_guard_f F rfl rfl rfl (not_t h27c) ?_; clear F a; intro a F)
       refine rl_run F (run_pick_t (F.ev rfl) (not_t h27c) (F.ev rfl)) rfl ?_; clear F a; intro a F
       refine rl_run F (run_move (F.ev rfl)) rfl ?_; clear F a; intro a F
       iterate 4 (refine rl_guard_f F rfl rfl rfl rfl ?_; clear F a; intro a F)
       refine rl_run F (run_pick_t (F.ev rfl) rfl (F.ev rfl)) rfl ?_; clear F a; intro a F
       refine rl_nil ?_
       exact ⟨true, F.to ⟨rfl, rfl, trivial⟩, M, by unfold Elem; clear F M; grind⟩
      ·skip
       have h28b := hc; clear hc
       have h28 : x.text = ([] : List UInt8) := of_decide_eq_true (of_not_f h28b)
       have h28c : (decide (x.text = ([] : List UInt8))) = true := (of_not_f h28b)
       refine rl_guard_t F rfl rfl rfl (not_f h28c) ?_
       refine rl_run F (run_fieldAddr tok30.k rfl rfl (F.ev rfl)) rfl ?_; clear F a; intro a F
       refine rl_guard_t F rfl rfl rfl (not_f h28c) ?_
       refine rl_run F (run_load1 (agf tok27 rfl) (F.ev rfl) (M.cellL (k := 0) rfl rfl)) rfl ?_; clear F a; intro a F
       refine rl_guard_t F rfl rfl rfl (not_f h28c) ?_
       refine rl_run F (run_lenSl tok27.k (F.ev rfl)) rfl ?_; clear F a; intro a F
       refine rl_guard_t F rfl rfl rfl (not_f h28c) ?_
       refine rl_run F (run_gtr (F.ev rfl) (F.ev rfl)) rfl ?_; clear F a; intro a F
       refine rl_run F (run_pick_f (F.ev rfl) (not_f h28c) (F.ev rfl)) rfl ?_; clear F a; intro a F
       refine rl_run F (run_move (F.ev rfl)) rfl ?_; clear F a; intro a F
       rcases Bool.eq_false_or_eq_true (decide (8 < ((x.as.length : Nat) : Int))) with hc | hc
       ·skip
        have h29b := hc; clear hc
        have h29 : 8 < ((x.as.length : Nat) : Int) := of_decide_eq_true h29b
        iterate 4 (refine rl_guard_f F rfl rfl rfl h29b ?_; clear F a; intro a F)
        refine rl_run F (run_pick_t (F.ev rfl) h29b (F.ev rfl)) rfl ?_; clear F a; intro a F
        refine rl_nil ?_
        exact ⟨true, F.to ⟨rfl, rfl, trivial⟩, M, by unfold Elem; clear F M; grind⟩
       ·skip
        have h30b := hc; clear hc
        have h30 : ¬ (8 < ((x.as.length : Nat) : Int)) := of_decide_eq_false h30b
        refine rl_guard_t F rfl rfl rfl h30b ?_
        refine rl_run F (run_fieldAddr tok30.k rfl rfl (F.ev rfl)) rfl ?_; clear F a; intro a F
        refine rl_guard_t F rfl rfl rfl h30b ?_
        refine rl_run F (run_load1 (agf tok28 rfl) (F.ev rfl) (M.cellL (k := 0) rfl rfl)) rfl ?_; clear F a; intro a F
        refine rl_guard_t F rfl rfl rfl h30b ?_
        refine rl_run F (run_lenSl tok28.k (F.ev rfl)) rfl ?_; clear F a; intro a F
        refine rl_guard_t F rfl rfl rfl h30b ?_
        refine rl_run F (run_gtr (F.ev rfl) (F.ev rfl)) rfl ?_; clear F a; intro a F
        refine rl_run F (run_pick_f (F.ev rfl) h30b (F.ev rfl)) rfl ?_; clear F a; intro a F
        refine rl_nil ?_
        exact ⟨(decide (16 < ((x.kids.length : Nat) : Int))), F.to ⟨rfl, rfl, trivial⟩, M, by unfold Elem; clear F M; grind⟩
  ·clear F M
   rintro a w ⟨bb, F, M, hbb⟩
   refine q_tn <| w_cond F rfl ?_ ?_
   ·intro hc
    have h31b := hc; clear hc
    have h31 : (bb) = true := h31b
    refine wp_seq <| w_reg <| rl_run F (run_assign (F.ev rfl)) rfl ?_; clear F a; intro a F
    refine rl_nil <| q_tn <| wp_ret <| q_tr <| fin1 F rfl rfl ?_
    exact ⟨(M.weaken (.cons _ (List.Sublist.refl _))), false, rfl, (by rw [alone_elem (by assumption)]; have q99 := @bl_le; clear F M; grind)⟩
   ·intro hc
    have h32b := hc; clear hc
    have h32 : (bb) = false := h32b
    refine wp_skip <| q_tn ?_
    iterate 2 (refine wp_seq ?_)
    have hE : Elem x := by clear F M; grind
    obtain ⟨hE1, hE2, hE3, hE4, hE5, hE6⟩ := id hE
    refine w_reg <| rl_run F (run_assign (F.ev rfl)) rfl ?_; clear F a; intro a F
    refine rl_nil <| q_tn <| wp_block <| w_loopN (fun m a' w' => ∃ (i : Nat), m = x.as.length - i ∧ Fits 149 a' [(1, .pointer (some ⟨b1, 0, none⟩)), (3, .int .i64 (((i : Nat) : Int)))] ∧ Mem w0 G (.blk b1 [.int .u8 (x.kind), .string (str (x.tag)), .string (str (x.key)), .slice (ta) (x.as.length) (tc), .string (str (x.text)), .slice (ka) (x.kids.length) (kc)] 30 :: L) w' ∧ (i ≤ x.as.length) ∧ (AttrsTo x.as i)) _ ⟨0, rfl, F.to ⟨rfl, rfl, trivial⟩, M, Nat.zero_le _, AttrsTo.zero _⟩ ?_
    clear F M
    rintro m a w ⟨i, rfl, F, M, hi, hA⟩
    iterate 2 (refine wp_seq ?_)
    refine w_reg <| rl_run F (run_move (F.ev rfl)) rfl ?_; clear F a; intro a F
    refine rl_run F (run_fieldAddr tok30.k rfl rfl (F.ev rfl)) rfl ?_; clear F a; intro a F
    refine rl_run F (run_load1 (agf tok27 rfl) (F.ev rfl) (M.cellL (k := 0) rfl rfl)) rfl ?_; clear F a; intro a F
    refine rl_run F (run_lenSl tok27.k (F.ev rfl)) rfl ?_; clear F a; intro a F
    refine rl_run F (run_lss (F.ev rfl) (F.ev rfl)) rfl ?_; clear F a; intro a F
    refine rl_nil <| q_tn <| w_cond F rfl ?_ ?_
    ·intro hc
     have h33b := hc; clear hc
     have h33 : ((i : Nat) : Int) < ((x.as.length : Nat) : Int) := of_decide_eq_true h33b
     refine wp_skip <| q_tn <| wp_seq <| wp_block ?_
     iterate 2 (refine wp_seq ?_)
     refine w_reg <| rl_run F (run_fieldAddr tok30.k rfl rfl (F.ev rfl)) rfl ?_; clear F a; intro a F
     refine rl_run F (run_load1 (agf tok27 rfl) (F.ev rfl) (M.cellL (k := 0) rfl rfl)) rfl ?_; clear F a; intro a F
     refine rl_run F (run_move (F.ev rfl)) rfl ?_; clear F a; intro a F
     obtain ⟨Xe34, hXe34⟩ := get_of_lt (xs := x.as) (i := i) (by omega)
     obtain ⟨be34, oe34, _, Ie34, _, Ae34, ⟨rfl, hn1e34, hv1e34⟩⟩ := SA.at hXe34
     refine rl_run F (run_indexI tok27.k tok87 (F.ev rfl) (F.ev rfl) (by omega) Ie34) rfl ?_; clear F a; intro a F
     refine rl_run F (run_fieldAddr tok87.k rfl rfl (F.ev rfl)) rfl ?_; clear F a; intro a F
     refine rl_run F (run_load1 (agf tok9 rfl) (F.ev rfl) (M.cellA Ae34 0 rfl rfl)) rfl ?_; clear F a; intro a F
     refine rl_callS F ent76 rfl rfl (rname_spec (s := Xe34.n) M (by omega)) ?_; clear F M a; rintro _ w a M ⟨b35, rfl, hb35⟩ F
     refine rl_run F (run_not (F.ev rfl)) rfl ?_; clear F a; intro a F
     refine rl_run F (run_move (F.ev rfl)) rfl ?_; clear F a; intro a F
     rcases Bool.eq_false_or_eq_true (!(b35)) with hc | hc
     ·skip
      have h36b := hc; clear hc
      have h36 : (b35) = false := (of_not_t h36b)
      have h36c : (b35) = false := (of_not_t h36b)
      iterate 8 (refine rl_guard_f F rfl rfl rfl (not_t h36c) ?_; clear F a; intro a F)
      refine rl_run F (run_pick_t (F.ev rfl) (not_t h36c) (F.ev rfl)) rfl ?_; clear F a; intro a F
      refine rl_nil <| q_tn <| w_cond_t F rfl rfl ?_
      refine wp_seq <| w_reg <| rl_run F (run_assign (F.ev rfl)) rfl ?_; clear F a; intro a F
      refine rl_nil <| q_tn <| wp_ret <| q_tr <| q_br ?_
      iterate 2 (refine q_tr ?_)
      refine q_br <| q_tr <| fin1 F rfl rfl ?_
      exact ⟨(M.weaken (.cons _ (List.Sublist.refl _))), false, rfl, (by rw [alone_elem (by assumption)]; have q0 := attrs_no1 hXe34; have q99 := @bl_le; clear F M; grind)⟩
     ·skip
      have h37b := hc; clear hc
      have h37 : (b35) = true := (of_not_f h37b)
      have h37c : (b35) = true := (of_not_f h37b)
      refine rl_guard_t F rfl rfl rfl (not_f h37c) ?_
      refine rl_run F (run_fieldAddr tok30.k rfl rfl (F.ev rfl)) rfl ?_; clear F a; intro a F
      refine rl_guard_t F rfl rfl rfl (not_f h37c) ?_
      refine rl_run F (run_load1 (agf tok27 rfl) (F.ev rfl) (M.cellL (k := 0) rfl rfl)) rfl ?_; clear F a; intro a F
      refine rl_guard_t F rfl rfl rfl (not_f h37c) ?_
      refine rl_run F (run_move (F.ev rfl)) rfl ?_; clear F a; intro a F
      refine rl_guard_t F rfl rfl rfl (not_f h37c) ?_
      obtain ⟨be38, oe38, _, Ie38, _, Ae38, ⟨rfl, hn1e38, hv1e38⟩⟩ := SA.at hXe34
      refine rl_run F (run_indexI tok27.k tok87 (F.ev rfl) (F.ev rfl) (by omega) Ie38) rfl ?_; clear F a; intro a F
      refine rl_guard_t F rfl rfl rfl (not_f h37c) ?_
      refine rl_run F (run_fieldAddr tok87.k rfl rfl (F.ev rfl)) rfl ?_; clear F a; intro a F
      refine rl_guard_t F rfl rfl rfl (not_f h37c) ?_
      refine rl_run F (run_load1 (agf tok9 rfl) (F.ev rfl) (M.cellA Ae38 1 rfl rfl)) rfl ?_; clear F a; intro a F
      refine rl_guard_t F rfl rfl rfl (not_f h37c) ?_
      refine rl_callS F ent75 rfl rfl (rstr_spec (s := Xe34.v) M (by omega)) ?_; clear F M a; rintro _ w a M ⟨b39, rfl, hb39⟩ F
      refine rl_guard_t F rfl rfl rfl (not_f h37c) ?_
      refine rl_run F (run_not (F.ev rfl)) rfl ?_; clear F a; intro a F
      refine rl_run F (run_pick_f (F.ev rfl) (not_f h37c) (F.ev rfl)) rfl ?_; clear F a; intro a F
      refine rl_nil <| q_tn <| w_cond F rfl ?_ ?_
      ·intro hc
       have h40b := hc; clear hc
       have h40 : (b39) = false := (of_not_t h40b)
       have h40c : (b39) = false := (of_not_t h40b)
       refine wp_seq <| w_reg <| rl_run F (run_assign (F.ev rfl)) rfl ?_; clear F a; intro a F
       refine rl_nil <| q_tn <| wp_ret <| q_tr <| q_br ?_
       iterate 2 (refine q_tr ?_)
       refine q_br <| q_tr <| fin1 F rfl rfl ?_
       exact ⟨(M.weaken (.cons _ (List.Sublist.refl _))), false, rfl, (by rw [alone_elem (by assumption)]; have q0 := attrs_no1 hXe34; have q99 := @bl_le; clear F M; grind)⟩
      ·intro hc
       have h41b := hc; clear hc
       have h41 : (b39) = true := (of_not_f h41b)
       have h41c : (b39) = true := (of_not_f h41b)
       refine wp_skip <| q_tn <| wp_seq <| w_reg <| rl_run F (run_assign (F.ev rfl)) rfl ?_; clear F a; intro a F
       refine rl_nil <| q_tn <| wp_block ?_
       have hNv : Name Xe34.n ∧ Str Xe34.v := by clear F M; grind
       refine w_loopN (fun m a' w' => ∃ (k : Nat), m = i - k ∧ Fits 149 a' [(1, .pointer (some ⟨b1, 0, none⟩)), (3, .int .i64 (((i : Nat) : Int))), (4, .int .i64 (((k : Nat) : Int)))] ∧ Mem w0 G (.blk b1 [.int .u8 (x.kind), .string (str (x.tag)), .string (str (x.key)), .slice (ta) (x.as.length) (tc), .string (str (x.text)), .slice (ka) (x.kids.length) (kc)] 30 :: L) w' ∧ (k ≤ i) ∧ (∀ (m : Nat) (y : AttrD), m < k → x.as[m]? = some y → Op.bytesLess y.n Xe34.n = true)) _ ⟨0, rfl, F.to ⟨rfl, rfl, rfl, trivial⟩, M, Nat.zero_le _, fun m y h => by omega⟩ ?_
       clear F M
       rintro m a w ⟨k, rfl, F, M, hk2, hB⟩
       iterate 2 (refine wp_seq ?_)
       refine w_reg ?_
       iterate 2 (refine rl_run F (run_move (F.ev rfl)) rfl ?_; clear F a; intro a F)
       refine rl_run F (run_lss (F.ev rfl) (F.ev rfl)) rfl ?_; clear F a; intro a F
       refine rl_nil <| q_tn <| w_cond F rfl ?_ ?_
       ·intro hc
        have h42b := hc; clear hc
        have h42 : ((k : Nat) : Int) < ((i : Nat) : Int) := of_decide_eq_true h42b
        refine wp_skip <| q_tn <| wp_seq <| wp_block <| wp_seq <| w_plan [(true, 0), (true, 1), (true, 2), (true, 3), (true, 4), (true, 5), (true, 6), (true, 7), (true, 8), (true, 9), (true, 10), (true, 11), (true, 12)] (Keep G [.blk b1 [.int .u8 (x.kind), .string (str (x.tag)), .string (str (x.key)), .slice (ta) (x.as.length) (tc), .string (str (x.text)), .slice (ka) (x.kids.length) (kc)] 30]) rfl (by kernel_rfl) (fun c a d v w h => by cases d <;> exact h) ((M.drew _).keep (Gle.refl _) (by simp)) ?_
        replace M := M.drew (w.drawn + 1)
        refine pl_run F (fun w M => run_fieldAddr tok30.k rfl rfl (F.ev rfl)) rfl ?_; clear F a; intro a F
        refine pl_run F (fun w M => run_load1 (agf tok27 rfl) (F.ev rfl) (M.cellL (k := 0) rfl rfl)) rfl ?_; clear F a; intro a F
        refine pl_run F (fun w M => run_move (F.ev rfl)) rfl ?_; clear F a; intro a F
        obtain ⟨Xe43, hXe43⟩ := get_of_lt (xs := x.as) (i := k) (by omega)
        obtain ⟨be43, oe43, _, Ie43, _, Ae43, ⟨rfl, hn1e43, hv1e43⟩⟩ := SA.at hXe43
        refine pl_run F (fun w M => run_indexI tok27.k tok87 (F.ev rfl) (F.ev rfl) (by omega) Ie43) rfl ?_; clear F a; intro a F
        refine pl_run F (fun w M => run_fieldAddr tok87.k rfl rfl (F.ev rfl)) rfl ?_; clear F a; intro a F
        refine pl_run F (fun w M => run_load1 (agf tok9 rfl) (F.ev rfl) (M.cellA Ae43 0 rfl rfl)) rfl ?_; clear F a; intro a F
        refine pl_run F (fun w M => run_fieldAddr tok30.k rfl rfl (F.ev rfl)) rfl ?_; clear F a; intro a F
        refine pl_run F (fun w M => run_load1 (agf tok27 rfl) (F.ev rfl) (M.cellL (k := 0) rfl rfl)) rfl ?_; clear F a; intro a F
        refine pl_run F (fun w M => run_move (F.ev rfl)) rfl ?_; clear F a; intro a F
        obtain ⟨be44, oe44, _, Ie44, _, Ae44, ⟨rfl, hn1e44, hv1e44⟩⟩ := SA.at hXe34
        refine pl_run F (fun w M => run_indexI tok27.k tok87 (F.ev rfl) (F.ev rfl) (by omega) Ie44) rfl ?_; clear F a; intro a F
        refine pl_run F (fun w M => run_fieldAddr tok87.k rfl rfl (F.ev rfl)) rfl ?_; clear F a; intro a F
        refine pl_run F (fun w M => run_load1 (agf tok9 rfl) (F.ev rfl) (M.cellA Ae44 0 rfl rfl)) rfl ?_; clear F a; intro a F
        refine pl_run F (fun w M => run_strGeq (F.ev rfl) (F.ev rfl)) rfl ?_; clear F a; intro a F
        refine pl_nil ?_
        generalize ({ w with drawn := w.drawn + 1 } : World) = w at M ⊢
        refine q_tn <| w_cond F rfl ?_ ?_
        ·intro hc
         have h45b := hc; clear hc
         have h45 : (Op.bytesLess Xe43.n Xe34.n) = false := (of_not_t h45b)
         have h45c : (Op.bytesLess Xe43.n Xe34.n) = false := (of_not_t h45b)
         refine wp_seq <| w_reg <| rl_run F (run_assign (F.ev rfl)) rfl ?_; clear F a; intro a F
         refine rl_nil <| q_tn <| wp_ret <| q_br ?_
         iterate 2 (refine q_tr ?_)
         iterate 2 (refine q_br ?_)
         iterate 2 (refine q_tr ?_)
         refine q_br <| q_tr <| fin1 F rfl rfl ?_
         exact ⟨(M.weaken (.cons _ (List.Sublist.refl _))), false, rfl, (by rw [alone_elem (by assumption)]; have q0 := attrs_no1 hXe34; have q1 := fun h => attrs_no2 hXe34 hXe43 h; have q2 := attrs_no1 hXe43; have q3 := fun h => attrs_no2 hXe43 hXe34 h; have q99 := @bl_le; clear F M; grind)⟩
        ·intro hc
         have h46b := hc; clear hc
         have h46 : (Op.bytesLess Xe43.n Xe34.n) = true := (of_not_f h46b)
         have h46c : (Op.bytesLess Xe43.n Xe34.n) = true := (of_not_f h46b)
         refine wp_skip <| q_bn <| q_tn <| w_reg <| rl_run F (run_move (F.ev rfl)) rfl ?_; clear F a; intro a F
         refine rl_run F (run_addi (F.ev rfl) (F.ev rfl) (in_i64 (by omega) (by omega))) rfl ?_; clear F a; intro a F
         refine rl_run F (run_assign (F.ev rfl)) rfl ?_; clear F a; intro a F
         refine rl_nil <| q_tn ?_
         exact ⟨_, by omega, k + 1, rfl, F.to ⟨rfl, rfl, rfl, trivial⟩, M, by omega, fun m y hm hy => by rcases Nat.eq_or_lt_of_le (show m ≤ k by omega) with e | e; (subst e; rw [hXe43] at hy; simp only [Option.some.injEq] at hy; subst hy; clear F M; grind); exact hB m y e hy⟩
       ·intro hc
        have h47b := hc; clear hc
        have h47 : ¬ (((k : Nat) : Int) < ((i : Nat) : Int)) := of_decide_eq_false h47b
        refine wp_exit ?_
        iterate 2 (refine q_te ?_)
        refine q_bh <| q_bn <| q_tn <| w_reg <| rl_run F (run_move (F.ev rfl)) rfl ?_; clear F a; intro a F
        refine rl_run F (run_addi (F.ev rfl) (F.ev rfl) (in_i64 (by omega) (by omega))) rfl ?_; clear F a; intro a F
        refine rl_run F (run_assign (F.ev rfl)) rfl ?_; clear F a; intro a F
        refine rl_nil <| q_tn ?_
        exact ⟨_, by omega, i + 1, rfl, F.to ⟨rfl, rfl, trivial⟩, M, by omega, hA.step hXe34 hNv.1 hNv.2 (fun y h_ hy => hB (i - 1) y (by omega) hy)⟩
    ·intro hc
     have h48b := hc; clear hc
     have h48 : ¬ (((i : Nat) : Int) < ((x.as.length : Nat) : Int)) := of_decide_eq_false h48b
     refine wp_exit ?_
     iterate 2 (refine q_te ?_)
     refine q_bh <| q_tn ?_
     iterate 2 (refine wp_seq ?_)
     have hAO : AttrsOk x.as := hA.all (by omega)
     refine w_reg <| rl_run F (run_assign (F.ev rfl)) rfl ?_; clear F a; intro a F
     refine rl_nil <| q_tn <| wp_block <| w_loopN (fun m a' w' => ∃ (j : Nat), m = x.kids.length - j ∧ Fits 149 a' [(1, .pointer (some ⟨b1, 0, none⟩)), (5, .int .i64 (((j : Nat) : Int)))] ∧ Mem w0 G (.blk b1 [.int .u8 (x.kind), .string (str (x.tag)), .string (str (x.key)), .slice (ta) (x.as.length) (tc), .string (str (x.text)), .slice (ka) (x.kids.length) (kc)] 30 :: L) w' ∧ (j ≤ x.kids.length) ∧ (KeysTo x.kids j)) _ ⟨0, rfl, F.to ⟨rfl, rfl, trivial⟩, M, Nat.zero_le _, KeysTo.zero _⟩ ?_
     clear F M
     rintro m a w ⟨j, rfl, F, M, hj, hK⟩
     iterate 2 (refine wp_seq ?_)
     refine w_reg <| rl_run F (run_move (F.ev rfl)) rfl ?_; clear F a; intro a F
     refine rl_run F (run_fieldAddr tok30.k rfl rfl (F.ev rfl)) rfl ?_; clear F a; intro a F
     refine rl_run F (run_load1 (agf tok28 rfl) (F.ev rfl) (M.cellL (k := 0) rfl rfl)) rfl ?_; clear F a; intro a F
     refine rl_run F (run_lenSl tok28.k (F.ev rfl)) rfl ?_; clear F a; intro a F
     refine rl_run F (run_lss (F.ev rfl) (F.ev rfl)) rfl ?_; clear F a; intro a F
     refine rl_nil <| q_tn <| w_cond F rfl ?_ ?_
     ·intro hc
      have h49b := hc; clear hc
      have h49 : ((j : Nat) : Int) < ((x.kids.length : Nat) : Int) := of_decide_eq_true h49b
      refine wp_skip <| q_tn <| wp_seq <| wp_block <| wp_seq ?_
      obtain ⟨Xj, hXj⟩ := get_of_lt (xs := x.kids) (i := j) (by omega)
      refine w_reg <| rl_run F (run_assign (F.ev rfl)) rfl ?_; clear F a; intro a F
      refine rl_nil <| q_tn <| wp_block <| w_loopN (fun m a' w' => ∃ (k : Nat), m = j - k ∧ Fits 149 a' [(1, .pointer (some ⟨b1, 0, none⟩)), (5, .int .i64 (((j : Nat) : Int))), (6, .int .i64 (((k : Nat) : Int)))] ∧ Mem w0 G (.blk b1 [.int .u8 (x.kind), .string (str (x.tag)), .string (str (x.key)), .slice (ta) (x.as.length) (tc), .string (str (x.text)), .slice (ka) (x.kids.length) (kc)] 30 :: L) w' ∧ (k ≤ j) ∧ (∀ (m : Nat) (d : NT), m < k → x.kids[m]? = some d → Xj.key = [] ∨ d.key ≠ Xj.key)) _ ⟨0, rfl, F.to ⟨rfl, rfl, rfl, trivial⟩, M, Nat.zero_le _, fun m y h => by omega⟩ ?_
      clear F M
      rintro m a w ⟨k, rfl, F, M, hk2, hC⟩
      iterate 2 (refine wp_seq ?_)
      refine w_reg ?_
      iterate 2 (refine rl_run F (run_move (F.ev rfl)) rfl ?_; clear F a; intro a F)
      refine rl_run F (run_lss (F.ev rfl) (F.ev rfl)) rfl ?_; clear F a; intro a F
      refine rl_nil <| q_tn <| w_cond F rfl ?_ ?_
      ·intro hc
       have h50b := hc; clear hc
       have h50 : ((k : Nat) : Int) < ((j : Nat) : Int) := of_decide_eq_true h50b
       refine wp_skip <| q_tn <| wp_seq <| wp_block <| wp_seq <| w_plan [(true, 0), (true, 1), (true, 2), (true, 3), (true, 4), (true, 5), (true, 6), (true, 7), (true, 8), (true, 9), (true, 10), (true, 11), (true, 12), (true, 13), (true, 14), (true, 15), (true, 16), (true, 17), (true, 18), (true, 19), (true, 20), (true, 21)] (Keep G [.blk b1 [.int .u8 (x.kind), .string (str (x.tag)), .string (str (x.key)), .slice (ta) (x.as.length) (tc), .string (str (x.text)), .slice (ka) (x.kids.length) (kc)] 30]) rfl (by kernel_rfl) (fun c a d v w h => by cases d <;> exact h) ((M.drew _).keep (Gle.refl _) (by simp)) ?_
       replace M := M.drew (w.drawn + 1)
       refine pl_run F (fun w M => run_fieldAddr tok30.k rfl rfl (F.ev rfl)) rfl ?_; clear F a; intro a F
       refine pl_run F (fun w M => run_load1 (agf tok28 rfl) (F.ev rfl) (M.cellL (k := 0) rfl rfl)) rfl ?_; clear F a; intro a F
       refine pl_run F (fun w M => run_move (F.ev rfl)) rfl ?_; clear F a; intro a F
       obtain ⟨be51, oe51, _, Ie51, _, Ae51, hTe51⟩ := SK.at hXj
       obtain ⟨tae51, tce51, kae51, kce51, rfl, hke51, hle51, SAe51, SKe51⟩ := rdT_open hTe51
       refine pl_run F (fun w M => run_indexI tok28.k tok30 (F.ev rfl) (F.ev rfl) (by omega) Ie51) rfl ?_; clear F a; intro a F
       refine pl_run F (fun w M => run_fieldAddr tok30.k rfl rfl (F.ev rfl)) rfl ?_; clear F a; intro a F
       refine pl_run F (fun w M => run_load1 (agf tok9 rfl) (F.ev rfl) (M.cellA Ae51 2 rfl rfl)) rfl ?_; clear F a; intro a F
       refine pl_run F (fun w M => run_strNe (F.ev rfl) (F.ev rfl)) rfl ?_; clear F a; intro a F
       refine pl_run F (fun w M => run_move (F.ev rfl)) rfl ?_; clear F a; intro a F
       rcases Bool.eq_false_or_eq_true (!(decide (Xj.key = ([] : List UInt8)))) with hc | hc
       ·skip
        have h52b := hc; clear hc
        have h52 : ¬ (Xj.key = ([] : List UInt8)) := of_decide_eq_false (of_not_t h52b)
        have h52c : (decide (Xj.key = ([] : List UInt8))) = false := (of_not_t h52b)
        refine pl_guard_run F rfl rfl (not_t h52c) (fun w M => run_fieldAddr tok30.k rfl rfl (F.ev rfl)) rfl ?_; clear F a; intro a F
        refine pl_guard_run F rfl rfl (not_t h52c) (fun w M => run_load1 (agf tok28 rfl) (F.ev rfl) (M.cellL (k := 0) rfl rfl)) rfl ?_; clear F a; intro a F
        refine pl_guard_run F rfl rfl (not_t h52c) (fun w M => run_move (F.ev rfl)) rfl ?_; clear F a; intro a F
        obtain ⟨be53, oe53, _, Ie53, _, Ae53, hTe53⟩ := SK.at hXj
        obtain ⟨tae53, tce53, kae53, kce53, rfl, hke53, hle53, SAe53, SKe53⟩ := rdT_open hTe53
        refine pl_guard_run F rfl rfl (not_t h52c) (fun w M => run_indexI tok28.k tok30 (F.ev rfl) (F.ev rfl) (by omega) Ie53) rfl ?_; clear F a; intro a F
        refine pl_guard_run F rfl rfl (not_t h52c) (fun w M => run_fieldAddr tok30.k rfl rfl (F.ev rfl)) rfl ?_; clear F a; intro a F
        refine pl_guard_run F rfl rfl (not_t h52c) (fun w M => run_load1 (agf tok9 rfl) (F.ev rfl) (M.cellA Ae53 2 rfl rfl)) rfl ?_; clear F a; intro a F
        refine pl_guard_run F rfl rfl (not_t h52c) (fun w M => run_fieldAddr tok30.k rfl rfl (F.ev rfl)) rfl ?_; clear F a; intro a F
        refine pl_guard_run F rfl rfl (not_t h52c) (fun w M => run_load1 (agf tok28 rfl) (F.ev rfl) (M.cellL (k := 0) rfl rfl)) rfl ?_; clear F a; intro a F
        refine pl_guard_run F rfl rfl (not_t h52c) (fun w M => run_move (F.ev rfl)) rfl ?_; clear F a; intro a F
        obtain ⟨Xe54, hXe54⟩ := get_of_lt (xs := x.kids) (i := k) (by omega)
        obtain ⟨be54, oe54, _, Ie54, _, Ae54, hTe54⟩ := SK.at hXe54
        obtain ⟨tae54, tce54, kae54, kce54, rfl, hke54, hle54, SAe54, SKe54⟩ := rdT_open hTe54
        refine pl_guard_run F rfl rfl (not_t h52c) (fun w M => run_indexI tok28.k tok30 (F.ev rfl) (F.ev rfl) (by omega) Ie54) rfl ?_; clear F a; intro a F
        refine pl_guard_run F rfl rfl (not_t h52c) (fun w M => run_fieldAddr tok30.k rfl rfl (F.ev rfl)) rfl ?_; clear F a; intro a F
        refine pl_guard_run F rfl rfl (not_t h52c) (fun w M => run_load1 (agf tok9 rfl) (F.ev rfl) (M.cellA Ae54 2 rfl rfl)) rfl ?_; clear F a; intro a F
        refine pl_guard_run F rfl rfl (not_t h52c) (fun w M => run_strEq (F.ev rfl) (F.ev rfl)) rfl ?_; clear F a; intro a F
        refine pl_run F (fun w M => run_pick_t (F.ev rfl) (not_t h52c) (F.ev rfl)) rfl ?_; clear F a; intro a F
        refine pl_nil ?_
        generalize ({ w with drawn := w.drawn + 1 } : World) = w at M ⊢
        refine q_tn <| w_cond F rfl ?_ ?_
        ·intro hc
         have h55b := hc; clear hc
         have h55 : Xj.key = Xe54.key := of_decide_eq_true h55b
         refine wp_seq <| w_reg <| rl_run F (run_assign (F.ev rfl)) rfl ?_; clear F a; intro a F
         refine rl_nil <| q_tn <| wp_ret <| q_br ?_
         iterate 2 (refine q_tr ?_)
         iterate 2 (refine q_br ?_)
         iterate 2 (refine q_tr ?_)
         refine q_br <| q_tr <| fin1 F rfl rfl ?_
         exact ⟨(M.weaken (.cons _ (List.Sublist.refl _))), false, rfl, (by rw [alone_elem (by assumption)]; have q0 := haskey_no hXj; have q1 := fun h => keys_no h hXe54 hXj; have q2 := haskey_no hXe54; have q3 := fun h => keys_no h hXj hXe54; have q99 := @bl_le; clear F M; grind)⟩
        ·intro hc
         have h56b := hc; clear hc
         have h56 : ¬ (Xj.key = Xe54.key) := of_decide_eq_false h56b
         refine wp_skip <| q_bn <| q_tn <| w_reg <| rl_run F (run_move (F.ev rfl)) rfl ?_; clear F a; intro a F
         refine rl_run F (run_addi (F.ev rfl) (F.ev rfl) (in_i64 (by omega) (by omega))) rfl ?_; clear F a; intro a F
         refine rl_run F (run_assign (F.ev rfl)) rfl ?_; clear F a; intro a F
         refine rl_nil <| q_tn ?_
         exact ⟨_, by omega, k + 1, rfl, F.to ⟨rfl, rfl, rfl, trivial⟩, M, by omega, fun m d hm hy => by rcases Nat.eq_or_lt_of_le (show m ≤ k by omega) with e | e; (subst e; rw [hXe54] at hy; simp only [Option.some.injEq] at hy; subst hy; clear F M; grind); exact hC m d e hy⟩
       ·skip
        have h57b := hc; clear hc
        have h57 : Xj.key = ([] : List UInt8) := of_decide_eq_true (of_not_f h57b)
        have h57c : (decide (Xj.key = ([] : List UInt8))) = true := (of_not_f h57b)
        iterate 13 (refine pl_guard_skip F rfl rfl (not_f h57c) rfl ?_; clear F a; intro a F)
        refine pl_run F (fun w M => run_pick_f (F.ev rfl) (not_f h57c) (F.ev rfl)) rfl ?_; clear F a; intro a F
        refine pl_nil ?_
        generalize ({ w with drawn := w.drawn + 1 } : World) = w at M ⊢
        refine q_tn <| w_cond_f F rfl rfl ?_
        refine wp_skip <| q_bn <| q_tn <| w_reg <| rl_run F (run_move (F.ev rfl)) rfl ?_; clear F a; intro a F
        refine rl_run F (run_addi (F.ev rfl) (F.ev rfl) (in_i64 (by omega) (by omega))) rfl ?_; clear F a; intro a F
        refine rl_run F (run_assign (F.ev rfl)) rfl ?_; clear F a; intro a F
        refine rl_nil <| q_tn ?_
        exact ⟨_, by omega, k + 1, rfl, F.to ⟨rfl, rfl, rfl, trivial⟩, M, by omega, fun m d hm hy => by rcases Nat.eq_or_lt_of_le (show m ≤ k by omega) with e | e; (clear F M; grind); exact hC m d e hy⟩
      ·intro hc
       have h58b := hc; clear hc
       have h58 : ¬ (((k : Nat) : Int) < ((j : Nat) : Int)) := of_decide_eq_false h58b
       refine wp_exit ?_
       iterate 2 (refine q_te ?_)
       refine q_bh <| q_bn <| q_tn <| w_reg <| rl_run F (run_move (F.ev rfl)) rfl ?_; clear F a; intro a F
       refine rl_run F (run_addi (F.ev rfl) (F.ev rfl) (in_i64 (by omega) (by omega))) rfl ?_; clear F a; intro a F
       refine rl_run F (run_assign (F.ev rfl)) rfl ?_; clear F a; intro a F
       refine rl_nil <| q_tn ?_
       exact ⟨_, by omega, j + 1, rfl, F.to ⟨rfl, rfl, trivial⟩, M, by omega, hK.step hXj (by by_cases e : Xj.key = []; exact Or.inl e; exact Or.inr fun m a_ hm ha => (hC m a_ (by omega) ha).resolve_left e)⟩
     ·intro hc
      have h59b := hc; clear hc
      have h59 : ¬ (((j : Nat) : Int) < ((x.kids.length : Nat) : Int)) := of_decide_eq_false h59b
      refine wp_exit ?_
      iterate 2 (refine q_te ?_)
      refine q_bh <| q_tn <| wp_seq <| w_reg <| rl_run F (run_assign (F.ev rfl)) rfl ?_; clear F a; intro a F
      refine rl_nil <| q_tn <| wp_ret <| fin1 F rfl rfl ?_
      exact ⟨(M.weaken (.cons _ (List.Sublist.refl _))), true, rfl, (by rw [alone_elem (by assumption)]; exact ⟨fun _ => ⟨hE, hAO, hK.all (by omega)⟩, fun _ => rfl⟩)⟩
end Go.Proofs.YtlnehkjmmegkhaaGreat
