/- The walks, part NM. -/
import Derived.Test.YtlnehkjmmegkhaaGreatWalkNL
namespace Go.Proofs.YtlnehkjmmegkhaaGreat
open Go Go.Y Go.Proofs
set_option linter.unusedSimpArgs false
set_option linter.unusedVariables false
def OwnN (x : NT) : Prop := ∀ (w0 w : World) (G : Ghost) (L : List Res) (ta ka : Option Addr), Mem w0 G L w → RdSl rdAttr 2 G (.slice ta x.as.length x.as.length) x.as → RdSl rdNE 6 G (.slice ka x.kids.length x.kids.length) x.kids →
  Calls Tryz.prog 19 #[.agg #[.int .u8 (x.kind), .string (str (x.tag)), .string (str (x.key)), .slice (ta) (x.as.length) (x.as.length), .string (str (x.text)), .slice (ka) (x.kids.length) (x.kids.length)]] w (RetS w0 G L fun v => v = .int .i64 1)
theorem valid_kid {y c : NT} (h : Valid y) (hc : c ∈ y.kids) : Valid c := by
 obtain ⟨i, hi⟩ := List.getElem?_of_mem hc
 have := sizes_kid hi
 exact ⟨(show Tr.Ok Alone 5 c from h.1.2 c hc).mono (by decide), by have := h.2; omega⟩
theorem nown_step {x : NT} (ih : ∀ y ∈ x.kids, OwnN y) {w0 w : World} {G : Ghost} {L : List Res} (M : Mem w0 G L w) {ta ka : Option Addr} (SA : RdSl rdAttr 2 G (.slice ta x.as.length x.as.length) x.as) (SK : RdSl rdNE 6 G (.slice ka x.kids.length x.kids.length) x.kids) : Calls Tryz.prog 19 #[.agg #[.int .u8 (x.kind), .string (str (x.tag)), .string (str (x.key)), .slice (ta) (x.as.length) (x.as.length), .string (str (x.text)), .slice (ka) (x.kids.length) (x.kids.length)]] w (RetS w0 G L fun v => v = .int .i64 1) := by
 refine calls_start (vs := [_]) Tryz.func19 rfl (n := 34) rfl rfl ?_
 intro a F
 refine wp_seq <| w_reg <| rl_box F M rfl (cs := [.int .u8 (x.kind), .string (str (x.tag)), .string (str (x.key)), .slice (ta) (x.as.length) (x.as.length), .string (str (x.text)), .slice (ka) (x.kids.length) (x.kids.length)]) rfl rfl ?_; clear F M a; intro b1 w a M F
 refine rl_run F (run_assign (F.ev rfl)) rfl ?_; clear F a; intro a F
 refine rl_nil <| q_tn ?_
 iterate 2 (refine wp_seq ?_)
 have bK := SK.bound
 refine w_reg <| rl_run F (run_fieldAddr tok30.k rfl rfl (F.ev rfl)) rfl ?_; clear F a; intro a F
 refine rl_run F (run_load1 (agf tok27 rfl) (F.ev rfl) (M.cellL (k := 0) rfl rfl)) rfl ?_; clear F a; intro a F
 refine rl_run F (run_capSl tok27.k (F.ev rfl)) rfl ?_; clear F a; intro a F
 refine rl_run F (run_fieldAddr tok30.k rfl rfl (F.ev rfl)) rfl ?_; clear F a; intro a F
 refine rl_run F (run_load1 (agf tok27 rfl) (F.ev rfl) (M.cellL (k := 0) rfl rfl)) rfl ?_; clear F a; intro a F
 refine rl_run F (run_lenSl tok27.k (F.ev rfl)) rfl ?_; clear F a; intro a F
 refine rl_run F (run_nei (F.ev rfl) (F.ev rfl)) rfl ?_; clear F a; intro a F
 refine rl_run F (run_move (F.ev rfl)) rfl ?_; clear F a; intro a F
 refine rl_guard_t F rfl rfl rfl (not_f (decide_eq_true rfl)) ?_
 refine rl_run F (run_fieldAddr tok30.k rfl rfl (F.ev rfl)) rfl ?_; clear F a; intro a F
 refine rl_guard_t F rfl rfl rfl (not_f (decide_eq_true rfl)) ?_
 refine rl_run F (run_load1 (agf tok28 rfl) (F.ev rfl) (M.cellL (k := 0) rfl rfl)) rfl ?_; clear F a; intro a F
 refine rl_guard_t F rfl rfl rfl (not_f (decide_eq_true rfl)) ?_
 refine rl_run F (run_capSl tok28.k (F.ev rfl)) rfl ?_; clear F a; intro a F
 refine rl_guard_t F rfl rfl rfl (not_f (decide_eq_true rfl)) ?_
 refine rl_run F (run_fieldAddr tok30.k rfl rfl (F.ev rfl)) rfl ?_; clear F a; intro a F
 refine rl_guard_t F rfl rfl rfl (not_f (decide_eq_true rfl)) ?_
 refine rl_run F (run_load1 (agf tok28 rfl) (F.ev rfl) (M.cellL (k := 0) rfl rfl)) rfl ?_; clear F a; intro a F
 refine rl_guard_t F rfl rfl rfl (not_f (decide_eq_true rfl)) ?_
 refine rl_run F (run_lenSl tok28.k (F.ev rfl)) rfl ?_; clear F a; intro a F
 refine rl_guard_t F rfl rfl rfl (not_f (decide_eq_true rfl)) ?_
 refine rl_run F (run_nei (F.ev rfl) (F.ev rfl)) rfl ?_; clear F a; intro a F
 refine rl_run F (run_pick_f (F.ev rfl) (not_f (decide_eq_true rfl)) (F.ev rfl)) rfl ?_; clear F a; intro a F
 refine rl_nil <| q_tn <| w_cond_f F rfl (not_f (decide_eq_true rfl)) ?_
 refine wp_skip <| q_tn ?_
 iterate 2 (refine wp_seq ?_)
 refine w_reg <| rl_run F (run_assign (F.ev rfl)) rfl ?_; clear F a; intro a F
 refine rl_nil <| q_tn <| wp_block <| w_loopN (fun m a' w' => ∃ (i : Nat), m = x.kids.length - i ∧ Fits 34 a' [(1, .pointer (some ⟨b1, 0, none⟩)), (3, .int .i64 (((i : Nat) : Int)))] ∧ Mem w0 G (.blk b1 [.int .u8 (x.kind), .string (str (x.tag)), .string (str (x.key)), .slice (ta) (x.as.length) (x.as.length), .string (str (x.text)), .slice (ka) (x.kids.length) (x.kids.length)] 30 :: L) w' ∧ (i ≤ x.kids.length)) _ ⟨0, rfl, F.to ⟨rfl, rfl, trivial⟩, M, Nat.zero_le _⟩ ?_
 clear F M
 rintro m a w ⟨i, rfl, F, M, hi⟩
 iterate 2 (refine wp_seq ?_)
 refine w_reg <| rl_run F (run_move (F.ev rfl)) rfl ?_; clear F a; intro a F
 refine rl_run F (run_fieldAddr tok30.k rfl rfl (F.ev rfl)) rfl ?_; clear F a; intro a F
 refine rl_run F (run_load1 (agf tok28 rfl) (F.ev rfl) (M.cellL (k := 0) rfl rfl)) rfl ?_; clear F a; intro a F
 refine rl_run F (run_lenSl tok28.k (F.ev rfl)) rfl ?_; clear F a; intro a F
 refine rl_run F (run_lss (F.ev rfl) (F.ev rfl)) rfl ?_; clear F a; intro a F
 refine rl_nil <| q_tn <| w_cond F rfl ?_ ?_
 ·intro hc
  have h2b := hc; clear hc
  have h2 : ((i : Nat) : Int) < ((x.kids.length : Nat) : Int) := of_decide_eq_true h2b
  refine wp_skip <| q_tn <| wp_seq <| wp_block <| wp_seq <| w_reg <| rl_run F (run_fieldAddr tok30.k rfl rfl (F.ev rfl)) rfl ?_; clear F a; intro a F
  refine rl_run F (run_load1 (agf tok28 rfl) (F.ev rfl) (M.cellL (k := 0) rfl rfl)) rfl ?_; clear F a; intro a F
  refine rl_run F (run_move (F.ev rfl)) rfl ?_; clear F a; intro a F
  obtain ⟨Xe3, hXe3⟩ := get_of_lt (xs := x.kids) (i := i) (by omega)
  obtain ⟨be3, oe3, _, Ie3, _, Ae3, hTe3⟩ := SK.at hXe3
  obtain ⟨tae3, kae3, rfl, hke3, hle3, SAe3, SKe3⟩ := rdNE_open hTe3
  refine rl_run F (run_indexI tok28.k tok30 (F.ev rfl) (F.ev rfl) (by omega) Ie3) rfl ?_; clear F a; intro a F
  refine rl_run F (run_loadA tok30 rfl (F.ev rfl) (cs := [.int .u8 (Xe3.kind), .string (str (Xe3.tag)), .string (str (Xe3.key)), .slice (tae3) (Xe3.as.length) (Xe3.as.length), .string (str (Xe3.text)), .slice (kae3) (Xe3.kids.length) (Xe3.kids.length)]) rfl (M.cellsA Ae3 0 (by omega) rfl)) rfl ?_; clear F a; intro a F
  refine rl_callS F ent19 rfl rfl (ih Xe3 (List.mem_of_getElem? hXe3) _ _ _ _ _ _ M SAe3 SKe3) ?_; clear F M a; rintro _ w a M rfl F
  refine rl_run F (run_eqi (F.ev rfl) (F.ev rfl)) rfl ?_; clear F a; intro a F
  refine rl_nil <| q_tn <| w_cond_f F rfl (decide_eq_false (by decide)) ?_
  refine wp_skip <| q_bn <| q_tn <| w_reg <| rl_run F (run_move (F.ev rfl)) rfl ?_; clear F a; intro a F
  refine rl_run F (run_addi (F.ev rfl) (F.ev rfl) (in_i64 (by omega) (by omega))) rfl ?_; clear F a; intro a F
  refine rl_run F (run_assign (F.ev rfl)) rfl ?_; clear F a; intro a F
  refine rl_nil <| q_tn ?_
  exact ⟨_, by omega, i + 1, rfl, F.to ⟨rfl, rfl, trivial⟩, M, by omega⟩
 ·intro hc
  have h4b := hc; clear hc
  have h4 : ¬ (((i : Nat) : Int) < ((x.kids.length : Nat) : Int)) := of_decide_eq_false h4b
  refine wp_exit ?_
  iterate 2 (refine q_te ?_)
  refine q_bh <| q_tn <| wp_seq <| w_reg <| rl_run F (run_assign (F.ev rfl)) rfl ?_; clear F a; intro a F
  refine rl_nil <| q_tn <| wp_ret <| fin1 F rfl rfl ?_
  exact ⟨M.weaken (.cons _ (List.Sublist.refl _)), by rfl⟩
theorem nown_all (x : NT) : OwnN x := by
 induction x using Tr.ind with
 | _ x ih => intro w0 w G L ta ka M SA SK; exact nown_step ih M SA SK
end Go.Proofs.YtlnehkjmmegkhaaGreat
