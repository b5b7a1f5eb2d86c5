/- The walks, part N. -/
import Derived.Test.YtlnehkjmmegkhaaGreatWalkM
namespace Go.Proofs.YtlnehkjmmegkhaaGreat
open Go Go.Y Go.Proofs
set_option linter.unusedSimpArgs false
set_option linter.unusedVariables false
def EqP (x : NT) : Prop := ∀ (u : NT) (w0 w : World) (G : Ghost) (L : List Res) (ta ka tau kau : Option Addr) (tc kc tcu kcu : Nat), Mem w0 G L w → RdSl rdAttr 2 G (.slice ta x.as.length tc) x.as → RdSl rdN 6 G (.slice ka x.kids.length kc) x.kids → RdSl rdAttr 2 G (.slice tau u.as.length tcu) u.as → RdSl rdN 6 G (.slice kau u.kids.length kcu) u.kids →
  Calls Tryz.prog 58 #[.agg #[.int .u8 (x.kind), .string (str (x.tag)), .string (str (x.key)), .slice (ta) (x.as.length) (tc), .string (str (x.text)), .slice (ka) (x.kids.length) (kc)], .agg #[.int .u8 (u.kind), .string (str (u.tag)), .string (str (u.key)), .slice (tau) (u.as.length) (tcu), .string (str (u.text)), .slice (kau) (u.kids.length) (kcu)]] w (RetS w0 G L fun v => v = .int .i64 (eqF x u))
theorem eq_step {x : NT} (ih : ∀ y ∈ x.kids, EqP y) {u : NT} {w0 w : World} {G : Ghost} {L : List Res} (M : Mem w0 G L w) {ta ka tau kau : Option Addr} {tc kc tcu kcu : Nat} (SA : RdSl rdAttr 2 G (.slice ta x.as.length tc) x.as) (SK : RdSl rdN 6 G (.slice ka x.kids.length kc) x.kids) (SAu : RdSl rdAttr 2 G (.slice tau u.as.length tcu) u.as) (SKu : RdSl rdN 6 G (.slice kau u.kids.length kcu) u.kids) :
  Calls Tryz.prog 58 #[.agg #[.int .u8 (x.kind), .string (str (x.tag)), .string (str (x.key)), .slice (ta) (x.as.length) (tc), .string (str (x.text)), .slice (ka) (x.kids.length) (kc)], .agg #[.int .u8 (u.kind), .string (str (u.tag)), .string (str (u.key)), .slice (tau) (u.as.length) (tcu), .string (str (u.text)), .slice (kau) (u.kids.length) (kcu)]] w (RetS w0 G L fun v => v = .int .i64 (eqF x u)) := by
 refine calls_start (vs := [_, _]) Tryz.func58 rfl (n := 88) rfl rfl ?_
 intro a F
 refine wp_seq <| w_reg <| rl_box F M rfl (cs := [.int .u8 (x.kind), .string (str (x.tag)), .string (str (x.key)), .slice (ta) (x.as.length) (tc), .string (str (x.text)), .slice (ka) (x.kids.length) (kc)]) rfl rfl ?_; clear F M a; intro b1 w a M F
 refine rl_box F M rfl (cs := [.int .u8 (u.kind), .string (str (u.tag)), .string (str (u.key)), .slice (tau) (u.as.length) (tcu), .string (str (u.text)), .slice (kau) (u.kids.length) (kcu)]) rfl rfl ?_; clear F M a; intro b2 w a M F
 refine rl_run F (run_assign (F.ev rfl)) rfl ?_; clear F a; intro a F
 refine rl_nil <| q_tn ?_
 iterate 2 (refine wp_seq ?_)
 refine w_reg <| rl_run F (run_fieldAddr tok30.k rfl rfl (F.ev rfl)) rfl ?_; clear F a; intro a F
 refine rl_run F (run_load1 (agf tok5 rfl) (F.ev rfl) (M.cellL (k := 1) rfl rfl)) rfl ?_; clear F a; intro a F
 refine rl_run F (run_fieldAddr tok30.k rfl rfl (F.ev rfl)) rfl ?_; clear F a; intro a F
 refine rl_run F (run_load1 (agf tok5 rfl) (F.ev rfl) (M.cellL (k := 0) rfl rfl)) rfl ?_; clear F a; intro a F
 refine rl_run F (run_nei (F.ev rfl) (F.ev rfl)) rfl ?_; clear F a; intro a F
 refine rl_run F (run_move (F.ev rfl)) rfl ?_; clear F a; intro a F
 rcases Bool.eq_false_or_eq_true (!(decide (x.kind = u.kind))) with hc | hc
 ·skip
  have h3b := hc; clear hc
  have h3 : ¬ (x.kind = u.kind) := of_decide_eq_false (of_not_t h3b)
  have h3c : (decide (x.kind = u.kind)) = false := (of_not_t h3b)
  iterate 5 (refine rl_guard_f F rfl rfl rfl (not_t h3c) ?_; clear F a; intro a F)
  refine rl_run F (run_pick_t (F.ev rfl) (not_t h3c) (F.ev rfl)) rfl ?_; clear F a; intro a F
  refine rl_run F (run_move (F.ev rfl)) rfl ?_; clear F a; intro a F
  iterate 5 (refine rl_guard_f F rfl rfl rfl rfl ?_; clear F a; intro a F)
  refine rl_run F (run_pick_t (F.ev rfl) rfl (F.ev rfl)) rfl ?_; clear F a; intro a F
  refine rl_run F (run_move (F.ev rfl)) rfl ?_; clear F a; intro a F
  iterate 5 (refine rl_guard_f F rfl rfl rfl rfl ?_; clear F a; intro a F)
  refine rl_run F (run_pick_t (F.ev rfl) rfl (F.ev rfl)) rfl ?_; clear F a; intro a F
  refine rl_run F (run_move (F.ev rfl)) rfl ?_; clear F a; intro a F
  iterate 7 (refine rl_guard_f F rfl rfl rfl rfl ?_; clear F a; intro a F)
  refine rl_run F (run_pick_t (F.ev rfl) rfl (F.ev rfl)) rfl ?_; clear F a; intro a F
  refine rl_run F (run_move (F.ev rfl)) rfl ?_; clear F a; intro a F
  iterate 7 (refine rl_guard_f F rfl rfl rfl rfl ?_; clear F a; intro a F)
  refine rl_run F (run_pick_t (F.ev rfl) rfl (F.ev rfl)) rfl ?_; clear F a; intro a F
  refine rl_nil <| q_tn <| w_cond_t F rfl rfl ?_
  refine wp_seq <| w_reg <| rl_run F (run_assign (F.ev rfl)) rfl ?_; clear F a; intro a F
  refine rl_nil <| q_tn <| wp_ret <| q_tr <| fin1 F rfl rfl ?_
  exact ⟨M.weaken (.cons _ (.cons _ (List.Sublist.refl _))), by rw [eqF_no ((by rintro rfl; first | (exact absurd rfl (by assumption)) | omega))]⟩
 ·skip
  have h4b := hc; clear hc
  have h4 : x.kind = u.kind := of_decide_eq_true (of_not_f h4b)
  have h4c : (decide (x.kind = u.kind)) = true := (of_not_f h4b)
  refine rl_guard_t F rfl rfl rfl (not_f h4c) ?_
  refine rl_run F (run_fieldAddr tok30.k rfl rfl (F.ev rfl)) rfl ?_; clear F a; intro a F
  refine rl_guard_t F rfl rfl rfl (not_f h4c) ?_
  refine rl_run F (run_load1 (agf tok9 rfl) (F.ev rfl) (M.cellL (k := 1) rfl rfl)) rfl ?_; clear F a; intro a F
  refine rl_guard_t F rfl rfl rfl (not_f h4c) ?_
  refine rl_run F (run_fieldAddr tok30.k rfl rfl (F.ev rfl)) rfl ?_; clear F a; intro a F
  refine rl_guard_t F rfl rfl rfl (not_f h4c) ?_
  refine rl_run F (run_load1 (agf tok9 rfl) (F.ev rfl) (M.cellL (k := 0) rfl rfl)) rfl ?_; clear F a; intro a F
  refine rl_guard_t F rfl rfl rfl (not_f h4c) ?_
  refine rl_run F (run_strNe (F.ev rfl) (F.ev rfl)) rfl ?_; clear F a; intro a F
  refine rl_run F (run_pick_f (F.ev rfl) (not_f h4c) (F.ev rfl)) rfl ?_; clear F a; intro a F
  refine rl_run F (run_move (F.ev rfl)) rfl ?_; clear F a; intro a F
  rcases Bool.eq_false_or_eq_true (!(decide (x.tag = u.tag))) with hc | hc
  ·skip
   have h5b := hc; clear hc
   have h5 : ¬ (x.tag = u.tag) := of_decide_eq_false (of_not_t h5b)
   have h5c : (decide (x.tag = u.tag)) = false := (of_not_t h5b)
   iterate 5 (refine rl_guard_f F rfl rfl rfl (not_t h5c) ?_; clear F a; intro a F)
   refine rl_run F (run_pick_t (F.ev rfl) (not_t h5c) (F.ev rfl)) rfl ?_; clear F a; intro a F
   refine rl_run F (run_move (F.ev rfl)) rfl ?_; clear F a; intro a F
   iterate 5 (refine rl_guard_f F rfl rfl rfl rfl ?_; clear F a; intro a F)
   refine rl_run F (run_pick_t (F.ev rfl) rfl (F.ev rfl)) rfl ?_; clear F a; intro a F
   refine rl_run F (run_move (F.ev rfl)) rfl ?_; clear F a; intro a F
   iterate 7 (refine rl_guard_f F rfl rfl rfl rfl ?_; clear F a; intro a F)
   refine rl_run F (run_pick_t (F.ev rfl) rfl (F.ev rfl)) rfl ?_; clear F a; intro a F
   refine rl_run F (run_move (F.ev rfl)) rfl ?_; clear F a; intro a F
   iterate 7 (refine rl_guard_f F rfl rfl rfl rfl ?_; clear F a; intro a F)
   refine rl_run F (run_pick_t (F.ev rfl) rfl (F.ev rfl)) rfl ?_; clear F a; intro a F
   refine rl_nil <| q_tn <| w_cond_t F rfl rfl ?_
   refine wp_seq <| w_reg <| rl_run F (run_assign (F.ev rfl)) rfl ?_; clear F a; intro a F
   refine rl_nil <| q_tn <| wp_ret <| q_tr <| fin1 F rfl rfl ?_
   exact ⟨M.weaken (.cons _ (.cons _ (List.Sublist.refl _))), by rw [eqF_no ((by rintro rfl; first | (exact absurd rfl (by assumption)) | omega))]⟩
  ·skip
   have h6b := hc; clear hc
   have h6 : x.tag = u.tag := of_decide_eq_true (of_not_f h6b)
   have h6c : (decide (x.tag = u.tag)) = true := (of_not_f h6b)
   refine rl_guard_t F rfl rfl rfl (not_f h6c) ?_
   refine rl_run F (run_fieldAddr tok30.k rfl rfl (F.ev rfl)) rfl ?_; clear F a; intro a F
   refine rl_guard_t F rfl rfl rfl (not_f h6c) ?_
   refine rl_run F (run_load1 (agf tok9 rfl) (F.ev rfl) (M.cellL (k := 1) rfl rfl)) rfl ?_; clear F a; intro a F
   refine rl_guard_t F rfl rfl rfl (not_f h6c) ?_
   refine rl_run F (run_fieldAddr tok30.k rfl rfl (F.ev rfl)) rfl ?_; clear F a; intro a F
   refine rl_guard_t F rfl rfl rfl (not_f h6c) ?_
   refine rl_run F (run_load1 (agf tok9 rfl) (F.ev rfl) (M.cellL (k := 0) rfl rfl)) rfl ?_; clear F a; intro a F
   refine rl_guard_t F rfl rfl rfl (not_f h6c) ?_
   refine rl_run F (run_strNe (F.ev rfl) (F.ev rfl)) rfl ?_; clear F a; intro a F
   refine rl_run F (run_pick_f (F.ev rfl) (not_f h6c) (F.ev rfl)) rfl ?_; clear F a; intro a F
   refine rl_run F (run_move (F.ev rfl)) rfl ?_; clear F a; intro a F
   rcases Bool.eq_false_or_eq_true (!(decide (x.key = u.key))) with hc | hc
   ·skip
    have h7b := hc; clear hc
    have h7 : ¬ (x.key = u.key) := of_decide_eq_false (of_not_t h7b)
    have h7c : (decide (x.key = u.key)) = false := (of_not_t h7b)
    iterate 5 (refine rl_guard_f F rfl rfl rfl (not_t h7c) ?_; clear F a; intro a F)
    refine rl_run F (run_pick_t (F.ev rfl) (not_t h7c) (F.ev rfl)) rfl ?_; clear F a; intro a F
    refine rl_run F (run_move (F.ev rfl)) rfl ?_; clear F a; intro a F
    iterate 7 (refine rl_guard_f F rfl rfl rfl rfl ?_; clear F a; intro a F)
    refine rl_run F (run_pick_t (F.ev rfl) rfl (F.ev rfl)) rfl ?_; clear F a; intro a F
    refine rl_run F (run_move (F.ev rfl)) rfl ?_; clear F a; intro a F
    iterate 7 (refine rl_guard_f F rfl rfl rfl rfl ?_; clear F a; intro a F)
    refine rl_run F (run_pick_t (F.ev rfl) rfl (F.ev rfl)) rfl ?_; clear F a; intro a F
    refine rl_nil <| q_tn <| w_cond_t F rfl rfl ?_
    refine wp_seq <| w_reg <| rl_run F (run_assign (F.ev rfl)) rfl ?_; clear F a; intro a F
    refine rl_nil <| q_tn <| wp_ret <| q_tr <| fin1 F rfl rfl ?_
    exact ⟨M.weaken (.cons _ (.cons _ (List.Sublist.refl _))), by rw [eqF_no ((by rintro rfl; first | (exact absurd rfl (by assumption)) | omega))]⟩
   ·skip
    have h8b := hc; clear hc
    have h8 : x.key = u.key := of_decide_eq_true (of_not_f h8b)
    have h8c : (decide (x.key = u.key)) = true := (of_not_f h8b)
    refine rl_guard_t F rfl rfl rfl (not_f h8c) ?_
    refine rl_run F (run_fieldAddr tok30.k rfl rfl (F.ev rfl)) rfl ?_; clear F a; intro a F
    refine rl_guard_t F rfl rfl rfl (not_f h8c) ?_
    refine rl_run F (run_load1 (agf tok9 rfl) (F.ev rfl) (M.cellL (k := 1) rfl rfl)) rfl ?_; clear F a; intro a F
    refine rl_guard_t F rfl rfl rfl (not_f h8c) ?_
    refine rl_run F (run_fieldAddr tok30.k rfl rfl (F.ev rfl)) rfl ?_; clear F a; intro a F
    refine rl_guard_t F rfl rfl rfl (not_f h8c) ?_
    refine rl_run F (run_load1 (agf tok9 rfl) (F.ev rfl) (M.cellL (k := 0) rfl rfl)) rfl ?_; clear F a; intro a F
    refine rl_guard_t F rfl rfl rfl (not_f h8c) ?_
    refine rl_run F (run_strNe (F.ev rfl) (F.ev rfl)) rfl ?_; clear F a; intro a F
    refine rl_run F (run_pick_f (F.ev rfl) (not_f h8c) (F.ev rfl)) rfl ?_; clear F a; intro a F
    refine rl_run F (run_move (F.ev rfl)) rfl ?_; clear F a; intro a F
    rcases Bool.eq_false_or_eq_true (!(decide (x.text = u.text))) with hc | hc
    ·skip
     have h9b := hc; clear hc
     have h9 : ¬ (x.text = u.text) := of_decide_eq_false (of_not_t h9b)
     have h9c : (decide (x.text = u.text)) = false := (of_not_t h9b)
     iterate 7 (refine rl_guard_f F rfl rfl rfl (not_t h9c) ?_; clear F a; intro a F)
     refine rl_run F (run_pick_t (F.ev rfl) (not_t h9c) (F.ev rfl)) rfl ?_; clear F a; intro a F
     refine rl_run F (run_move (F.ev rfl)) rfl ?_; clear F a; intro a F
     iterate 7 (refine rl_guard_f F rfl rfl rfl rfl ?_; clear F a; intro a F)
     refine rl_run F (run_pick_t (F.ev rfl) rfl (F.ev rfl)) rfl ?_; clear F a; intro a F
     refine rl_nil <| q_tn <| w_cond_t F rfl rfl ?_
     refine wp_seq <| w_reg <| rl_run F (run_assign (F.ev rfl)) rfl ?_; clear F a; intro a F
     refine rl_nil <| q_tn <| wp_ret <| q_tr <| fin1 F rfl rfl ?_
     exact ⟨M.weaken (.cons _ (.cons _ (List.Sublist.refl _))), by rw [eqF_no ((by rintro rfl; first | (exact absurd rfl (by assumption)) | omega))]⟩
    ·skip
     have h10b := hc; clear hc
     have h10 : x.text = u.text := of_decide_eq_true (of_not_f h10b)
     have h10c : (decide (x.text = u.text)) = true := (of_not_f h10b)
     refine rl_guard_t F rfl rfl rfl (not_f h10c) ?_
     refine rl_run F (run_fieldAddr tok30.k rfl rfl (F.ev rfl)) rfl ?_; clear F a; intro a F
     refine rl_guard_t F rfl rfl rfl (not_f h10c) ?_
     refine rl_run F (run_load1 (agf tok27 rfl) (F.ev rfl) (M.cellL (k := 1) rfl rfl)) rfl ?_; clear F a; intro a F
     refine rl_guard_t F rfl rfl rfl (not_f h10c) ?_
     refine rl_run F (run_lenSl tok27.k (F.ev rfl)) rfl ?_; clear F a; intro a F
     refine rl_guard_t F rfl rfl rfl (not_f h10c) ?_
     refine rl_run F (run_fieldAddr tok30.k rfl rfl (F.ev rfl)) rfl ?_; clear F a; intro a F
     refine rl_guard_t F rfl rfl rfl (not_f h10c) ?_
     refine rl_run F (run_load1 (agf tok27 rfl) (F.ev rfl) (M.cellL (k := 0) rfl rfl)) rfl ?_; clear F a; intro a F
     refine rl_guard_t F rfl rfl rfl (not_f h10c) ?_
     refine rl_run F (run_lenSl tok27.k (F.ev rfl)) rfl ?_; clear F a; intro a F
     refine rl_guard_t F rfl rfl rfl (not_f h10c) ?_
     refine rl_run F (run_nei (F.ev rfl) (F.ev rfl)) rfl ?_; clear F a; intro a F
     refine rl_run F (run_pick_f (F.ev rfl) (not_f h10c) (F.ev rfl)) rfl ?_; clear F a; intro a F
     refine rl_run F (run_move (F.ev rfl)) rfl ?_; clear F a; intro a F
     rcases Bool.eq_false_or_eq_true (!(decide (((x.as.length : Nat) : Int) = ((u.as.length : Nat) : Int)))) with hc | hc
     ·skip
      have h11b := hc; clear hc
      have h11 : ¬ (((x.as.length : Nat) : Int) = ((u.as.length : Nat) : Int)) := of_decide_eq_false (of_not_t h11b)
      have h11c : (decide (((x.as.length : Nat) : Int) = ((u.as.length : Nat) : Int))) = false := (of_not_t h11b)
      iterate 7 (refine rl_guard_f F rfl rfl rfl (not_t h11c) ?_; clear F a; intro a F)
      refine rl_run F (run_pick_t (F.ev rfl) (not_t h11c) (F.ev rfl)) rfl ?_; clear F a; intro a F
      refine rl_nil <| q_tn <| w_cond_t F rfl rfl ?_
      refine wp_seq <| w_reg <| rl_run F (run_assign (F.ev rfl)) rfl ?_; clear F a; intro a F
      refine rl_nil <| q_tn <| wp_ret <| q_tr <| fin1 F rfl rfl ?_
      exact ⟨M.weaken (.cons _ (.cons _ (List.Sublist.refl _))), by rw [eqF_no ((by rintro rfl; first | (exact absurd rfl (by assumption)) | omega))]⟩
     ·skip
      have h12b := hc; clear hc
      have h12 : ((x.as.length : Nat) : Int) = ((u.as.length : Nat) : Int) := of_decide_eq_true (of_not_f h12b)
      have h12c : (decide (((x.as.length : Nat) : Int) = ((u.as.length : Nat) : Int))) = true := (of_not_f h12b)
      refine rl_guard_t F rfl rfl rfl (not_f h12c) ?_
      refine rl_run F (run_fieldAddr tok30.k rfl rfl (F.ev rfl)) rfl ?_; clear F a; intro a F
      refine rl_guard_t F rfl rfl rfl (not_f h12c) ?_
      refine rl_run F (run_load1 (agf tok28 rfl) (F.ev rfl) (M.cellL (k := 1) rfl rfl)) rfl ?_; clear F a; intro a F
      refine rl_guard_t F rfl rfl rfl (not_f h12c) ?_
      refine rl_run F (run_lenSl tok28.k (F.ev rfl)) rfl ?_; clear F a; intro a F
      refine rl_guard_t F rfl rfl rfl (not_f h12c) ?_
      refine rl_run F (run_fieldAddr tok30.k rfl rfl (F.ev rfl)) rfl ?_; clear F a; intro a F
      refine rl_guard_t F rfl rfl rfl (not_f h12c) ?_
      refine rl_run F (run_load1 (agf tok28 rfl) (F.ev rfl) (M.cellL (k := 0) rfl rfl)) rfl ?_; clear F a; intro a F
      refine rl_guard_t F rfl rfl rfl (not_f h12c) ?_
      refine rl_run F (run_lenSl tok28.k (F.ev rfl)) rfl ?_; clear F a; intro a F
      refine rl_guard_t F rfl rfl rfl (not_f h12c) ?_
      refine rl_run F (run_nei (F.ev rfl) (F.ev rfl)) rfl ?_; clear F a; intro a F
      refine rl_run F (run_pick_f (F.ev rfl) (not_f h12c) (F.ev rfl)) rfl ?_; clear F a; intro a F
      refine rl_nil <| q_tn <| w_cond F rfl ?_ ?_
      ·intro hc
       have h13b := hc; clear hc
       have h13 : ¬ (((x.kids.length : Nat) : Int) = ((u.kids.length : Nat) : Int)) := of_decide_eq_false (of_not_t h13b)
       have h13c : (decide (((x.kids.length : Nat) : Int) = ((u.kids.length : Nat) : Int))) = false := (of_not_t h13b)
       refine wp_seq <| w_reg <| rl_run F (run_assign (F.ev rfl)) rfl ?_; clear F a; intro a F
       refine rl_nil <| q_tn <| wp_ret <| q_tr <| fin1 F rfl rfl ?_
       exact ⟨M.weaken (.cons _ (.cons _ (List.Sublist.refl _))), by rw [eqF_no ((by rintro rfl; first | (exact absurd rfl (by assumption)) | omega))]⟩
      ·intro hc
       have h14b := hc; clear hc
       have h14 : ((x.kids.length : Nat) : Int) = ((u.kids.length : Nat) : Int) := of_decide_eq_true (of_not_f h14b)
       have h14c : (decide (((x.kids.length : Nat) : Int) = ((u.kids.length : Nat) : Int))) = true := (of_not_f h14b)
       refine wp_skip <| q_tn ?_
       iterate 2 (refine wp_seq ?_)
       have bA := SA.bound
       have bK := SK.bound
       refine w_reg <| rl_run F (run_assign (F.ev rfl)) rfl ?_; clear F a; intro a F
       refine rl_nil <| q_tn <| wp_block <| w_loopN (fun m a' w' => ∃ (i : Nat), m = x.as.length - i ∧ Fits 88 a' [(2, .pointer (some ⟨b1, 0, none⟩)), (3, .pointer (some ⟨b2, 0, none⟩)), (5, .int .i64 (((i : Nat) : Int)))] ∧ Mem w0 G (.blk b2 [.int .u8 (u.kind), .string (str (u.tag)), .string (str (u.key)), .slice (tau) (u.as.length) (tcu), .string (str (u.text)), .slice (kau) (u.kids.length) (kcu)] 30 :: .blk b1 [.int .u8 (x.kind), .string (str (x.tag)), .string (str (x.key)), .slice (ta) (x.as.length) (tc), .string (str (x.text)), .slice (ka) (x.kids.length) (kc)] 30 :: L) w' ∧ (i ≤ x.as.length) ∧ (∀ (m : Nat) (a_ b_ : AttrD), m < i → x.as[m]? = some a_ → u.as[m]? = some b_ → a_ = b_)) _ ⟨0, rfl, F.to ⟨rfl, rfl, rfl, trivial⟩, M, Nat.zero_le _, fun m a_ b_ h => by omega⟩ ?_
       clear F M
       rintro m a w ⟨i, rfl, F, M, hi, hP⟩
       iterate 2 (refine wp_seq ?_)
       refine w_reg <| rl_run F (run_move (F.ev rfl)) rfl ?_; clear F a; intro a F
       refine rl_run F (run_fieldAddr tok30.k rfl rfl (F.ev rfl)) rfl ?_; clear F a; intro a F
       refine rl_run F (run_load1 (agf tok27 rfl) (F.ev rfl) (M.cellL (k := 1) rfl rfl)) rfl ?_; clear F a; intro a F
       refine rl_run F (run_lenSl tok27.k (F.ev rfl)) rfl ?_; clear F a; intro a F
       refine rl_run F (run_lss (F.ev rfl) (F.ev rfl)) rfl ?_; clear F a; intro a F
       refine rl_nil <| q_tn <| w_cond F rfl ?_ ?_
       ·intro hc
        have h15b := hc; clear hc
        have h15 : ((i : Nat) : Int) < ((x.as.length : Nat) : Int) := of_decide_eq_true h15b
        refine wp_skip <| q_tn <| wp_seq <| wp_block <| wp_seq <| w_plan [(true, 0), (true, 1), (true, 2), (true, 3), (true, 4), (true, 5), (true, 6), (true, 7), (true, 8), (true, 9), (true, 10)] (Keep G [.blk b2 [.int .u8 (u.kind), .string (str (u.tag)), .string (str (u.key)), .slice (tau) (u.as.length) (tcu), .string (str (u.text)), .slice (kau) (u.kids.length) (kcu)] 30, .blk b1 [.int .u8 (x.kind), .string (str (x.tag)), .string (str (x.key)), .slice (ta) (x.as.length) (tc), .string (str (x.text)), .slice (ka) (x.kids.length) (kc)] 30]) rfl (by kernel_rfl) (fun c a d v w h => by cases d <;> exact h) ((M.drew _).keep (Gle.refl _) (by simp)) ?_
        replace M := M.drew (w.drawn + 1)
        refine pl_run F (fun w M => run_fieldAddr tok30.k rfl rfl (F.ev rfl)) rfl ?_; clear F a; intro a F
        refine pl_run F (fun w M => run_load1 (agf tok27 rfl) (F.ev rfl) (M.cellL (k := 1) rfl rfl)) rfl ?_; clear F a; intro a F
        refine pl_run F (fun w M => run_move (F.ev rfl)) rfl ?_; clear F a; intro a F
        obtain ⟨Xe16, hXe16⟩ := get_of_lt (xs := x.as) (i := i) (by omega)
        obtain ⟨be16, oe16, _, Ie16, _, Ae16, ⟨rfl, hn1e16, hv1e16⟩⟩ := SA.at hXe16
        refine pl_run F (fun w M => run_indexI tok27.k tok87 (F.ev rfl) (F.ev rfl) (by omega) Ie16) rfl ?_; clear F a; intro a F
        refine pl_run F (fun w M => run_loadA tok87 rfl (F.ev rfl) (cs := [.string (str (Xe16.n)), .string (str (Xe16.v))]) rfl (M.cellsA Ae16 0 (by omega) rfl)) rfl ?_; clear F a; intro a F
        refine pl_run F (fun w M => run_fieldAddr tok30.k rfl rfl (F.ev rfl)) rfl ?_; clear F a; intro a F
        refine pl_run F (fun w M => run_load1 (agf tok27 rfl) (F.ev rfl) (M.cellL (k := 0) rfl rfl)) rfl ?_; clear F a; intro a F
        refine pl_run F (fun w M => run_move (F.ev rfl)) rfl ?_; clear F a; intro a F
        obtain ⟨Xe17, hXe17⟩ := get_of_lt (xs := u.as) (i := i) (by omega)
        obtain ⟨be17, oe17, _, Ie17, _, Ae17, ⟨rfl, hn1e17, hv1e17⟩⟩ := SAu.at hXe17
        refine pl_run F (fun w M => run_indexI tok27.k tok87 (F.ev rfl) (F.ev rfl) (by omega) Ie17) rfl ?_; clear F a; intro a F
        refine pl_run F (fun w M => run_loadA tok87 rfl (F.ev rfl) (cs := [.string (str (Xe17.n)), .string (str (Xe17.v))]) rfl (M.cellsA Ae17 0 (by omega) rfl)) rfl ?_; clear F a; intro a F
        refine pl_run F (fun w M => run_ne2s (t1 := 9) (t2 := 9) (by kernel_rfl) (by kernel_rfl) (by kernel_rfl) (by kernel_rfl) tok9.k tok9.k (F.ev rfl) (F.ev rfl)) rfl ?_; clear F a; intro a F
        refine pl_nil ?_
        generalize ({ w with drawn := w.drawn + 1 } : World) = w at M ⊢
        refine q_tn <| w_cond F rfl ?_ ?_
        ·intro hc
         have h18b := hc; clear hc
         have h18 : ¬ (Xe16.n = Xe17.n ∧ Xe16.v = Xe17.v) := of_decide_eq_false (of_not_t h18b)
         have h18c : (decide (Xe16.n = Xe17.n ∧ Xe16.v = Xe17.v)) = false := (of_not_t h18b)
         refine wp_seq <| w_reg <| rl_run F (run_assign (F.ev rfl)) rfl ?_; clear F a; intro a F
         refine rl_nil <| q_tn <| wp_ret <| q_br ?_
         iterate 2 (refine q_tr ?_)
         refine q_br <| q_tr <| fin1 F rfl rfl ?_
         exact ⟨M.weaken (.cons _ (.cons _ (List.Sublist.refl _))), by rw [eqF_no (as_ne hXe16 hXe17 (by assumption))]⟩
        ·intro hc
         have h19b := hc; clear hc
         have h19 : Xe16.n = Xe17.n ∧ Xe16.v = Xe17.v := of_decide_eq_true (of_not_f h19b)
         have h19c : (decide (Xe16.n = Xe17.n ∧ Xe16.v = Xe17.v)) = true := (of_not_f h19b)
         refine wp_skip <| q_bn <| q_tn <| w_reg <| rl_run F (run_move (F.ev rfl)) rfl ?_; clear F a; intro a F
         refine rl_run F (run_addi (F.ev rfl) (F.ev rfl) (in_i64 (by omega) (by omega))) rfl ?_; clear F a; intro a F
         refine rl_run F (run_assign (F.ev rfl)) rfl ?_; clear F a; intro a F
         refine rl_nil <| q_tn ?_
         exact ⟨_, by omega, i + 1, rfl, F.to ⟨rfl, rfl, rfl, trivial⟩, M, by omega, pair_snoc hP hXe16 hXe17 (attr_eq (by assumption))⟩
       ·intro hc
        have h20b := hc; clear hc
        have h20 : ¬ (((i : Nat) : Int) < ((x.as.length : Nat) : Int)) := of_decide_eq_false h20b
        refine wp_exit ?_
        iterate 2 (refine q_te ?_)
        refine q_bh <| q_tn ?_
        iterate 2 (refine wp_seq ?_)
        refine w_reg <| rl_run F (run_assign (F.ev rfl)) rfl ?_; clear F a; intro a F
        refine rl_nil <| q_tn <| wp_block <| w_loopN (fun m a' w' => ∃ (j : Nat), m = x.kids.length - j ∧ Fits 88 a' [(2, .pointer (some ⟨b1, 0, none⟩)), (3, .pointer (some ⟨b2, 0, none⟩)), (6, .int .i64 (((j : Nat) : Int)))] ∧ Mem w0 G (.blk b2 [.int .u8 (u.kind), .string (str (u.tag)), .string (str (u.key)), .slice (tau) (u.as.length) (tcu), .string (str (u.text)), .slice (kau) (u.kids.length) (kcu)] 30 :: .blk b1 [.int .u8 (x.kind), .string (str (x.tag)), .string (str (x.key)), .slice (ta) (x.as.length) (tc), .string (str (x.text)), .slice (ka) (x.kids.length) (kc)] 30 :: L) w' ∧ (j ≤ x.kids.length) ∧ (∀ (m : Nat) (a_ b_ : NT), m < j → x.kids[m]? = some a_ → u.kids[m]? = some b_ → a_ = b_)) _ ⟨0, rfl, F.to ⟨rfl, rfl, rfl, trivial⟩, M, Nat.zero_le _, fun m a_ b_ h => by omega⟩ ?_
        clear F M
        rintro m a w ⟨j, rfl, F, M, hj, hQ⟩
        iterate 2 (refine wp_seq ?_)
        refine w_reg <| rl_run F (run_move (F.ev rfl)) rfl ?_; clear F a; intro a F
        refine rl_run F (run_fieldAddr tok30.k rfl rfl (F.ev rfl)) rfl ?_; clear F a; intro a F
        refine rl_run F (run_load1 (agf tok28 rfl) (F.ev rfl) (M.cellL (k := 1) rfl rfl)) rfl ?_; clear F a; intro a F
        refine rl_run F (run_lenSl tok28.k (F.ev rfl)) rfl ?_; clear F a; intro a F
        refine rl_run F (run_lss (F.ev rfl) (F.ev rfl)) rfl ?_; clear F a; intro a F
        refine rl_nil <| q_tn <| w_cond F rfl ?_ ?_
        ·intro hc
         have h21b := hc; clear hc
         have h21 : ((j : Nat) : Int) < ((x.kids.length : Nat) : Int) := of_decide_eq_true h21b
         refine wp_skip <| q_tn <| wp_seq <| wp_block <| wp_seq <| w_plan2 [(.free, 0), (.pure, 1), (.free, 2), (.free, 3), (.pure, 4), (.free, 5), (.pure, 6), (.free, 7), (.free, 8), (.pure, 9), (.keep, 10), (.free, 11)] [] (Keep G [.blk b2 [.int .u8 (u.kind), .string (str (u.tag)), .string (str (u.key)), .slice (tau) (u.as.length) (tcu), .string (str (u.text)), .slice (kau) (u.kids.length) (kcu)] 30, .blk b1 [.int .u8 (x.kind), .string (str (x.tag)), .string (str (x.key)), .slice (ta) (x.as.length) (tc), .string (str (x.text)), .slice (ka) (x.kids.length) (kc)] 30]) rfl (by kernel_rfl) (fun c a d v w h => by cases d <;> exact h) ((M.drew _).keep (Gle.refl _) (by simp)) ?_
         replace M := M.drew (w.drawn + 1)
         refine pk_free F (fun w _ => run_fieldAddr tok30.k rfl rfl (F.ev rfl)) rfl ?_; clear F a; intro a F
         refine pk_pure F (fun w M => run_load1 (agf tok28 rfl) (F.ev rfl) (M.cellL (k := 1) rfl rfl)) rfl ?_; clear F a; intro a F
         refine pk_free F (fun w _ => run_move (F.ev rfl)) rfl ?_; clear F a; intro a F
         obtain ⟨Xe22, hXe22⟩ := get_of_lt (xs := x.kids) (i := j) (by omega)
         obtain ⟨be22, oe22, _, Ie22, _, Ae22, hTe22⟩ := SK.at hXe22
         obtain ⟨tae22, tce22, kae22, kce22, rfl, hke22, hle22, SAe22, SKe22⟩ := rdT_open hTe22
         refine pk_free F (fun w _ => run_indexI tok28.k tok30 (F.ev rfl) (F.ev rfl) (by omega) Ie22) rfl ?_; clear F a; intro a F
         refine pk_pure F (fun w M => run_loadA tok30 rfl (F.ev rfl) (cs := [.int .u8 (Xe22.kind), .string (str (Xe22.tag)), .string (str (Xe22.key)), .slice (tae22) (Xe22.as.length) (tce22), .string (str (Xe22.text)), .slice (kae22) (Xe22.kids.length) (kce22)]) rfl (M.cellsA Ae22 0 (by omega) rfl)) rfl ?_; clear F a; intro a F
         refine pk_free F (fun w _ => run_fieldAddr tok30.k rfl rfl (F.ev rfl)) rfl ?_; clear F a; intro a F
         refine pk_pure F (fun w M => run_load1 (agf tok28 rfl) (F.ev rfl) (M.cellL (k := 0) rfl rfl)) rfl ?_; clear F a; intro a F
         refine pk_free F (fun w _ => run_move (F.ev rfl)) rfl ?_; clear F a; intro a F
         obtain ⟨Xe23, hXe23⟩ := get_of_lt (xs := u.kids) (i := j) (by omega)
         obtain ⟨be23, oe23, _, Ie23, _, Ae23, hTe23⟩ := SKu.at hXe23
         obtain ⟨tae23, tce23, kae23, kce23, rfl, hke23, hle23, SAe23, SKe23⟩ := rdT_open hTe23
         refine pk_free F (fun w _ => run_indexI tok28.k tok30 (F.ev rfl) (F.ev rfl) (by omega) Ie23) rfl ?_; clear F a; intro a F
         refine pk_pure F (fun w M => run_loadA tok30 rfl (F.ev rfl) (cs := [.int .u8 (Xe23.kind), .string (str (Xe23.tag)), .string (str (Xe23.key)), .slice (tae23) (Xe23.as.length) (tce23), .string (str (Xe23.text)), .slice (kae23) (Xe23.kids.length) (kce23)]) rfl (M.cellsA Ae23 0 (by omega) rfl)) rfl ?_; clear F a; intro a F
         refine pk_keep ?_ rfl
         refine rl_callS F ent58 rfl rfl (ih Xe22 (List.mem_of_getElem? hXe22) Xe23 _ _ _ _ _ _ _ _ _ _ _ _ M SAe22 SKe22 SAe23 SKe23) ?_; clear F M a; rintro _ w a M rfl F
         refine rl_nil <| ⟨Keep G [.blk b2 [.int .u8 (u.kind), .string (str (u.tag)), .string (str (u.key)), .slice (tau) (u.as.length) (tcu), .string (str (u.text)), .slice (kau) (u.kids.length) (kcu)] 30, .blk b1 [.int .u8 (x.kind), .string (str (x.tag)), .string (str (x.key)), .slice (ta) (x.as.length) (tc), .string (str (x.text)), .slice (ka) (x.kids.length) (kc)] 30], M.keep (Gle.refl _) (by simp), fun w h => h.mono (Gle.refl _) (by simp), ?_⟩
         refine pk_free F (fun w _ => run_eqi (F.ev rfl) (F.ev rfl)) rfl ?_; clear F a; intro a F
         refine pk_nil <| q_tn <| w_cond F rfl ?_ ?_
         ·intro hc
          have h24b := hc; clear hc
          have h24 : eqF Xe22 Xe23 = 0 := of_decide_eq_true h24b
          refine wp_seq <| w_reg <| rl_run F (run_assign (F.ev rfl)) rfl ?_; clear F a; intro a F
          refine rl_nil <| q_tn <| wp_ret <| q_br ?_
          iterate 2 (refine q_tr ?_)
          refine q_br <| q_tr <| fin1 F rfl rfl ?_
          exact ⟨M.weaken (.cons _ (.cons _ (List.Sublist.refl _))), by rw [eqF_no (kids_ne hXe22 hXe23 (eqF_zero.1 (by omega)))]⟩
         ·intro hc
          have h25b := hc; clear hc
          have h25 : ¬ (eqF Xe22 Xe23 = 0) := of_decide_eq_false h25b
          refine wp_skip <| q_bn <| q_tn <| w_reg <| rl_run F (run_move (F.ev rfl)) rfl ?_; clear F a; intro a F
          refine rl_run F (run_addi (F.ev rfl) (F.ev rfl) (in_i64 (by omega) (by omega))) rfl ?_; clear F a; intro a F
          refine rl_run F (run_assign (F.ev rfl)) rfl ?_; clear F a; intro a F
          refine rl_nil <| q_tn ?_
          exact ⟨_, by omega, j + 1, rfl, F.to ⟨rfl, rfl, rfl, trivial⟩, M, by omega, pair_snoc hQ hXe22 hXe23 (Classical.byContradiction fun h_ => by have := eqF_zero.2 h_; omega)⟩
        ·intro hc
         have h26b := hc; clear hc
         have h26 : ¬ (((j : Nat) : Int) < ((x.kids.length : Nat) : Int)) := of_decide_eq_false h26b
         refine wp_exit ?_
         iterate 2 (refine q_te ?_)
         refine q_bh <| q_tn <| wp_seq <| w_reg <| rl_run F (run_assign (F.ev rfl)) rfl ?_; clear F a; intro a F
         refine rl_nil <| q_tn <| wp_ret <| fin1 F rfl rfl ?_
         have e1_ := list_eq_of (l := x.as) (r := u.as) (by omega) (fun m a_ b_ ha hb => hP m a_ b_ (by have := lt_of_get ha; omega) ha hb)
         have e2_ := list_eq_of (l := x.kids) (r := u.kids) (by omega) (fun m a_ b_ ha hb => hQ m a_ b_ (by have := lt_of_get ha; omega) ha hb)
         exact ⟨M.weaken (.cons _ (.cons _ (List.Sublist.refl _))), by rw [eqF_yes (tree_eq (by omega) (by assumption) (by assumption) e1_ (by assumption) e2_)]⟩
theorem eq_all (x : NT) : EqP x := by
 induction x using Tr.ind with
 | _ x ih => intro u w0 w G L ta ka tau kau tc kc tcu kcu M SA SK SAu SKu; exact eq_step ih M SA SK SAu SKu
theorem rsame_spec {w0 w : World} {G : Ghost} {L : List Res} (M : Mem w0 G L w) {x : NT} {ta : Option Addr} {tc : Nat} {ka : Option Addr} {kc : Nat} (hk : inKind .u8 x.kind) (hl : (x.tag.length ≤ 9223372036854775807 ∧ x.key.length ≤ 9223372036854775807 ∧ x.text.length ≤ 9223372036854775807)) (SA : RdSl rdAttr 2 G (.slice ta x.as.length tc) x.as) (SK : RdSl rdN 6 G (.slice ka x.kids.length kc) x.kids) {u : NT} {tau : Option Addr} {tcu : Nat} {kau : Option Addr} {kcu : Nat} (hku : inKind .u8 u.kind) (hlu : (u.tag.length ≤ 9223372036854775807 ∧ u.key.length ≤ 9223372036854775807 ∧ u.text.length ≤ 9223372036854775807)) (SAu : RdSl rdAttr 2 G (.slice tau u.as.length tcu) u.as) (SKu : RdSl rdN 6 G (.slice kau u.kids.length kcu) u.kids) : Calls Tryz.prog 18 #[.agg #[.int .u8 (x.kind), .string (str (x.tag)), .string (str (x.key)), .slice (ta) (x.as.length) (tc), .string (str (x.text)), .slice (ka) (x.kids.length) (kc)], .agg #[.int .u8 (u.kind), .string (str (u.tag)), .string (str (u.key)), .slice (tau) (u.as.length) (tcu), .string (str (u.text)), .slice (kau) (u.kids.length) (kcu)]] w (RetS w0 G L fun v => v = .int .i64 (sameF x u)) := by
 refine calls_start (vs := [_, _]) Tryz.func18 rfl (n := 16) rfl rfl ?_
 intro a F
 refine wp_seq <| w_reg <| rl_box F M rfl (cs := [.int .u8 (x.kind), .string (str (x.tag)), .string (str (x.key)), .slice (ta) (x.as.length) (tc), .string (str (x.text)), .slice (ka) (x.kids.length) (kc)]) rfl rfl ?_; clear F M a; intro b1 w a M F
 refine rl_box F M rfl (cs := [.int .u8 (u.kind), .string (str (u.tag)), .string (str (u.key)), .slice (tau) (u.as.length) (tcu), .string (str (u.text)), .slice (kau) (u.kids.length) (kcu)]) rfl rfl ?_; clear F M a; intro b2 w a M F
 refine rl_run F (run_assign (F.ev rfl)) rfl ?_; clear F a; intro a F
 refine rl_nil <| q_tn ?_
 iterate 2 (refine wp_seq ?_)
 refine w_reg <| rl_run F (run_loadA tok30 rfl (F.ev rfl) (cs := [.int .u8 (x.kind), .string (str (x.tag)), .string (str (x.key)), .slice (ta) (x.as.length) (tc), .string (str (x.text)), .slice (ka) (x.kids.length) (kc)]) rfl (M.cellsL (k := 1) rfl rfl)) rfl ?_; clear F a; intro a F
 refine rl_callS F ent48 rfl rfl (rcheck_spec (x := x) M hk hl SA SK) ?_; clear F M a; rintro _ w a M rfl F
 refine rl_run F (run_nei (F.ev rfl) (F.ev rfl)) rfl ?_; clear F a; intro a F
 refine rl_run F (run_move (F.ev rfl)) rfl ?_; clear F a; intro a F
 rcases Bool.eq_false_or_eq_true (!(decide (chkF x = 0))) with hc | hc
 ·skip
  have h3b := hc; clear hc
  have h3 : ¬ (chkF x = 0) := of_decide_eq_false (of_not_t h3b)
  have h3c : (decide (chkF x = 0)) = false := (of_not_t h3b)
  iterate 3 (refine rl_guard_f F rfl rfl rfl (not_t h3c) ?_; clear F a; intro a F)
  refine rl_run F (run_pick_t (F.ev rfl) (not_t h3c) (F.ev rfl)) rfl ?_; clear F a; intro a F
  refine rl_nil <| q_tn <| w_cond_t F rfl rfl ?_
  refine wp_seq <| w_reg <| rl_run F (run_assign (F.ev rfl)) rfl ?_; clear F a; intro a F
  refine rl_nil <| q_tn <| wp_ret <| q_tr <| fin1 F rfl rfl ?_
  exact ⟨M.weaken (.cons _ (.cons _ (List.Sublist.refl _))), by rw [sameF_no (fun h_ => by have h1_ := chkF_yes h_.1; have h2_ := chkF_yes h_.2.1; omega)]⟩
 ·skip
  have h4b := hc; clear hc
  have h4 : chkF x = 0 := of_decide_eq_true (of_not_f h4b)
  have h4c : (decide (chkF x = 0)) = true := (of_not_f h4b)
  refine rl_guard_t F rfl rfl rfl (not_f h4c) ?_
  refine rl_run F (run_loadA tok30 rfl (F.ev rfl) (cs := [.int .u8 (u.kind), .string (str (u.tag)), .string (str (u.key)), .slice (tau) (u.as.length) (tcu), .string (str (u.text)), .slice (kau) (u.kids.length) (kcu)]) rfl (M.cellsL (k := 0) rfl rfl)) rfl ?_; clear F a; intro a F
  refine rl_guard_t F rfl rfl rfl (not_f h4c) ?_
  refine rl_callS F ent48 rfl rfl (rcheck_spec (x := u) M hku hlu SAu SKu) ?_; clear F M a; rintro _ w a M rfl F
  refine rl_guard_t F rfl rfl rfl (not_f h4c) ?_
  refine rl_run F (run_nei (F.ev rfl) (F.ev rfl)) rfl ?_; clear F a; intro a F
  refine rl_run F (run_pick_f (F.ev rfl) (not_f h4c) (F.ev rfl)) rfl ?_; clear F a; intro a F
  refine rl_nil <| q_tn <| w_cond F rfl ?_ ?_
  ·intro hc
   have h5b := hc; clear hc
   have h5 : ¬ (chkF u = 0) := of_decide_eq_false (of_not_t h5b)
   have h5c : (decide (chkF u = 0)) = false := (of_not_t h5b)
   refine wp_seq <| w_reg <| rl_run F (run_assign (F.ev rfl)) rfl ?_; clear F a; intro a F
   refine rl_nil <| q_tn <| wp_ret <| q_tr <| fin1 F rfl rfl ?_
   exact ⟨M.weaken (.cons _ (.cons _ (List.Sublist.refl _))), by rw [sameF_no (fun h_ => by have h1_ := chkF_yes h_.1; have h2_ := chkF_yes h_.2.1; omega)]⟩
  ·intro hc
   have h6b := hc; clear hc
   have h6 : chkF u = 0 := of_decide_eq_true (of_not_f h6b)
   have h6c : (decide (chkF u = 0)) = true := (of_not_f h6b)
   refine wp_skip <| q_tn <| wp_seq <| w_reg <| rl_run F (run_loadA tok30 rfl (F.ev rfl) (cs := [.int .u8 (x.kind), .string (str (x.tag)), .string (str (x.key)), .slice (ta) (x.as.length) (tc), .string (str (x.text)), .slice (ka) (x.kids.length) (kc)]) rfl (M.cellsL (k := 1) rfl rfl)) rfl ?_; clear F a; intro a F
   refine rl_run F (run_loadA tok30 rfl (F.ev rfl) (cs := [.int .u8 (u.kind), .string (str (u.tag)), .string (str (u.key)), .slice (tau) (u.as.length) (tcu), .string (str (u.text)), .slice (kau) (u.kids.length) (kcu)]) rfl (M.cellsL (k := 0) rfl rfl)) rfl ?_; clear F a; intro a F
   refine rl_callS F ent58 rfl rfl (eq_all x u _ _ _ _ _ _ _ _ _ _ _ _ M SA SK SAu SKu) ?_; clear F M a; rintro _ w a M rfl F
   refine rl_run F (run_assign (F.ev rfl)) rfl ?_; clear F a; intro a F
   refine rl_nil <| q_tn <| wp_ret <| fin1 F rfl rfl ?_
   have h1_ : Valid x := chkF_zero.1 (by omega)
   have h2_ : Valid u := chkF_zero.1 (by omega)
   exact ⟨M.weaken (.cons _ (.cons _ (List.Sublist.refl _))), by rw [sameF_eq h1_ h2_]⟩
end Go.Proofs.YtlnehkjmmegkhaaGreat
