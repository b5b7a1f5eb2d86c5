/- The walks, part ND. -/
import Derived.Test.YtlnehkjmmegkhaaGreatWalkNC
namespace Go.Proofs.YtlnehkjmmegkhaaGreat
open Go Go.Y Go.Proofs
set_option linter.unusedSimpArgs false
set_option linter.unusedVariables false
theorem keysNil : KeysOk [] := fun i j a b h ha => by simp at ha
theorem keysAdd {l : List NT} {x : NT} (h : KeysOk l) (hx : x.key = [] ∨ ∀ a ∈ l, a.key ≠ x.key) : KeysOk (l ++ [x]) := by
 intro i j a b hij ha hb hne
 have hj := lt_of_get hb
 rw [List.length_append, List.length_singleton] at hj
 rw [List.getElem?_append_left (by omega)] at ha
 rcases Nat.lt_or_ge j l.length with h1 | h1
 ·rw [List.getElem?_append_left h1] at hb; exact h i j a b hij ha hb hne
 ·have : j = l.length := by omega
  subst this
  have hb2 : x = b := by simpa using hb
  subst hb2
  rcases hx with hx | hx
  ·exact absurd hx hne
  ·exact hx a (List.mem_of_getElem? ha)
structure NsInv (d q0 q : Nat) (ps : List NT) : Prop where
 sz : Tr.sizes ps + q0 ≤ q
 ok : ∀ p ∈ ps, Tr.Ok Alone (d + 1) p
 keys : KeysOk ps
 le : ps.length ≤ 16
theorem NsInv.zero {d q : Nat} : NsInv d q q [] := ⟨by simp [Tr.sizes], by simp, keysNil, by simp⟩
theorem NsInv.add {d q0 q q' : Nat} {ps : List NT} (h : NsInv d q0 q ps) {p : NT} (hl : ¬ ps.length = 16) (hp : Tr.Ok Alone (d + 1) p) (hk : p.key = [] ∨ ∀ a ∈ ps, a.key ≠ p.key) (hs : p.size + q ≤ q') : NsInv d q0 q' (ps ++ [p]) :=
 ⟨by rw [Tr.sizes_append]; have := h.sz; simp only [Tr.sizes]; omega, fun c hc => by
  rcases List.mem_append.1 hc with hc | hc
  ·exact h.ok c hc
  ·rw [List.mem_singleton.1 hc]; exact hp, keysAdd h.keys hk, by rw [List.length_append, List.length_singleton]; have := h.le; omega⟩
theorem NsInv.one {d q0 q : Nat} {ps : List NT} (h : NsInv d q0 q ps) {p : NT} (hl : ¬ ps.length = 16) (hp : Tr.Ok Alone (d + 1) p) (hk : p.key = [] ∨ ∀ a ∈ ps, a.key ≠ p.key) (he : p.kids = []) : NsInv d q0 (q + 1) (ps ++ [p]) :=
 h.add hl hp hk (by rw [Tr.size_eq, he]; simp only [Tr.sizes]; omega)
open Classical in
noncomputable def zerF (x : NT) : Int := if x = zeroN then 1 else 0
theorem zerF_yes : zerF zeroN = 1 := by unfold zerF; rw [if_pos rfl]
theorem zerF_is {x : NT} (h1 : x.kind = 0) (h2 : x.tag = []) (h3 : x.key = []) (h4 : x.text = []) (h5 : ¬ 0 < (x.as.length : Int)) (h6 : ¬ 0 < (x.kids.length : Int)) : zerF x = 1 := by
 have : x = zeroN := tree_eq h1 h2 h3 (List.eq_nil_of_length_eq_zero (by omega)) h4 (List.eq_nil_of_length_eq_zero (by omega))
 unfold zerF; rw [if_pos this]
theorem zerF_no {x : NT} (h : ¬ x = zeroN) : zerF x = 0 := by unfold zerF; rw [if_neg h]
theorem nzero_spec {w0 w : World} {G : Ghost} {L : List Res} (M : Mem w0 G L w) {x : NT} {ta : Option Addr} {tc : Nat} {ka : Option Addr} {kc : Nat} (hk : inKind .u8 x.kind) (hl : (x.tag.length ≤ 9223372036854775807 ∧ x.key.length ≤ 9223372036854775807 ∧ x.text.length ≤ 9223372036854775807)) (SA : RdSl rdAttr 2 G (.slice ta x.as.length tc) x.as) (SK : RdSl rdN 6 G (.slice ka x.kids.length kc) x.kids) : Calls Tryz.prog 16 #[.agg #[.int .u8 (x.kind), .string (str (x.tag)), .string (str (x.key)), .slice (ta) (x.as.length) (tc), .string (str (x.text)), .slice (ka) (x.kids.length) (kc)]] w (RetS w0 G L fun v => v = .int .i64 (zerF x)) := by
 refine calls_start (vs := [_]) Tryz.func16 rfl (n := 33) rfl rfl ?_
 intro a F
 refine wp_seq <| w_reg <| rl_box F M rfl (cs := [.int .u8 (x.kind), .string (str (x.tag)), .string (str (x.key)), .slice (ta) (x.as.length) (tc), .string (str (x.text)), .slice (ka) (x.kids.length) (kc)]) rfl rfl ?_; clear F M a; intro b1 w a M F
 refine rl_run F (run_assign (F.ev rfl)) rfl ?_; clear F a; intro a F
 refine rl_nil <| q_tn ?_
 iterate 2 (refine wp_seq ?_)
 refine w_reg <| rl_run F (run_fieldAddr tok30.k rfl rfl (F.ev rfl)) rfl ?_; clear F a; intro a F
 refine rl_run F (run_load1 (agf tok5 rfl) (F.ev rfl) (M.cellL (k := 0) rfl rfl)) rfl ?_; clear F a; intro a F
 refine rl_run F (run_nei (F.ev rfl) (F.ev rfl)) rfl ?_; clear F a; intro a F
 refine rl_run F (run_move (F.ev rfl)) rfl ?_; clear F a; intro a F
 rcases Bool.eq_false_or_eq_true (!(decide (x.kind = 0))) with hc | hc
 ·skip
  have h2b := hc; clear hc
  have h2 : ¬ (x.kind = 0) := of_decide_eq_false (of_not_t h2b)
  have h2c : (decide (x.kind = 0)) = false := (of_not_t h2b)
  iterate 3 (refine rl_guard_f F rfl rfl rfl (not_t h2c) ?_; clear F a; intro a F)
  refine rl_run F (run_pick_t (F.ev rfl) (not_t h2c) (F.ev rfl)) rfl ?_; clear F a; intro a F
  refine rl_run F (run_move (F.ev rfl)) rfl ?_; clear F a; intro a F
  iterate 3 (refine rl_guard_f F rfl rfl rfl rfl ?_; clear F a; intro a F)
  refine rl_run F (run_pick_t (F.ev rfl) rfl (F.ev rfl)) rfl ?_; clear F a; intro a F
  refine rl_run F (run_move (F.ev rfl)) rfl ?_; clear F a; intro a F
  iterate 3 (refine rl_guard_f F rfl rfl rfl rfl ?_; clear F a; intro a F)
  refine rl_run F (run_pick_t (F.ev rfl) rfl (F.ev rfl)) rfl ?_; clear F a; intro a F
  refine rl_run F (run_move (F.ev rfl)) rfl ?_; clear F a; intro a F
  iterate 4 (refine rl_guard_f F rfl rfl rfl rfl ?_; clear F a; intro a F)
  refine rl_run F (run_pick_t (F.ev rfl) rfl (F.ev rfl)) rfl ?_; clear F a; intro a F
  refine rl_run F (run_move (F.ev rfl)) rfl ?_; clear F a; intro a F
  iterate 4 (refine rl_guard_f F rfl rfl rfl rfl ?_; clear F a; intro a F)
  refine rl_run F (run_pick_t (F.ev rfl) rfl (F.ev rfl)) rfl ?_; clear F a; intro a F
  refine rl_nil <| q_tn <| w_cond_t F rfl rfl ?_
  refine wp_seq <| w_reg <| rl_run F (run_assign (F.ev rfl)) rfl ?_; clear F a; intro a F
  refine rl_nil <| q_tn <| wp_ret <| q_tr <| fin1 F rfl rfl ?_
  have e9 : zerF x = 0 := zerF_no (fun e_ => by subst e_; exact absurd rfl h2)
  exact ⟨M.weaken (.cons _ (List.Sublist.refl _)), by rw [e9]⟩
 ·skip
  have h3b := hc; clear hc
  have h3 : x.kind = 0 := of_decide_eq_true (of_not_f h3b)
  have h3c : (decide (x.kind = 0)) = true := (of_not_f h3b)
  refine rl_guard_t F rfl rfl rfl (not_f h3c) ?_
  refine rl_run F (run_fieldAddr tok30.k rfl rfl (F.ev rfl)) rfl ?_; clear F a; intro a F
  refine rl_guard_t F rfl rfl rfl (not_f h3c) ?_
  refine rl_run F (run_load1 (agf tok9 rfl) (F.ev rfl) (M.cellL (k := 0) rfl rfl)) rfl ?_; clear F a; intro a F
  refine rl_guard_t F rfl rfl rfl (not_f h3c) ?_
  refine rl_run F (run_strNe (F.ev rfl) (F.ev rfl)) rfl ?_; clear F a; intro a F
  refine rl_run F (run_pick_f (F.ev rfl) (not_f h3c) (F.ev rfl)) rfl ?_; clear F a; intro a F
  refine rl_run F (run_move (F.ev rfl)) rfl ?_; clear F a; intro a F
  rcases Bool.eq_false_or_eq_true (!(decide (x.tag = ([] : List UInt8)))) with hc | hc
  ·skip
   have h4b := hc; clear hc
   have h4 : ¬ (x.tag = ([] : List UInt8)) := of_decide_eq_false (of_not_t h4b)
   have h4c : (decide (x.tag = ([] : List UInt8))) = false := (of_not_t h4b)
   iterate 3 (refine rl_guard_f F rfl rfl rfl (not_t h4c) ?_; clear F a; intro a F)
   refine rl_run F (run_pick_t (F.ev rfl) (not_t h4c) (F.ev rfl)) rfl ?_; clear F a; intro a F
   refine rl_run F (run_move (F.ev rfl)) rfl ?_; clear F a; intro a F
   iterate 3 (refine rl_guard_f F rfl rfl rfl rfl ?_; clear F a; intro a F)
   refine rl_run F (run_pick_t (F.ev rfl) rfl (F.ev rfl)) rfl ?_; clear F a; intro a F
   refine rl_run F (run_move (F.ev rfl)) rfl ?_; clear F a; intro a F
   iterate 4 (refine rl_guard_f F rfl rfl rfl rfl ?_; clear F a; intro a F)
   refine rl_run F (run_pick_t (F.ev rfl) rfl (F.ev rfl)) rfl ?_; clear F a; intro a F
   refine rl_run F (run_move (F.ev rfl)) rfl ?_; clear F a; intro a F
   iterate 4 (refine rl_guard_f F rfl rfl rfl rfl ?_; clear F a; intro a F)
   refine rl_run F (run_pick_t (F.ev rfl) rfl (F.ev rfl)) rfl ?_; clear F a; intro a F
   refine rl_nil <| q_tn <| w_cond_t F rfl rfl ?_
   refine wp_seq <| w_reg <| rl_run F (run_assign (F.ev rfl)) rfl ?_; clear F a; intro a F
   refine rl_nil <| q_tn <| wp_ret <| q_tr <| fin1 F rfl rfl ?_
   have e9 : zerF x = 0 := zerF_no (fun e_ => by subst e_; exact absurd rfl h4)
   exact ⟨M.weaken (.cons _ (List.Sublist.refl _)), by rw [e9]⟩
  ·skip
   have h5b := hc; clear hc
   have h5 : x.tag = ([] : List UInt8) := of_decide_eq_true (of_not_f h5b)
   have h5c : (decide (x.tag = ([] : List UInt8))) = true := (of_not_f h5b)
   refine rl_guard_t F rfl rfl rfl (not_f h5c) ?_
   refine rl_run F (run_fieldAddr tok30.k rfl rfl (F.ev rfl)) rfl ?_; clear F a; intro a F
   refine rl_guard_t F rfl rfl rfl (not_f h5c) ?_
   refine rl_run F (run_load1 (agf tok9 rfl) (F.ev rfl) (M.cellL (k := 0) rfl rfl)) rfl ?_; clear F a; intro a F
   refine rl_guard_t F rfl rfl rfl (not_f h5c) ?_
   refine rl_run F (run_strNe (F.ev rfl) (F.ev rfl)) rfl ?_; clear F a; intro a F
   refine rl_run F (run_pick_f (F.ev rfl) (not_f h5c) (F.ev rfl)) rfl ?_; clear F a; intro a F
   refine rl_run F (run_move (F.ev rfl)) rfl ?_; clear F a; intro a F
   rcases Bool.eq_false_or_eq_true (!(decide (x.key = ([] : List UInt8)))) with hc | hc
   ·skip
    have h6b := hc; clear hc
    have h6 : ¬ (x.key = ([] : List UInt8)) := of_decide_eq_false (of_not_t h6b)
    have h6c : (decide (x.key = ([] : List UInt8))) = false := (of_not_t h6b)
    iterate 3 (refine rl_guard_f F rfl rfl rfl (not_t h6c) ?_; clear F a; intro a F)
    refine rl_run F (run_pick_t (F.ev rfl) (not_t h6c) (F.ev rfl)) rfl ?_; clear F a; intro a F
    refine rl_run F (run_move (F.ev rfl)) rfl ?_; clear F a; intro a F
    iterate 4 (refine rl_guard_f F rfl rfl rfl rfl ?_; clear F a; intro a F)
    refine rl_run F (run_pick_t (F.ev rfl) rfl (F.ev rfl)) rfl ?_; clear F a; intro a F
    refine rl_run F (run_move (F.ev rfl)) rfl ?_; clear F a; intro a F
    iterate 4 (refine rl_guard_f F rfl rfl rfl rfl ?_; clear F a; intro a F)
    refine rl_run F (run_pick_t (F.ev rfl) rfl (F.ev rfl)) rfl ?_; clear F a; intro a F
    refine rl_nil <| q_tn <| w_cond_t F rfl rfl ?_
    refine wp_seq <| w_reg <| rl_run F (run_assign (F.ev rfl)) rfl ?_; clear F a; intro a F
    refine rl_nil <| q_tn <| wp_ret <| q_tr <| fin1 F rfl rfl ?_
    have e9 : zerF x = 0 := zerF_no (fun e_ => by subst e_; exact absurd rfl h6)
    exact ⟨M.weaken (.cons _ (List.Sublist.refl _)), by rw [e9]⟩
   ·skip
    have h7b := hc; clear hc
    have h7 : x.key = ([] : List UInt8) := of_decide_eq_true (of_not_f h7b)
    have h7c : (decide (x.key = ([] : List UInt8))) = true := (of_not_f h7b)
    refine rl_guard_t F rfl rfl rfl (not_f h7c) ?_
    refine rl_run F (run_fieldAddr tok30.k rfl rfl (F.ev rfl)) rfl ?_; clear F a; intro a F
    refine rl_guard_t F rfl rfl rfl (not_f h7c) ?_
    refine rl_run F (run_load1 (agf tok9 rfl) (F.ev rfl) (M.cellL (k := 0) rfl rfl)) rfl ?_; clear F a; intro a F
    refine rl_guard_t F rfl rfl rfl (not_f h7c) ?_
    refine rl_run F (run_strNe (F.ev rfl) (F.ev rfl)) rfl ?_; clear F a; intro a F
    refine rl_run F (run_pick_f (F.ev rfl) (not_f h7c) (F.ev rfl)) rfl ?_; clear F a; intro a F
    refine rl_run F (run_move (F.ev rfl)) rfl ?_; clear F a; intro a F
    rcases Bool.eq_false_or_eq_true (!(decide (x.text = ([] : List UInt8)))) with hc | hc
    ·skip
     have h8b := hc; clear hc
     have h8 : ¬ (x.text = ([] : List UInt8)) := of_decide_eq_false (of_not_t h8b)
     have h8c : (decide (x.text = ([] : List UInt8))) = false := (of_not_t h8b)
     iterate 4 (refine rl_guard_f F rfl rfl rfl (not_t h8c) ?_; clear F a; intro a F)
     refine rl_run F (run_pick_t (F.ev rfl) (not_t h8c) (F.ev rfl)) rfl ?_; clear F a; intro a F
     refine rl_run F (run_move (F.ev rfl)) rfl ?_; clear F a; intro a F
     iterate 4 (refine rl_guard_f F rfl rfl rfl rfl ?_; clear F a; intro a F)
     refine rl_run F (run_pick_t (F.ev rfl) rfl (F.ev rfl)) rfl ?_; clear F a; intro a F
     refine rl_nil <| q_tn <| w_cond_t F rfl rfl ?_
     refine wp_seq <| w_reg <| rl_run F (run_assign (F.ev rfl)) rfl ?_; clear F a; intro a F
     refine rl_nil <| q_tn <| wp_ret <| q_tr <| fin1 F rfl rfl ?_
     have e9 : zerF x = 0 := zerF_no (fun e_ => by subst e_; exact absurd rfl h8)
     exact ⟨M.weaken (.cons _ (List.Sublist.refl _)), by rw [e9]⟩
    ·skip
     have h9b := hc; clear hc
     have h9 : x.text = ([] : List UInt8) := of_decide_eq_true (of_not_f h9b)
     have h9c : (decide (x.text = ([] : List UInt8))) = true := (of_not_f h9b)
     refine rl_guard_t F rfl rfl rfl (not_f h9c) ?_
     refine rl_run F (run_fieldAddr tok30.k rfl rfl (F.ev rfl)) rfl ?_; clear F a; intro a F
     refine rl_guard_t F rfl rfl rfl (not_f h9c) ?_
     refine rl_run F (run_load1 (agf tok27 rfl) (F.ev rfl) (M.cellL (k := 0) rfl rfl)) rfl ?_; clear F a; intro a F
     refine rl_guard_t F rfl rfl rfl (not_f h9c) ?_
     refine rl_run F (run_lenSl tok27.k (F.ev rfl)) rfl ?_; clear F a; intro a F
     refine rl_guard_t F rfl rfl rfl (not_f h9c) ?_
     refine rl_run F (run_gtr (F.ev rfl) (F.ev rfl)) rfl ?_; clear F a; intro a F
     refine rl_run F (run_pick_f (F.ev rfl) (not_f h9c) (F.ev rfl)) rfl ?_; clear F a; intro a F
     refine rl_run F (run_move (F.ev rfl)) rfl ?_; clear F a; intro a F
     rcases Bool.eq_false_or_eq_true (decide (0 < ((x.as.length : Nat) : Int))) with hc | hc
     ·skip
      have h10b := hc; clear hc
      have h10 : 0 < ((x.as.length : Nat) : Int) := of_decide_eq_true h10b
      iterate 4 (refine rl_guard_f F rfl rfl rfl h10b ?_; clear F a; intro a F)
      refine rl_run F (run_pick_t (F.ev rfl) h10b (F.ev rfl)) rfl ?_; clear F a; intro a F
      refine rl_nil <| q_tn <| w_cond_t F rfl rfl ?_
      refine wp_seq <| w_reg <| rl_run F (run_assign (F.ev rfl)) rfl ?_; clear F a; intro a F
      refine rl_nil <| q_tn <| wp_ret <| q_tr <| fin1 F rfl rfl ?_
      have e9 : zerF x = 0 := zerF_no (fun e_ => by subst e_; exact absurd h10 (by decide))
      exact ⟨M.weaken (.cons _ (List.Sublist.refl _)), by rw [e9]⟩
     ·skip
      have h11b := hc; clear hc
      have h11 : ¬ (0 < ((x.as.length : Nat) : Int)) := of_decide_eq_false h11b
      refine rl_guard_t F rfl rfl rfl h11b ?_
      refine rl_run F (run_fieldAddr tok30.k rfl rfl (F.ev rfl)) rfl ?_; clear F a; intro a F
      refine rl_guard_t F rfl rfl rfl h11b ?_
      refine rl_run F (run_load1 (agf tok28 rfl) (F.ev rfl) (M.cellL (k := 0) rfl rfl)) rfl ?_; clear F a; intro a F
      refine rl_guard_t F rfl rfl rfl h11b ?_
      refine rl_run F (run_lenSl tok28.k (F.ev rfl)) rfl ?_; clear F a; intro a F
      refine rl_guard_t F rfl rfl rfl h11b ?_
      refine rl_run F (run_gtr (F.ev rfl) (F.ev rfl)) rfl ?_; clear F a; intro a F
      refine rl_run F (run_pick_f (F.ev rfl) h11b (F.ev rfl)) rfl ?_; clear F a; intro a F
      refine rl_nil <| q_tn <| w_cond F rfl ?_ ?_
      ·intro hc
       have h12b := hc; clear hc
       have h12 : 0 < ((x.kids.length : Nat) : Int) := of_decide_eq_true h12b
       refine wp_seq <| w_reg <| rl_run F (run_assign (F.ev rfl)) rfl ?_; clear F a; intro a F
       refine rl_nil <| q_tn <| wp_ret <| q_tr <| fin1 F rfl rfl ?_
       have e9 : zerF x = 0 := zerF_no (fun e_ => by subst e_; exact absurd h12 (by decide))
       exact ⟨M.weaken (.cons _ (List.Sublist.refl _)), by rw [e9]⟩
      ·intro hc
       have h13b := hc; clear hc
       have h13 : ¬ (0 < ((x.kids.length : Nat) : Int)) := of_decide_eq_false h13b
       refine wp_skip <| q_tn <| wp_seq <| w_reg <| rl_run F (run_assign (F.ev rfl)) rfl ?_; clear F a; intro a F
       refine rl_nil <| q_tn <| wp_ret <| fin1 F rfl rfl ?_
       exact ⟨M.weaken (.cons _ (List.Sublist.refl _)), by rw [zerF_is (by assumption) (by assumption) (by assumption) (by assumption) (by assumption) (by assumption)]⟩
end Go.Proofs.YtlnehkjmmegkhaaGreat
