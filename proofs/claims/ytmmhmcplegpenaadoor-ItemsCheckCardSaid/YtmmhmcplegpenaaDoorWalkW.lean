/- The walks, part W. -/
import Derived.Test.YtmmhmcplegpenaaDoorWalkL
namespace Go.Proofs.YtmmhmcplegpenaaDoor
open Go Go.Y Go.Proofs
set_option linter.unusedSimpArgs false
set_option linter.unusedVariables false
theorem items_b {G : Ghost} {a : Option Addr} {c : Nat} {xs : List ItemD} (S : RdSl rdItem 4 G (.slice a xs.length c) xs) : ∀ x ∈ xs, x.key < 18446744073709551616 ∧ x.typ < 256 := by
 intro x hx
 obtain ⟨i, hi⟩ := List.mem_iff_getElem?.1 hx
 obtain ⟨b, o, cs, _, _, _, _, hr⟩ := S.index hi
 obtain ⟨a', c', _, h1, h2, _⟩ := hr
 exact ⟨h1, h2⟩
def wantF (l : List ItemD) : Int := if AllOk l then 0 else 6
theorem want_nil : wantF [] = 0 := by unfold wantF; rw [if_pos (show AllOk [] from fun x hx => by simp at hx)]
theorem want_zero {l : List ItemD} (h : wantF l = 0) : AllOk l := by
 unfold wantF at h; split at h
 ·assumption
 ·cases h
theorem want_six {l : List ItemD} (h : ¬ wantF l = 0) : ¬ AllOk l ∧ wantF l = 6 := by
 unfold wantF at h ⊢; split at h
 ·exact absurd rfl h
 ·rename_i h1; exact ⟨h1, by rw [if_neg h1]⟩
theorem want_step0 {xs : List ItemD} {i : Nat} {x : ItemD} (hx : xs[i]? = some x) (h : wantF (xs.take i) = 0) : itmF 8 x = wantF (xs.take (i + 1)) := by
 have h1 := want_zero h
 rw [List.take_add_one, hx]
 unfold wantF itmF
 by_cases hk : ItemOk 8 x
 ·rw [if_pos hk, if_pos]
  intro y hy
  simp only [Option.toList_some, List.mem_append, List.mem_singleton] at hy
  rcases hy with hy | rfl
  ·exact h1 y hy
  ·exact hk
 ·rw [if_neg hk, if_neg (fun h2 => hk (h2 x (by simp)))]
theorem want_step6 {xs : List ItemD} {i : Nat} {x : ItemD} (hx : xs[i]? = some x) (h : ¬ wantF (xs.take i) = 0) : wantF (xs.take i) = wantF (xs.take (i + 1)) := by
 obtain ⟨h1, h2⟩ := want_six h
 rw [h2, List.take_add_one, hx]
 unfold wantF
 rw [if_neg (fun h3 => h1 (fun y hy => h3 y (by simp [hy])))]
theorem want_text {xs : List ItemD} (h : xs.length ≤ 1024) : textE xs = wantF xs := by unfold textE wantF; rw [if_neg (by omega)]
theorem ok_mono {t : Int} {x : ItemD} (h : ItemOk t x) (ht : x.typ < 256) : ItemOk (max t 256) x := ⟨h.1, by omega, h.2.2⟩
theorem check_ret {w0 w : World} {G : Ghost} {L : List Res} (M : Mem w0 G L w) (HG : Globs 0 1 2 3 G) {a1 : Option Addr} {c1 : Nat} {xs : List ItemD} (S : RdSl rdItem 4 G (.slice a1 xs.length c1) xs) {t : Int} : Calls Tryd.prog 3 #[.slice a1 xs.length c1, .int .i64 t] w (Ret w0 G L fun _ v => v = .bool true) := by
 have bS := S.bound
 refine calls_start (vs := [_, _]) Tryd.func3 rfl (n := 82) rfl rfl ?_
 intro a F
 refine wp_seq <| w_reg <| rl_run F (run_assign (F.ev rfl)) rfl ?_; clear F a; intro a F
 refine rl_nil <| q_tn ?_
 iterate 2 (refine wp_seq ?_)
 refine w_reg <| rl_run F (run_move (F.ev rfl)) rfl ?_; clear F a; intro a F
 refine rl_callS F ent7 rfl rfl (few_spec (xs := xs) M S) ?_; clear F M a; rintro _ w a M rfl F
 refine rl_run F (run_eqi (F.ev rfl) (F.ev rfl)) rfl ?_; clear F a; intro a F
 refine rl_nil <| q_tn <| w_cond F rfl ?_ ?_
 ·intro hc
  have h1b := hc; clear hc
  have h1 : (if Few xs then (1 : Int) else 0) = 0 := of_decide_eq_true h1b
  refine wp_seq <| w_reg <| rl_callS F ent8 rfl rfl (lives_spec M HG) ?_; clear F M a; rintro _ w a M rfl F
  refine rl_run F (run_assign (F.ev rfl)) rfl ?_; clear F a; intro a F
  refine rl_nil <| q_tn <| wp_ret <| q_tr <| fin1 F rfl rfl ?_
  exact ⟨_, (Gle.refl _), M.weaken (List.Sublist.refl _), rfl⟩
 ·intro hc
  have h2b := hc; clear hc
  have h2 : ¬ ((if Few xs then (1 : Int) else 0) = 0) := of_decide_eq_false h2b
  refine wp_skip <| q_tn <| wp_seq ?_
  have hFw : Few xs := Classical.byContradiction fun h_ => by rw [if_neg h_] at *; omega
  have hF30 := hFw.1
  refine w_reg <| rl_run F (run_assign (F.ev rfl)) rfl ?_; clear F a; intro a F
  refine rl_nil <| q_tn ?_
  iterate 2 (refine wp_seq ?_)
  refine w_reg <| rl_run F (run_assign (F.ev rfl)) rfl ?_; clear F a; intro a F
  refine rl_nil <| q_tn <| wp_block <| w_loopN (fun m a' w' => ∃ (i : Nat), ∃ (wt : Int), m = xs.length - i ∧ Fits 82 a' [(0, .slice (a1) (xs.length) (c1)), (1, .int .i64 (t)), (5, .int .i64 (wt)), (6, .int .i64 (((i : Nat) : Int)))] ∧ Mem w0 G (L) w' ∧ (i ≤ xs.length) ∧ (wt = wantF (xs.take i))) _ ⟨0, 0, rfl, F.to ⟨rfl, rfl, rfl, rfl, trivial⟩, M, by omega, by rw [List.take_zero, want_nil]⟩ ?_
  clear F M
  rintro m a w ⟨i, wt, rfl, F, M, hi, hw⟩
  iterate 2 (refine wp_seq ?_)
  refine w_reg ?_
  iterate 2 (refine rl_run F (run_move (F.ev rfl)) rfl ?_; clear F a; intro a F)
  refine rl_run F (run_lenSl tok22.k (F.ev rfl)) rfl ?_; clear F a; intro a F
  refine rl_run F (run_lss (F.ev rfl) (F.ev rfl)) rfl ?_; clear F a; intro a F
  refine rl_nil <| q_tn <| w_cond F rfl ?_ ?_
  ·intro hc
   have h3b := hc; clear hc
   have h3 : ((i : Nat) : Int) < ((xs.length : Nat) : Int) := of_decide_eq_true h3b
   refine wp_skip <| q_tn <| wp_seq <| wp_block <| wp_seq <| w_reg ?_
   iterate 2 (refine rl_run F (run_move (F.ev rfl)) rfl ?_; clear F a; intro a F)
   obtain ⟨Xe4, hXe4⟩ := get_of_lt (xs := xs) (i := i) (by omega)
   obtain ⟨be4, oe4, _, Ie4, _, Ae4, hTe4⟩ := S.at hXe4
   obtain ⟨mae4, mce4, rfl, hke4, hte4, hxe4, hne4, SMe4⟩ := hTe4
   have hIe4 : (Xe4.key < 18446744073709551616 ∧ Xe4.typ < 256 ∧ Xe4.text.length ≤ 9223372036854775807) := ⟨hke4, hte4, hxe4⟩
   refine rl_run F (run_indexI tok22.k tok30 (F.ev rfl) (F.ev rfl) (by omega) Ie4) rfl ?_; clear F a; intro a F
   refine rl_run F (run_loadA tok30 rfl (F.ev rfl) (cs := [.int .u64 (((Xe4.key : Nat) : Int)), .int .u8 (((Xe4.typ : Nat) : Int)), .string (str (Xe4.text)), .slice (mae4) (Xe4.marks.length) (mce4)]) rfl (M.cellsA Ae4 0 (by omega) rfl)) rfl ?_; clear F a; intro a F
   refine rl_run F (run_move (F.ev rfl)) rfl ?_; clear F a; intro a F
   refine rl_callS F ent9 rfl rfl (check_spec (x := Xe4) (t := t) M hIe4 SMe4) ?_; clear F M a; rintro _ w a M rfl F
   refine rl_run F (run_assign (F.ev rfl)) rfl ?_; clear F a; intro a F
   refine rl_nil <| q_tn ?_
   iterate 2 (refine wp_seq ?_)
   refine w_reg ?_
   iterate 3 (refine rl_run F (run_move (F.ev rfl)) rfl ?_; clear F a; intro a F)
   obtain ⟨be5, oe5, _, Ie5, _, Ae5, hTe5⟩ := S.at hXe4
   obtain ⟨mae5, mce5, rfl, hke5, hte5, hxe5, hne5, SMe5⟩ := hTe5
   have hIe5 : (Xe4.key < 18446744073709551616 ∧ Xe4.typ < 256 ∧ Xe4.text.length ≤ 9223372036854775807) := ⟨hke5, hte5, hxe5⟩
   refine rl_run F (run_indexI tok22.k tok30 (F.ev rfl) (F.ev rfl) (by omega) Ie5) rfl ?_; clear F a; intro a F
   refine rl_run F (run_loadA tok30 rfl (F.ev rfl) (cs := [.int .u64 (((Xe4.key : Nat) : Int)), .int .u8 (((Xe4.typ : Nat) : Int)), .string (str (Xe4.text)), .slice (mae5) (Xe4.marks.length) (mce5)]) rfl (M.cellsA Ae5 0 (by omega) rfl)) rfl ?_; clear F a; intro a F
   refine rl_run F (run_move (F.ev rfl)) rfl ?_; clear F a; intro a F
   refine rl_callS F ent10 rfl rfl (rcheck_spec (x := Xe4) (t := t) M hIe5 SMe5) ?_; clear F M a; rintro _ w a M rfl F
   refine rl_run F (run_nei (F.ev rfl) (F.ev rfl)) rfl ?_; clear F a; intro a F
   refine rl_run F (run_move (F.ev rfl)) rfl ?_; clear F a; intro a F
   refine rl_guard_t F rfl rfl rfl (not_f (decide_eq_true rfl)) ?_
   refine rl_run F (run_move (F.ev rfl)) rfl ?_; clear F a; intro a F
   refine rl_guard_t F rfl rfl rfl (not_f (decide_eq_true rfl)) ?_
   refine rl_run F (run_eqi (F.ev rfl) (F.ev rfl)) rfl ?_; clear F a; intro a F
   refine rl_guard_t F rfl rfl rfl (not_f (decide_eq_true rfl)) ?_
   refine rl_run F (run_move (F.ev rfl)) rfl ?_; clear F a; intro a F
   rcases Bool.eq_false_or_eq_true (decide (itmF t Xe4 = 0)) with hc | hc
   ·skip
    have h6b := hc; clear hc
    have h6 : itmF t Xe4 = 0 := of_decide_eq_true h6b
    refine rl_guard_t F rfl rfl rfl h6b ?_
    refine rl_run F (run_move (F.ev rfl)) rfl ?_; clear F a; intro a F
    refine rl_guard_t F rfl rfl rfl h6b ?_
    refine rl_run F (run_move (F.ev rfl)) rfl ?_; clear F a; intro a F
    refine rl_guard_t F rfl rfl rfl h6b ?_
    obtain ⟨be7, oe7, _, Ie7, _, Ae7, hTe7⟩ := S.at hXe4
    obtain ⟨mae7, mce7, rfl, hke7, hte7, hxe7, hne7, SMe7⟩ := hTe7
    have hIe7 : (Xe4.key < 18446744073709551616 ∧ Xe4.typ < 256 ∧ Xe4.text.length ≤ 9223372036854775807) := ⟨hke7, hte7, hxe7⟩
    refine rl_run F (run_indexI tok22.k tok30 (F.ev rfl) (F.ev rfl) (by omega) Ie7) rfl ?_; clear F a; intro a F
    refine rl_guard_t F rfl rfl rfl h6b ?_
    refine rl_run F (run_loadA tok30 rfl (F.ev rfl) (cs := [.int .u64 (((Xe4.key : Nat) : Int)), .int .u8 (((Xe4.typ : Nat) : Int)), .string (str (Xe4.text)), .slice (mae7) (Xe4.marks.length) (mce7)]) rfl (M.cellsA Ae7 0 (by omega) rfl)) rfl ?_; clear F a; intro a F
    refine rl_guard_t F rfl rfl rfl h6b ?_
    refine rl_run F (run_move (F.ev rfl)) rfl ?_; clear F a; intro a F
    refine rl_guard_t F rfl rfl rfl h6b ?_
    refine rl_run F (run_max2 (F.ev rfl) (F.ev rfl)) rfl ?_; clear F a; intro a F
    refine rl_guard_t F rfl rfl rfl h6b ?_
    refine rl_callS F ent9 rfl rfl (check_spec (x := Xe4) (t := max (t) (256)) M hIe7 SMe7) ?_; clear F M a; rintro _ w a M rfl F
    refine rl_guard_t F rfl rfl rfl h6b ?_
    refine rl_run F (run_nei (F.ev rfl) (F.ev rfl)) rfl ?_; clear F a; intro a F
    refine rl_guard_t F rfl rfl rfl (not_f (decide_eq_true rfl)) ?_
    refine rl_run F (run_pick_t (F.ev rfl) h6b (F.ev rfl)) rfl ?_; clear F a; intro a F
    refine rl_run F (run_pick_f (F.ev rfl) (not_f (decide_eq_true rfl)) (F.ev rfl)) rfl ?_; clear F a; intro a F
    refine rl_run F (run_move (F.ev rfl)) rfl ?_; clear F a; intro a F
    have hg8 : (!(decide (itmF (max (t) (256)) Xe4 = 0))) = false := (not_f (decide_eq_true (by exact itmF_yes (ok_mono (itmF_zero.1 (by assumption)) (items_b S _ (List.mem_of_getElem? hXe4)).2))))
    refine rl_guard_t F rfl rfl rfl hg8 ?_
    refine rl_run F (run_move (F.ev rfl)) rfl ?_; clear F a; intro a F
    refine rl_guard_t F rfl rfl rfl hg8 ?_
    refine rl_run F (run_move (F.ev rfl)) rfl ?_; clear F a; intro a F
    refine rl_guard_t F rfl rfl rfl hg8 ?_
    obtain ⟨be9, oe9, _, Ie9, _, Ae9, hTe9⟩ := S.at hXe4
    obtain ⟨mae9, mce9, rfl, hke9, hte9, hxe9, hne9, SMe9⟩ := hTe9
    have hIe9 : (Xe4.key < 18446744073709551616 ∧ Xe4.typ < 256 ∧ Xe4.text.length ≤ 9223372036854775807) := ⟨hke9, hte9, hxe9⟩
    refine rl_run F (run_indexI tok22.k tok30 (F.ev rfl) (F.ev rfl) (by omega) Ie9) rfl ?_; clear F a; intro a F
    refine rl_guard_t F rfl rfl rfl hg8 ?_
    refine rl_run F (run_loadA tok30 rfl (F.ev rfl) (cs := [.int .u64 (((Xe4.key : Nat) : Int)), .int .u8 (((Xe4.typ : Nat) : Int)), .string (str (Xe4.text)), .slice (mae9) (Xe4.marks.length) (mce9)]) rfl (M.cellsA Ae9 0 (by omega) rfl)) rfl ?_; clear F a; intro a F
    refine rl_guard_t F rfl rfl rfl hg8 ?_
    refine rl_callS F ent9 rfl rfl (check_spec (x := Xe4) (t := 0) M hIe9 SMe9) ?_; clear F M a; rintro _ w a M rfl F
    refine rl_guard_t F rfl rfl rfl hg8 ?_
    refine rl_run F (run_eqi (F.ev rfl) (F.ev rfl)) rfl ?_; clear F a; intro a F
    refine rl_run F (run_pick_f (F.ev rfl) hg8 (F.ev rfl)) rfl ?_; clear F a; intro a F
    refine rl_nil <| q_tn <| w_cond_f F rfl (decide_eq_false (by (intro h_; have h9_ := (itmF_zero.1 h_).2.1; omega))) ?_
    refine wp_skip <| q_tn <| wp_seq <| w_reg <| rl_run F (run_move (F.ev rfl)) rfl ?_; clear F a; intro a F
    refine rl_run F (run_eqi (F.ev rfl) (F.ev rfl)) rfl ?_; clear F a; intro a F
    refine rl_nil <| q_tn <| w_cond F rfl ?_ ?_
    ·intro hc
     have h10b := hc; clear hc
     have h10 : wt = 0 := of_decide_eq_true h10b
     refine w_reg ?_
     iterate 2 (refine rl_run F (run_move (F.ev rfl)) rfl ?_; clear F a; intro a F)
     obtain ⟨be11, oe11, _, Ie11, _, Ae11, hTe11⟩ := S.at hXe4
     obtain ⟨mae11, mce11, rfl, hke11, hte11, hxe11, hne11, SMe11⟩ := hTe11
     have hIe11 : (Xe4.key < 18446744073709551616 ∧ Xe4.typ < 256 ∧ Xe4.text.length ≤ 9223372036854775807) := ⟨hke11, hte11, hxe11⟩
     refine rl_run F (run_indexI tok22.k tok30 (F.ev rfl) (F.ev rfl) (by omega) Ie11) rfl ?_; clear F a; intro a F
     refine rl_run F (run_loadA tok30 rfl (F.ev rfl) (cs := [.int .u64 (((Xe4.key : Nat) : Int)), .int .u8 (((Xe4.typ : Nat) : Int)), .string (str (Xe4.text)), .slice (mae11) (Xe4.marks.length) (mce11)]) rfl (M.cellsA Ae11 0 (by omega) rfl)) rfl ?_; clear F a; intro a F
     refine rl_callS F ent10 rfl rfl (rcheck_spec (x := Xe4) (t := 8) M hIe11 SMe11) ?_; clear F M a; rintro _ w a M rfl F
     refine rl_run F (run_assign (F.ev rfl)) rfl ?_; clear F a; intro a F
     refine rl_nil <| q_bn <| q_tn <| w_reg <| rl_run F (run_move (F.ev rfl)) rfl ?_; clear F a; intro a F
     refine rl_run F (run_addi (F.ev rfl) (F.ev rfl) (in_i64 (by omega) (by omega))) rfl ?_; clear F a; intro a F
     refine rl_run F (run_assign (F.ev rfl)) rfl ?_; clear F a; intro a F
     refine rl_nil <| q_tn ?_
     exact ⟨_, by omega, i + 1, itmF 8 Xe4, rfl, F.to ⟨rfl, rfl, rfl, rfl, trivial⟩, M, by omega, by first | (rw [hw] at *; exact want_step0 hXe4 (by assumption)) | (rw [hw] at *; exact want_step6 hXe4 (by assumption)) | exact want_step0 hXe4 (by omega) | (rw [hw]; exact want_step6 hXe4 (by omega))⟩
    ·intro hc
     have h12b := hc; clear hc
     have h12 : ¬ (wt = 0) := of_decide_eq_false h12b
     refine wp_skip <| q_bn <| q_tn <| w_reg <| rl_run F (run_move (F.ev rfl)) rfl ?_; clear F a; intro a F
     refine rl_run F (run_addi (F.ev rfl) (F.ev rfl) (in_i64 (by omega) (by omega))) rfl ?_; clear F a; intro a F
     refine rl_run F (run_assign (F.ev rfl)) rfl ?_; clear F a; intro a F
     refine rl_nil <| q_tn ?_
     exact ⟨_, by omega, i + 1, wt, rfl, F.to ⟨rfl, rfl, rfl, rfl, trivial⟩, M, by omega, by first | (rw [hw] at *; exact want_step0 hXe4 (by assumption)) | (rw [hw] at *; exact want_step6 hXe4 (by assumption)) | exact want_step0 hXe4 (by omega) | (rw [hw]; exact want_step6 hXe4 (by omega))⟩
   ·skip
    have h13b := hc; clear hc
    have h13 : ¬ (itmF t Xe4 = 0) := of_decide_eq_false h13b
    iterate 8 (refine rl_guard_f F rfl rfl rfl h13b ?_; clear F a; intro a F)
    refine rl_guard_t F rfl rfl rfl (not_f (decide_eq_true rfl)) ?_
    refine rl_run F (run_pick_f (F.ev rfl) h13b (F.ev rfl)) rfl ?_; clear F a; intro a F
    refine rl_run F (run_pick_f (F.ev rfl) (not_f (decide_eq_true rfl)) (F.ev rfl)) rfl ?_; clear F a; intro a F
    refine rl_run F (run_move (F.ev rfl)) rfl ?_; clear F a; intro a F
    refine rl_guard_t F rfl rfl rfl rfl ?_
    refine rl_run F (run_move (F.ev rfl)) rfl ?_; clear F a; intro a F
    refine rl_guard_t F rfl rfl rfl rfl ?_
    refine rl_run F (run_move (F.ev rfl)) rfl ?_; clear F a; intro a F
    refine rl_guard_t F rfl rfl rfl rfl ?_
    obtain ⟨be14, oe14, _, Ie14, _, Ae14, hTe14⟩ := S.at hXe4
    obtain ⟨mae14, mce14, rfl, hke14, hte14, hxe14, hne14, SMe14⟩ := hTe14
    have hIe14 : (Xe4.key < 18446744073709551616 ∧ Xe4.typ < 256 ∧ Xe4.text.length ≤ 9223372036854775807) := ⟨hke14, hte14, hxe14⟩
    refine rl_run F (run_indexI tok22.k tok30 (F.ev rfl) (F.ev rfl) (by omega) Ie14) rfl ?_; clear F a; intro a F
    refine rl_guard_t F rfl rfl rfl rfl ?_
    refine rl_run F (run_loadA tok30 rfl (F.ev rfl) (cs := [.int .u64 (((Xe4.key : Nat) : Int)), .int .u8 (((Xe4.typ : Nat) : Int)), .string (str (Xe4.text)), .slice (mae14) (Xe4.marks.length) (mce14)]) rfl (M.cellsA Ae14 0 (by omega) rfl)) rfl ?_; clear F a; intro a F
    refine rl_guard_t F rfl rfl rfl rfl ?_
    refine rl_callS F ent9 rfl rfl (check_spec (x := Xe4) (t := 0) M hIe14 SMe14) ?_; clear F M a; rintro _ w a M rfl F
    refine rl_guard_t F rfl rfl rfl rfl ?_
    refine rl_run F (run_eqi (F.ev rfl) (F.ev rfl)) rfl ?_; clear F a; intro a F
    refine rl_run F (run_pick_f (F.ev rfl) rfl (F.ev rfl)) rfl ?_; clear F a; intro a F
    refine rl_nil <| q_tn <| w_cond_f F rfl (decide_eq_false (by (intro h_; have h9_ := (itmF_zero.1 h_).2.1; omega))) ?_
    refine wp_skip <| q_tn <| wp_seq <| w_reg <| rl_run F (run_move (F.ev rfl)) rfl ?_; clear F a; intro a F
    refine rl_run F (run_eqi (F.ev rfl) (F.ev rfl)) rfl ?_; clear F a; intro a F
    refine rl_nil <| q_tn <| w_cond F rfl ?_ ?_
    ·intro hc
     have h15b := hc; clear hc
     have h15 : wt = 0 := of_decide_eq_true h15b
     refine w_reg ?_
     iterate 2 (refine rl_run F (run_move (F.ev rfl)) rfl ?_; clear F a; intro a F)
     obtain ⟨be16, oe16, _, Ie16, _, Ae16, hTe16⟩ := S.at hXe4
     obtain ⟨mae16, mce16, rfl, hke16, hte16, hxe16, hne16, SMe16⟩ := hTe16
     have hIe16 : (Xe4.key < 18446744073709551616 ∧ Xe4.typ < 256 ∧ Xe4.text.length ≤ 9223372036854775807) := ⟨hke16, hte16, hxe16⟩
     refine rl_run F (run_indexI tok22.k tok30 (F.ev rfl) (F.ev rfl) (by omega) Ie16) rfl ?_; clear F a; intro a F
     refine rl_run F (run_loadA tok30 rfl (F.ev rfl) (cs := [.int .u64 (((Xe4.key : Nat) : Int)), .int .u8 (((Xe4.typ : Nat) : Int)), .string (str (Xe4.text)), .slice (mae16) (Xe4.marks.length) (mce16)]) rfl (M.cellsA Ae16 0 (by omega) rfl)) rfl ?_; clear F a; intro a F
     refine rl_callS F ent10 rfl rfl (rcheck_spec (x := Xe4) (t := 8) M hIe16 SMe16) ?_; clear F M a; rintro _ w a M rfl F
     refine rl_run F (run_assign (F.ev rfl)) rfl ?_; clear F a; intro a F
     refine rl_nil <| q_bn <| q_tn <| w_reg <| rl_run F (run_move (F.ev rfl)) rfl ?_; clear F a; intro a F
     refine rl_run F (run_addi (F.ev rfl) (F.ev rfl) (in_i64 (by omega) (by omega))) rfl ?_; clear F a; intro a F
     refine rl_run F (run_assign (F.ev rfl)) rfl ?_; clear F a; intro a F
     refine rl_nil <| q_tn ?_
     exact ⟨_, by omega, i + 1, itmF 8 Xe4, rfl, F.to ⟨rfl, rfl, rfl, rfl, trivial⟩, M, by omega, by first | (rw [hw] at *; exact want_step0 hXe4 (by assumption)) | (rw [hw] at *; exact want_step6 hXe4 (by assumption)) | exact want_step0 hXe4 (by omega) | (rw [hw]; exact want_step6 hXe4 (by omega))⟩
    ·intro hc
     have h17b := hc; clear hc
     have h17 : ¬ (wt = 0) := of_decide_eq_false h17b
     refine wp_skip <| q_bn <| q_tn <| w_reg <| rl_run F (run_move (F.ev rfl)) rfl ?_; clear F a; intro a F
     refine rl_run F (run_addi (F.ev rfl) (F.ev rfl) (in_i64 (by omega) (by omega))) rfl ?_; clear F a; intro a F
     refine rl_run F (run_assign (F.ev rfl)) rfl ?_; clear F a; intro a F
     refine rl_nil <| q_tn ?_
     exact ⟨_, by omega, i + 1, wt, rfl, F.to ⟨rfl, rfl, rfl, rfl, trivial⟩, M, by omega, by first | (rw [hw] at *; exact want_step0 hXe4 (by assumption)) | (rw [hw] at *; exact want_step6 hXe4 (by assumption)) | exact want_step0 hXe4 (by omega) | (rw [hw]; exact want_step6 hXe4 (by omega))⟩
  ·intro hc
   have h18b := hc; clear hc
   have h18 : ¬ (((i : Nat) : Int) < ((xs.length : Nat) : Int)) := of_decide_eq_false h18b
   refine wp_exit ?_
   iterate 2 (refine q_te ?_)
   refine q_bh <| q_tn <| wp_seq ?_
   have hwt : wt = wantF xs := by rw [hw, List.take_of_length_le (by omega)]
   have hte := want_text (xs := xs) (by omega)
   refine w_reg <| rl_run F (run_move (F.ev rfl)) rfl ?_; clear F a; intro a F
   refine rl_callS F ent11 rfl rfl (text_spec (xs := xs) M HG S) ?_; clear F M a; rintro _ w a M rfl F
   refine rl_run F (run_move (F.ev rfl)) rfl ?_; clear F a; intro a F
   refine rl_run F (run_extract (v := .string (str (textR xs))) (F.ev rfl) rfl) rfl ?_; clear F a; intro a F
   refine rl_run F (run_extract (v := .int .i64 (textE xs)) (F.ev rfl) rfl) rfl ?_; clear F a; intro a F
   iterate 2 (refine rl_run F (run_assign (F.ev rfl)) rfl ?_; clear F a; intro a F)
   refine rl_nil <| q_tn <| wp_seq <| w_reg ?_
   iterate 2 (refine rl_run F (run_move (F.ev rfl)) rfl ?_; clear F a; intro a F)
   refine rl_run F (run_eqi (F.ev rfl) (F.ev rfl)) rfl ?_; clear F a; intro a F
   refine rl_run F (run_move (F.ev rfl)) rfl ?_; clear F a; intro a F
   have hg19 : (decide (textE xs = wt)) = true := (decide_eq_true (by omega))
   refine rl_guard_t F rfl rfl rfl hg19 ?_
   refine rl_run F (run_move (F.ev rfl)) rfl ?_; clear F a; intro a F
   refine rl_guard_t F rfl rfl rfl hg19 ?_
   refine rl_run F (run_eqi (F.ev rfl) (F.ev rfl)) rfl ?_; clear F a; intro a F
   refine rl_guard_t F rfl rfl rfl hg19 ?_
   refine rl_run F (run_move (F.ev rfl)) rfl ?_; clear F a; intro a F
   rcases Bool.eq_false_or_eq_true (decide (wt = 0)) with hc | hc
   ·skip
    have h20b := hc; clear hc
    have h20 : wt = 0 := of_decide_eq_true h20b
    iterate 2 (refine rl_guard_f F rfl rfl rfl h20b ?_; clear F a; intro a F)
    refine rl_guard_t F rfl rfl rfl hg19 ?_
    refine rl_run F (run_pick_t (F.ev rfl) h20b (F.ev rfl)) rfl ?_; clear F a; intro a F
    refine rl_run F (run_pick_t (F.ev rfl) hg19 (F.ev rfl)) rfl ?_; clear F a; intro a F
    refine rl_run F (run_move (F.ev rfl)) rfl ?_; clear F a; intro a F
    refine rl_guard_t F rfl rfl rfl rfl ?_
    refine rl_callS F ent8 rfl rfl (lives_spec M HG) ?_; clear F M a; rintro _ w a M rfl F
    refine rl_run F (run_pick_t (F.ev rfl) rfl (F.ev rfl)) rfl ?_; clear F a; intro a F
    refine rl_run F (run_assign (F.ev rfl)) rfl ?_; clear F a; intro a F
    refine rl_nil <| q_tn <| wp_ret <| fin1 F rfl rfl ?_
    exact ⟨_, (Gle.refl _), M.weaken (List.Sublist.refl _), rfl⟩
   ·skip
    have h21b := hc; clear hc
    have h21 : ¬ (wt = 0) := of_decide_eq_false h21b
    refine rl_guard_t F rfl rfl rfl h21b ?_
    refine rl_run F (run_move (F.ev rfl)) rfl ?_; clear F a; intro a F
    refine rl_guard_t F rfl rfl rfl h21b ?_
    refine rl_run F (run_strEq (F.ev rfl) (F.ev rfl)) rfl ?_; clear F a; intro a F
    refine rl_guard_t F rfl rfl rfl hg19 ?_
    refine rl_run F (run_pick_f (F.ev rfl) h21b (F.ev rfl)) rfl ?_; clear F a; intro a F
    refine rl_run F (run_pick_t (F.ev rfl) hg19 (F.ev rfl)) rfl ?_; clear F a; intro a F
    refine rl_run F (run_move (F.ev rfl)) rfl ?_; clear F a; intro a F
    have hg22 : (decide ((textR xs) = ([] : List UInt8))) = true := (decide_eq_true (by exact (text_bad (by omega) (want_six (by omega)).1).2))
    refine rl_guard_t F rfl rfl rfl hg22 ?_
    refine rl_callS F ent8 rfl rfl (lives_spec M HG) ?_; clear F M a; rintro _ w a M rfl F
    refine rl_run F (run_pick_t (F.ev rfl) hg22 (F.ev rfl)) rfl ?_; clear F a; intro a F
    refine rl_run F (run_assign (F.ev rfl)) rfl ?_; clear F a; intro a F
    refine rl_nil <| q_tn <| wp_ret <| fin1 F rfl rfl ?_
    exact ⟨_, (Gle.refl _), M.weaken (List.Sublist.refl _), rfl⟩
theorem check_law {w0 w : World} {G : Ghost} {L : List Res} (M : Mem w0 G L w) (HG : Globs 0 1 2 3 G) {a1 : Option Addr} {c1 : Nat} {xs : List ItemD} (S : RdSl rdItem 4 G (.slice a1 xs.length c1) xs) {t : Int} : Calls Tryd.prog 3 #[.slice a1 xs.length c1, .int .i64 t] w (RetS w0 G L fun v => v = .bool true) := Ret.plain M (check_ret M HG S)
end Go.Proofs.YtmmhmcplegpenaaDoor
