/- The walks, part W. -/
import Derived.Test.YtmmhmcplegpenaaDoorWalkL
namespace Go.Proofs.YtmmhmcplegpenaaDoor
open Go Go.Y Go.Proofs
set_option linter.unusedSimpArgs false
set_option linter.unusedVariables false
theorem items_b {G : Ghost} {a : Option Addr} {c : Nat} {xs : List ItemD} (S : RdSl rdItem 4 G (.slice a xs.length c) xs) : ∀ x ∈ xs, x.key < 18446744073709551616 ∧ x.typ < 256 := by
 intro x hx
 obtain ⟨i, hi⟩ := List.mem_iff_getElem?.1 hx
 obtain ⟨b, o, cs, _, _, _, _, hr⟩ := S.index hi
 obtain ⟨a', c', _, h1, h2, _⟩ := hr
 exact ⟨h1, h2⟩
theorem text_ret {w0 w : World} {G : Ghost} {L : List Res} (M : Mem w0 G L w) (HG : Globs 0 1 2 3 G) {a1 : Option Addr} {c1 : Nat} {xs : List ItemD} (S : RdSl rdItem 4 G (.slice a1 xs.length c1) xs) : Calls Tryd.prog 4 #[.slice a1 xs.length c1] w (Ret w0 G L fun _ v => v = .bool true) := by
 have bS := S.bound
 refine calls_start (vs := [_]) Tryd.func4 rfl (n := 76) rfl rfl ?_
 intro a F
 refine wp_seq <| w_reg <| rl_run F (run_assign (F.ev rfl)) rfl ?_; clear F a; intro a F
 refine rl_nil <| q_tn ?_
 iterate 2 (refine wp_seq ?_)
 refine w_reg <| rl_run F (run_move (F.ev rfl)) rfl ?_; clear F a; intro a F
 refine rl_callS F ent7 rfl rfl (few_spec (xs := xs) M S) ?_; clear F M a; rintro _ w a M rfl F
 refine rl_run F (run_eqi (F.ev rfl) (F.ev rfl)) rfl ?_; clear F a; intro a F
 refine rl_nil <| q_tn <| w_cond F rfl ?_ ?_
 ·intro hc
  have h1b := hc; clear hc
  have h1 : (if Few xs then (1 : Int) else 0) = 0 := of_decide_eq_true h1b
  refine wp_seq <| w_reg <| rl_callS F ent8 rfl rfl (lives_spec M HG) ?_; clear F M a; rintro _ w a M rfl F
  refine rl_run F (run_assign (F.ev rfl)) rfl ?_; clear F a; intro a F
  refine rl_nil <| q_tn <| wp_ret <| q_tr <| fin1 F rfl rfl ?_
  exact ⟨_, (Gle.refl _), M.weaken (List.Sublist.refl _), rfl⟩
 ·intro hc
  have h2b := hc; clear hc
  have h2 : ¬ ((if Few xs then (1 : Int) else 0) = 0) := of_decide_eq_false h2b
  refine wp_skip <| q_tn <| wp_seq ?_
  have hFw : Few xs := Classical.byContradiction fun h_ => by rw [if_neg h_] at *; omega
  have hF30 := hFw.1
  refine w_reg <| rl_run F (run_assign (F.ev rfl)) rfl ?_; clear F a; intro a F
  refine rl_nil <| q_tn ?_
  iterate 2 (refine wp_seq ?_)
  refine w_reg <| rl_run F (run_assign (F.ev rfl)) rfl ?_; clear F a; intro a F
  refine rl_nil <| q_tn <| wp_block <| w_loopN (fun m a' w' => ∃ (i : Nat), m = xs.length - i ∧ Fits 76 a' [(0, .slice (a1) (xs.length) (c1)), (3, .string (str (textF (xs.take i)))), (4, .int .i64 (((i : Nat) : Int)))] ∧ Mem w0 G (L) w' ∧ (i ≤ xs.length) ∧ ((textF (xs.take i)).length ≤ 301 * i) ∧ (∀ (m : Nat) (x : ItemD), m < i → xs[m]? = some x → ItemOk 8 x)) _ ⟨0, rfl, F.to ⟨rfl, rfl, rfl, trivial⟩, M, by omega, by simp [textF], fun m x h => by omega⟩ ?_
  clear F M
  rintro m a w ⟨i, rfl, F, M, hi, hlen, hA⟩
  iterate 2 (refine wp_seq ?_)
  refine w_reg ?_
  iterate 2 (refine rl_run F (run_move (F.ev rfl)) rfl ?_; clear F a; intro a F)
  refine rl_run F (run_lenSl tok22.k (F.ev rfl)) rfl ?_; clear F a; intro a F
  refine rl_run F (run_lss (F.ev rfl) (F.ev rfl)) rfl ?_; clear F a; intro a F
  refine rl_nil <| q_tn <| w_cond F rfl ?_ ?_
  ·intro hc
   have h3b := hc; clear hc
   have h3 : ((i : Nat) : Int) < ((xs.length : Nat) : Int) := of_decide_eq_true h3b
   refine wp_skip <| q_tn <| wp_seq <| wp_block ?_
   iterate 2 (refine wp_seq ?_)
   refine w_reg ?_
   iterate 2 (refine rl_run F (run_move (F.ev rfl)) rfl ?_; clear F a; intro a F)
   obtain ⟨Xe4, hXe4⟩ := get_of_lt (xs := xs) (i := i) (by omega)
   obtain ⟨be4, oe4, _, Ie4, _, Ae4, hTe4⟩ := S.at hXe4
   obtain ⟨mae4, mce4, rfl, hke4, hte4, hxe4, hne4, SMe4⟩ := hTe4
   have hIe4 : (Xe4.key < 18446744073709551616 ∧ Xe4.typ < 256 ∧ Xe4.text.length ≤ 9223372036854775807) := ⟨hke4, hte4, hxe4⟩
   refine rl_run F (run_indexI tok22.k tok30 (F.ev rfl) (F.ev rfl) (by omega) Ie4) rfl ?_; clear F a; intro a F
   refine rl_run F (run_loadA tok30 rfl (F.ev rfl) (cs := [.int .u64 (((Xe4.key : Nat) : Int)), .int .u8 (((Xe4.typ : Nat) : Int)), .string (str (Xe4.text)), .slice (mae4) (Xe4.marks.length) (mce4)]) rfl (M.cellsA Ae4 0 (by omega) rfl)) rfl ?_; clear F a; intro a F
   refine rl_callS F ent10 rfl rfl (rcheck_spec (x := Xe4) (t := 8) M hIe4 SMe4) ?_; clear F M a; rintro _ w a M rfl F
   refine rl_run F (run_gtr (F.ev rfl) (F.ev rfl)) rfl ?_; clear F a; intro a F
   refine rl_nil <| q_tn <| w_cond F rfl ?_ ?_
   ·intro hc
    have h5b := hc; clear hc
    have h5 : 0 < itmF 8 Xe4 := of_decide_eq_true h5b
    refine wp_seq <| w_reg <| rl_callS F ent8 rfl rfl (lives_spec M HG) ?_; clear F M a; rintro _ w a M rfl F
    refine rl_run F (run_assign (F.ev rfl)) rfl ?_; clear F a; intro a F
    refine rl_nil <| q_tn <| wp_ret <| q_tr <| q_br ?_
    iterate 2 (refine q_tr ?_)
    refine q_br <| q_tr <| fin1 F rfl rfl ?_
    exact ⟨_, (Gle.refl _), M.weaken (List.Sublist.refl _), rfl⟩
   ·intro hc
    have h6b := hc; clear hc
    have h6 : ¬ (0 < itmF 8 Xe4) := of_decide_eq_false h6b
    refine wp_skip <| q_tn ?_
    have hokX : ItemOk 8 Xe4 := itmF_le (by assumption)
    refine w_reg ?_
    iterate 3 (refine rl_run F (run_move (F.ev rfl)) rfl ?_; clear F a; intro a F)
    obtain ⟨be7, oe7, _, Ie7, _, Ae7, hTe7⟩ := S.at hXe4
    obtain ⟨mae7, mce7, rfl, hke7, hte7, hxe7, hne7, SMe7⟩ := hTe7
    have hIe7 : (Xe4.key < 18446744073709551616 ∧ Xe4.typ < 256 ∧ Xe4.text.length ≤ 9223372036854775807) := ⟨hke7, hte7, hxe7⟩
    refine rl_run F (run_indexI tok22.k tok30 (F.ev rfl) (F.ev rfl) (by omega) Ie7) rfl ?_; clear F a; intro a F
    refine rl_run F (run_loadA tok30 rfl (F.ev rfl) (cs := [.int .u64 (((Xe4.key : Nat) : Int)), .int .u8 (((Xe4.typ : Nat) : Int)), .string (str (Xe4.text)), .slice (mae7) (Xe4.marks.length) (mce7)]) rfl (M.cellsA Ae7 0 (by omega) rfl)) rfl ?_; clear F a; intro a F
    refine rl_callS F ent12 rfl rfl (rline_spec (x := Xe4) M hIe7 SMe7 hokX) ?_; clear F M a; rintro _ w a M rfl F
    have hlll8 := line_len (x := Xe4) hokX hIe7.1 hIe7.2.1
    refine rl_run F (run_strAdd (F.ev rfl) (F.ev rfl) (by (first | omega | (simp only [List.length_append, List.length_cons, List.length_nil]; omega)))) rfl ?_; clear F a; intro a F
    refine rl_run F (run_assign (F.ev rfl)) rfl ?_; clear F a; intro a F
    refine rl_nil <| q_bn <| q_tn <| w_reg <| rl_run F (run_move (F.ev rfl)) rfl ?_; clear F a; intro a F
    refine rl_run F (run_addi (F.ev rfl) (F.ev rfl) (in_i64 (by omega) (by omega))) rfl ?_; clear F a; intro a F
    refine rl_run F (run_assign (F.ev rfl)) rfl ?_; clear F a; intro a F
    refine rl_nil <| q_tn ?_
    rw [← textF_snoc hXe4] at F
    exact ⟨_, by omega, i + 1, rfl, F.to ⟨rfl, rfl, rfl, trivial⟩, M, by omega, by rw [textF_snoc hXe4]; simp only [List.length_append, List.length_cons, List.length_nil]; omega, all_step hA hXe4 hokX⟩
  ·intro hc
   have h9b := hc; clear hc
   have h9 : ¬ (((i : Nat) : Int) < ((xs.length : Nat) : Int)) := of_decide_eq_false h9b
   refine wp_exit ?_
   iterate 2 (refine q_te ?_)
   refine q_bh <| q_tn <| wp_seq ?_
   have hT : textF (xs.take i) = textF xs := by rw [List.take_of_length_le (by omega)]
   rw [hT] at F hlen
   have hAll : AllOk xs := all_end hA (by omega)
   have hto := text_ok (by omega) hAll
   have hpp := parse_textF hAll (fun x hx => (items_b S x hx).1) (by omega) (by omega)
   refine w_reg <| rl_run F (run_move (F.ev rfl)) rfl ?_; clear F a; intro a F
   refine rl_callS F ent11 rfl rfl (text_spec (xs := xs) M HG S) ?_; clear F M a; rintro _ w a M rfl F
   refine rl_run F (run_move (F.ev rfl)) rfl ?_; clear F a; intro a F
   refine rl_run F (run_extract (v := .string (str (textR xs))) (F.ev rfl) rfl) rfl ?_; clear F a; intro a F
   refine rl_run F (run_extract (v := .int .i64 (textE xs)) (F.ev rfl) rfl) rfl ?_; clear F a; intro a F
   iterate 2 (refine rl_run F (run_assign (F.ev rfl)) rfl ?_; clear F a; intro a F)
   refine rl_nil <| q_tn <| wp_seq <| w_reg <| rl_run F (run_move (F.ev rfl)) rfl ?_; clear F a; intro a F
   refine rl_call F ent13 rfl rfl (parse_spec (s := (textF xs)) M HG (by omega)) ?_; clear F M a; rintro _ Gq10 w a hGq10 M ⟨aq10, rfl, Sq10⟩ F
   replace S := S.mono mono_rdItem hGq10
   replace HG := HG.mono hGq10
   refine rl_run F (run_move (F.ev rfl)) rfl ?_; clear F a; intro a F
   refine rl_run F (run_extract (v := .slice (aq10) ((parseF (textF xs)).1.length) ((parseF (textF xs)).1.length)) (F.ev rfl) rfl) rfl ?_; clear F a; intro a F
   refine rl_run F (run_extract (v := .int .i64 ((((parseF (textF xs)).2.1 : Nat) : Int))) (F.ev rfl) rfl) rfl ?_; clear F a; intro a F
   refine rl_run F (run_extract (v := .int .i64 ((parseF (textF xs)).2.2)) (F.ev rfl) rfl) rfl ?_; clear F a; intro a F
   iterate 3 (refine rl_run F (run_assign (F.ev rfl)) rfl ?_; clear F a; intro a F)
   refine rl_nil <| q_tn <| wp_seq <| w_reg <| rl_run F (run_move (F.ev rfl)) rfl ?_; clear F a; intro a F
   refine rl_run F (run_eqi (F.ev rfl) (F.ev rfl)) rfl ?_; clear F a; intro a F
   refine rl_run F (run_move (F.ev rfl)) rfl ?_; clear F a; intro a F
   have hg11 : (decide (textE xs = 0)) = true := (decide_eq_true (by exact hto.1))
   refine rl_guard_t F rfl rfl rfl hg11 ?_
   refine rl_run F (run_move (F.ev rfl)) rfl ?_; clear F a; intro a F
   refine rl_guard_t F rfl rfl rfl hg11 ?_
   refine rl_run F (run_move (F.ev rfl)) rfl ?_; clear F a; intro a F
   refine rl_guard_t F rfl rfl rfl hg11 ?_
   refine rl_run F (run_strEq (F.ev rfl) (F.ev rfl)) rfl ?_; clear F a; intro a F
   refine rl_run F (run_pick_t (F.ev rfl) hg11 (F.ev rfl)) rfl ?_; clear F a; intro a F
   refine rl_run F (run_move (F.ev rfl)) rfl ?_; clear F a; intro a F
   have hg12 : (decide ((textR xs) = (textF xs))) = true := (decide_eq_true (by exact hto.2))
   refine rl_guard_t F rfl rfl rfl hg12 ?_
   refine rl_run F (run_move (F.ev rfl)) rfl ?_; clear F a; intro a F
   refine rl_guard_t F rfl rfl rfl hg12 ?_
   refine rl_run F (run_eqi (F.ev rfl) (F.ev rfl)) rfl ?_; clear F a; intro a F
   refine rl_run F (run_pick_t (F.ev rfl) hg12 (F.ev rfl)) rfl ?_; clear F a; intro a F
   refine rl_run F (run_move (F.ev rfl)) rfl ?_; clear F a; intro a F
   have hg13 : (decide ((parseF (textF xs)).2.2 = 0)) = true := (decide_eq_true (by rw [hpp]))
   refine rl_guard_t F rfl rfl rfl hg13 ?_
   refine rl_run F (run_move (F.ev rfl)) rfl ?_; clear F a; intro a F
   refine rl_guard_t F rfl rfl rfl hg13 ?_
   refine rl_run F (run_eqi (F.ev rfl) (F.ev rfl)) rfl ?_; clear F a; intro a F
   refine rl_run F (run_pick_t (F.ev rfl) hg13 (F.ev rfl)) rfl ?_; clear F a; intro a F
   refine rl_run F (run_move (F.ev rfl)) rfl ?_; clear F a; intro a F
   have hg14 : (decide ((((parseF (textF xs)).2.1 : Nat) : Int) = 0)) = true := (decide_eq_true (by (rw [hpp]; rfl)))
   refine rl_guard_t F rfl rfl rfl hg14 ?_
   refine rl_run F (run_move (F.ev rfl)) rfl ?_; clear F a; intro a F
   refine rl_guard_t F rfl rfl rfl hg14 ?_
   refine rl_run F (run_move (F.ev rfl)) rfl ?_; clear F a; intro a F
   refine rl_guard_t F rfl rfl rfl hg14 ?_
   refine rl_callS F ent14 rfl rfl (rsameall_spec (xs := (parseF (textF xs)).1) (ys := xs) M Sq10 S) ?_; clear F M a; rintro _ w a M rfl F
   refine rl_guard_t F rfl rfl rfl hg14 ?_
   refine rl_run F (run_eqi (F.ev rfl) (F.ev rfl)) rfl ?_; clear F a; intro a F
   refine rl_run F (run_pick_t (F.ev rfl) hg14 (F.ev rfl)) rfl ?_; clear F a; intro a F
   refine rl_run F (run_move (F.ev rfl)) rfl ?_; clear F a; intro a F
   have hg15 : (decide ((if ((parseF (textF xs)).1) = xs then (1 : Int) else 0) = 1)) = true := (decide_eq_true (by (rw [hpp, if_pos rfl])))
   refine rl_guard_t F rfl rfl rfl hg15 ?_
   refine rl_run F (run_move (F.ev rfl)) rfl ?_; clear F a; intro a F
   refine rl_guard_t F rfl rfl rfl hg15 ?_
   refine rl_run F (run_capSl tok22.k (F.ev rfl)) rfl ?_; clear F a; intro a F
   refine rl_guard_t F rfl rfl rfl hg15 ?_
   refine rl_run F (run_move (F.ev rfl)) rfl ?_; clear F a; intro a F
   refine rl_guard_t F rfl rfl rfl hg15 ?_
   refine rl_run F (run_lenSl tok22.k (F.ev rfl)) rfl ?_; clear F a; intro a F
   refine rl_guard_t F rfl rfl rfl hg15 ?_
   refine rl_run F (run_eqi (F.ev rfl) (F.ev rfl)) rfl ?_; clear F a; intro a F
   refine rl_run F (run_pick_t (F.ev rfl) hg15 (F.ev rfl)) rfl ?_; clear F a; intro a F
   refine rl_run F (run_move (F.ev rfl)) rfl ?_; clear F a; intro a F
   refine rl_guard_t F rfl rfl rfl (decide_eq_true rfl) ?_
   refine rl_callS F ent8 rfl rfl (lives_spec M HG) ?_; clear F M a; rintro _ w a M rfl F
   refine rl_run F (run_pick_t (F.ev rfl) (decide_eq_true rfl) (F.ev rfl)) rfl ?_; clear F a; intro a F
   refine rl_run F (run_assign (F.ev rfl)) rfl ?_; clear F a; intro a F
   refine rl_nil <| q_tn <| wp_ret <| fin1 F rfl rfl ?_
   exact ⟨_, hGq10, M.weaken (List.Sublist.refl _), rfl⟩
theorem text_law {w0 w : World} {G : Ghost} {L : List Res} (M : Mem w0 G L w) (HG : Globs 0 1 2 3 G) {a1 : Option Addr} {c1 : Nat} {xs : List ItemD} (S : RdSl rdItem 4 G (.slice a1 xs.length c1) xs) : Calls Tryd.prog 4 #[.slice a1 xs.length c1] w (RetS w0 G L fun v => v = .bool true) := Ret.plain M (text_ret M HG S)
end Go.Proofs.YtmmhmcplegpenaaDoor
