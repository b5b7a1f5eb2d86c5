/- The walks, part T. -/
import Derived.Test.YtmmhmcplegpenaaDoorWalkP
namespace Go.Proofs.YtmmhmcplegpenaaDoor
open Go Go.Y Go.Proofs
set_option linter.unusedSimpArgs false
set_option linter.unusedVariables false
theorem line_spec {w0 w : World} {G : Ghost} {L : List Res} (M : Mem w0 G L w) (HG : Globs 0 1 2 3 G) {x : ItemD} {ma : Option Addr} {mc : Nat} (hI : (x.key < 18446744073709551616 ∧ x.typ < 256 ∧ x.text.length ≤ 9223372036854775807)) (SM : RdSl rdStr 1 G (.slice ma x.marks.length mc) x.marks) (hok : ItemOk 8 x) : Calls Tryd.prog 33 #[.agg #[.int .u64 (((x.key : Nat) : Int)), .int .u8 (((x.typ : Nat) : Int)), .string (str (x.text)), .slice (ma) (x.marks.length) (mc)]] w (RetS w0 G L fun v => v = .string (str (lineF x))) := by
 obtain ⟨hI1, hI2, hI3⟩ := id hI
 have hm8 := hok.2.2.2.1
 have hj := join_len16 hm8 hok.2.2.2.2
 have htx := hok.2.2.1.1
 have hdk := dec_len x.key hI1
 have hdt := dec_len x.typ (by omega)
 refine calls_start (vs := [_]) Tryd.func33 rfl (n := 25) rfl rfl ?_
 intro a F
 refine wp_seq <| w_reg <| rl_box F M rfl (cs := [.int .u64 (((x.key : Nat) : Int)), .int .u8 (((x.typ : Nat) : Int)), .string (str (x.text)), .slice (ma) (x.marks.length) (mc)]) rfl rfl ?_; clear F M a; intro b1 w a M F
 refine rl_run F (run_assign (F.ev rfl)) rfl ?_; clear F a; intro a F
 refine rl_nil <| q_tn <| wp_seq <| w_reg <| rl_run F (run_fieldAddr tok30.k rfl rfl (F.ev rfl)) rfl ?_; clear F a; intro a F
 refine rl_run F (run_load1 (agf tok28 rfl) (F.ev rfl) (M.cellL (k := 0) rfl rfl)) rfl ?_; clear F a; intro a F
 refine rl_callS F ent49 rfl rfl (join_spec (xs := x.marks) M SM (by omega) (by omega)) ?_; clear F M a; rintro _ w a M rfl F
 refine rl_run F (run_assign (F.ev rfl)) rfl ?_; clear F a; intro a F
 refine rl_nil <| q_tn ?_
 iterate 2 (refine wp_seq ?_)
 refine w_reg <| rl_run F (run_move (F.ev rfl)) rfl ?_; clear F a; intro a F
 refine rl_run F (run_strEq (F.ev rfl) (F.ev rfl)) rfl ?_; clear F a; intro a F
 refine rl_nil <| q_tn <| w_cond F rfl ?_ ?_
 ·intro hc
  have h2b := hc; clear hc
  have h2 : (Lib.join x.marks [44]) = ([] : List UInt8) := of_decide_eq_true h2b
  refine w_reg <| rl_run F (run_assign (F.ev rfl)) rfl ?_; clear F a; intro a F
  refine rl_nil <| q_tn <| wp_seq <| w_plan2 [(.free, 0), (.pure, 1), (.free, 4), (.pure, 5), (.free, 6), (.free, 10), (.free, 13), (.pure, 14), (.keep, 2), (.free, 3), (.keep, 7), (.free, 8), (.free, 9), (.free, 11), (.free, 12), (.free, 15), (.free, 16)] [] (Keep G [.blk b1 [.int .u64 (((x.key : Nat) : Int)), .int .u8 (((x.typ : Nat) : Int)), .string (str (x.text)), .slice (ma) (x.marks.length) (mc)] 30]) rfl (by kernel_rfl) (fun c a d v w h => by cases d <;> exact h) ((M.drew _).keep (Gle.refl _) (by simp)) ?_
  replace M := M.drew (w.drawn + 1)
  refine pk_free F (fun w _ => run_fieldAddr tok30.k rfl rfl (F.ev rfl)) rfl ?_; clear F a; intro a F
  refine pk_pure F (fun w M => run_load1 (agf tok27 rfl) (F.ev rfl) (M.cellL (k := 0) rfl rfl)) rfl ?_; clear F a; intro a F
  refine pk_free F (fun w _ => run_fieldAddr tok30.k rfl rfl (F.ev rfl)) rfl ?_; clear F a; intro a F
  refine pk_pure F (fun w M => run_load1 (agf tok5 rfl) (F.ev rfl) (M.cellL (k := 0) rfl rfl)) rfl ?_; clear F a; intro a F
  refine pk_free F (fun w _ => run_conv_int tok3.k ⟨_, by rw [under_int tok5.k]⟩ (F.ev rfl) (in_i64 (by omega) (by omega))) rfl ?_; clear F a; intro a F
  refine pk_free F (fun w _ => run_move (F.ev rfl)) rfl ?_; clear F a; intro a F
  refine pk_free F (fun w _ => run_fieldAddr tok30.k rfl rfl (F.ev rfl)) rfl ?_; clear F a; intro a F
  refine pk_pure F (fun w M => run_load1 (agf tok9 rfl) (F.ev rfl) (M.cellL (k := 0) rfl rfl)) rfl ?_; clear F a; intro a F
  refine pk_keep ?_ rfl
  refine rl_callS F ent50 rfl rfl (fu_spec (u := x.key) M HG (by omega)) ?_; clear F M a; rintro _ w a M rfl F
  refine rl_nil <| ⟨Keep G [.blk b1 [.int .u64 (((x.key : Nat) : Int)), .int .u8 (((x.typ : Nat) : Int)), .string (str (x.text)), .slice (ma) (x.marks.length) (mc)] 30], M.keep (Gle.refl _) (by simp), fun w h => h.mono (Gle.refl _) (by simp), ?_⟩
  refine pk_free F (fun w _ => run_strAdd (F.ev rfl) (F.ev rfl) (by (first | omega | (simp only [List.length_append, List.length_cons, List.length_nil]; omega)))) rfl ?_; clear F a; intro a F
  refine pk_keep ?_ rfl
  refine rl_callS F ent51 rfl rfl (itoa_spec (u := x.typ) M HG (by omega)) ?_; clear F M a; rintro _ w a M rfl F
  refine rl_nil <| ⟨Keep G [.blk b1 [.int .u64 (((x.key : Nat) : Int)), .int .u8 (((x.typ : Nat) : Int)), .string (str (x.text)), .slice (ma) (x.marks.length) (mc)] 30], M.keep (Gle.refl _) (by simp), fun w h => h.mono (Gle.refl _) (by simp), ?_⟩
  iterate 5 (refine pk_free F (fun w _ => run_strAdd (F.ev rfl) (F.ev rfl) (by (first | omega | (simp only [List.length_append, List.length_cons, List.length_nil]; omega)))) rfl ?_; clear F a; intro a F)
  refine pk_free F (fun w _ => run_assign (F.ev rfl)) rfl ?_; clear F a; intro a F
  refine pk_nil <| q_tn <| wp_ret <| fin1 F rfl rfl ?_
  exact ⟨M.weaken (.cons _ (List.Sublist.refl _)), by first | rw [line_join (by assumption)] | rw [line_dash (by assumption) hok]⟩
 ·intro hc
  have h3b := hc; clear hc
  have h3 : ¬ ((Lib.join x.marks [44]) = ([] : List UInt8)) := of_decide_eq_false h3b
  refine wp_skip <| q_tn <| wp_seq <| w_plan2 [(.free, 0), (.pure, 1), (.free, 4), (.pure, 5), (.free, 6), (.free, 10), (.free, 13), (.pure, 14), (.keep, 2), (.free, 3), (.keep, 7), (.free, 8), (.free, 9), (.free, 11), (.free, 12), (.free, 15), (.free, 16)] [] (Keep G [.blk b1 [.int .u64 (((x.key : Nat) : Int)), .int .u8 (((x.typ : Nat) : Int)), .string (str (x.text)), .slice (ma) (x.marks.length) (mc)] 30]) rfl (by kernel_rfl) (fun c a d v w h => by cases d <;> exact h) ((M.drew _).keep (Gle.refl _) (by simp)) ?_
  replace M := M.drew (w.drawn + 1)
  refine pk_free F (fun w _ => run_fieldAddr tok30.k rfl rfl (F.ev rfl)) rfl ?_; clear F a; intro a F
  refine pk_pure F (fun w M => run_load1 (agf tok27 rfl) (F.ev rfl) (M.cellL (k := 0) rfl rfl)) rfl ?_; clear F a; intro a F
  refine pk_free F (fun w _ => run_fieldAddr tok30.k rfl rfl (F.ev rfl)) rfl ?_; clear F a; intro a F
  refine pk_pure F (fun w M => run_load1 (agf tok5 rfl) (F.ev rfl) (M.cellL (k := 0) rfl rfl)) rfl ?_; clear F a; intro a F
  refine pk_free F (fun w _ => run_conv_int tok3.k ⟨_, by rw [under_int tok5.k]⟩ (F.ev rfl) (in_i64 (by omega) (by omega))) rfl ?_; clear F a; intro a F
  refine pk_free F (fun w _ => run_move (F.ev rfl)) rfl ?_; clear F a; intro a F
  refine pk_free F (fun w _ => run_fieldAddr tok30.k rfl rfl (F.ev rfl)) rfl ?_; clear F a; intro a F
  refine pk_pure F (fun w M => run_load1 (agf tok9 rfl) (F.ev rfl) (M.cellL (k := 0) rfl rfl)) rfl ?_; clear F a; intro a F
  refine pk_keep ?_ rfl
  refine rl_callS F ent50 rfl rfl (fu_spec (u := x.key) M HG (by omega)) ?_; clear F M a; rintro _ w a M rfl F
  refine rl_nil <| ⟨Keep G [.blk b1 [.int .u64 (((x.key : Nat) : Int)), .int .u8 (((x.typ : Nat) : Int)), .string (str (x.text)), .slice (ma) (x.marks.length) (mc)] 30], M.keep (Gle.refl _) (by simp), fun w h => h.mono (Gle.refl _) (by simp), ?_⟩
  refine pk_free F (fun w _ => run_strAdd (F.ev rfl) (F.ev rfl) (by (first | omega | (simp only [List.length_append, List.length_cons, List.length_nil]; omega)))) rfl ?_; clear F a; intro a F
  refine pk_keep ?_ rfl
  refine rl_callS F ent51 rfl rfl (itoa_spec (u := x.typ) M HG (by omega)) ?_; clear F M a; rintro _ w a M rfl F
  refine rl_nil <| ⟨Keep G [.blk b1 [.int .u64 (((x.key : Nat) : Int)), .int .u8 (((x.typ : Nat) : Int)), .string (str (x.text)), .slice (ma) (x.marks.length) (mc)] 30], M.keep (Gle.refl _) (by simp), fun w h => h.mono (Gle.refl _) (by simp), ?_⟩
  iterate 5 (refine pk_free F (fun w _ => run_strAdd (F.ev rfl) (F.ev rfl) (by (first | omega | (simp only [List.length_append, List.length_cons, List.length_nil]; omega)))) rfl ?_; clear F a; intro a F)
  refine pk_free F (fun w _ => run_assign (F.ev rfl)) rfl ?_; clear F a; intro a F
  refine pk_nil <| q_tn <| wp_ret <| fin1 F rfl rfl ?_
  exact ⟨M.weaken (.cons _ (List.Sublist.refl _)), by first | rw [line_join (by assumption)] | rw [line_dash (by assumption) hok]⟩
theorem text_spec {w0 w : World} {G : Ghost} {L : List Res} (M : Mem w0 G L w) (HG : Globs 0 1 2 3 G) {a1 : Option Addr} {c1 : Nat} {xs : List ItemD} (S : RdSl rdItem 4 G (.slice a1 xs.length c1) xs) :
  Calls Tryd.prog 11 #[.slice a1 xs.length c1] w (RetS w0 G L fun v => v = .tuple #[.string (str (textR xs)), .int .i64 (textE xs)]) := by
 have bS := S.bound
 refine calls_start (vs := [_]) Tryd.func11 rfl (n := 28) rfl rfl ?_
 intro a F
 refine wp_seq <| w_reg ?_
 iterate 2 (refine rl_run F (run_assign (F.ev rfl)) rfl ?_; clear F a; intro a F)
 refine rl_nil <| q_tn ?_
 iterate 2 (refine wp_seq ?_)
 refine w_reg <| rl_run F (run_move (F.ev rfl)) rfl ?_; clear F a; intro a F
 refine rl_run F (run_lenSl tok22.k (F.ev rfl)) rfl ?_; clear F a; intro a F
 refine rl_run F (run_gtr (F.ev rfl) (F.ev rfl)) rfl ?_; clear F a; intro a F
 refine rl_nil <| q_tn <| w_cond F rfl ?_ ?_
 ·intro hc
  have h1b := hc; clear hc
  have h1 : 1024 < ((xs.length : Nat) : Int) := of_decide_eq_true h1b
  refine wp_seq <| w_reg ?_
  iterate 2 (refine rl_run F (run_assign (F.ev rfl)) rfl ?_; clear F a; intro a F)
  refine rl_nil <| q_tn <| wp_ret <| q_tr <| fin2 F rfl rfl rfl ?_
  exact ⟨M, by rw [(text_big (by omega)).1, (text_big (by omega)).2]; rfl⟩
 ·intro hc
  have h2b := hc; clear hc
  have h2 : ¬ (1024 < ((xs.length : Nat) : Int)) := of_decide_eq_false h2b
  refine wp_skip <| q_tn <| wp_seq <| w_reg <| rl_alloc F M tok59 rfl rfl ?_; clear F M a; intro b3 w a M F
  refine rl_nil <| q_tn ?_
  iterate 2 (refine wp_seq ?_)
  change Mem w0 G (_ :: L) _ at M
  have M := (M.nilrow 5 1).perm (List.Perm.swap _ _ _)
  rw [show ([] : List Value) = bc [] from rfl] at M
  refine w_reg <| rl_run F (run_move (F.ev rfl)) rfl ?_; clear F a; intro a F
  refine rl_run F (run_lenSl tok22.k (F.ev rfl)) rfl ?_; clear F a; intro a F
  refine rl_run F (run_move (F.ev rfl)) rfl ?_; clear F a; intro a F
  refine rl_nil <| q_tn <| wp_block <| w_loopN (fun m a' w' => ∃ (i : Nat), ∃ (am : Option Addr), ∃ (nm : Nat), ∃ (cm : Nat), ∃ (pm : Value), m = xs.length - i ∧ Fits 28 a' [(0, .slice (a1) (xs.length) (c1)), (4, .pointer (some ⟨b3, 0, none⟩)), (11, .slice (a1) (xs.length) (c1)), (12, .int .i64 (((xs.length : Nat) : Int))), (13, .int .i64 (((i : Nat) : Int)))] ∧ Mem w0 G (.blk b3 [pm, .slice (am) (nm) (cm)] 59 :: .row (.slice (am) (nm) (cm)) (nm) (bc (textF (xs.take i))) 5 1 :: L) w' ∧ (i ≤ xs.length) ∧ ((textF (xs.take i)).length ≤ 301 * i) ∧ (∀ (m : Nat) (x : ItemD), m < i → xs[m]? = some x → ItemOk 8 x) ∧ (pm = .pointer none ∨ pm = .pointer (some ⟨b3, 0, none⟩)) ∧ (nm = (textF (xs.take i)).length) ∧ ((textF (xs.take i)) = [] → am = none)) _ ⟨0, (none), (0), (0), (.pointer none), rfl, F.to ⟨rfl, rfl, rfl, rfl, rfl, trivial⟩, M, Nat.zero_le _, by simp [textF], fun m x h => by omega, (Or.inl rfl), rfl, (fun _ => rfl)⟩ ?_
  clear F M
  rintro m a w ⟨i, am, nm, cm, pm, rfl, F, M, hi, hlen, hA, hpm, hnm, hnilm⟩
  refine wp_seq <| w_reg <| rl_run F (run_lss (F.ev rfl) (F.ev rfl)) rfl ?_; clear F a; intro a F
  refine rl_nil <| q_tn <| wp_seq <| w_cond F rfl ?_ ?_
  ·intro hc
   have h5b := hc; clear hc
   have h5 : ((i : Nat) : Int) < ((xs.length : Nat) : Int) := of_decide_eq_true h5b
   refine wp_skip <| q_tn <| wp_seq <| wp_block <| wp_seq <| w_reg ?_
   obtain ⟨Xe6, hXe6⟩ := get_of_lt (xs := xs) (i := i) (by omega)
   obtain ⟨be6, oe6, _, Ie6, _, Ae6, hTe6⟩ := S.at hXe6
   obtain ⟨mae6, mce6, rfl, hke6, hte6, hxe6, hne6, SMe6⟩ := hTe6
   have hIe6 : (Xe6.key < 18446744073709551616 ∧ Xe6.typ < 256 ∧ Xe6.text.length ≤ 9223372036854775807) := ⟨hke6, hte6, hxe6⟩
   refine rl_run F (run_indexI tok22.k tok30 (F.ev rfl) (F.ev rfl) (by omega) Ie6) rfl ?_; clear F a; intro a F
   refine rl_run F (run_loadA tok30 rfl (F.ev rfl) (cs := [.int .u64 (((Xe6.key : Nat) : Int)), .int .u8 (((Xe6.typ : Nat) : Int)), .string (str (Xe6.text)), .slice (mae6) (Xe6.marks.length) (mce6)]) rfl (M.cellsA Ae6 0 (by omega) rfl)) rfl ?_; clear F a; intro a F
   refine rl_alloc F M tok30 rfl rfl ?_; clear F M a; intro b7 w a M F
   refine rl_storeA F M tok30 (k := 0) rfl rfl rfl (us := [.int .u64 (((Xe6.key : Nat) : Int)), .int .u8 (((Xe6.typ : Nat) : Int)), .string (str (Xe6.text)), .slice (mae6) (Xe6.marks.length) (mce6)]) rfl rfl (by simp [Value.oneCell']) (by simp) ?_; clear F M a; intro w a M F
   change Mem w0 G (.blk b7 [.int .u64 (((Xe6.key : Nat) : Int)), .int .u8 (((Xe6.typ : Nat) : Int)), .string (str (Xe6.text)), .slice (mae6) (Xe6.marks.length) (mce6)] 30 :: _ :: _ :: L) _ at M
   refine rl_nil <| q_tn ?_
   iterate 2 (refine wp_seq ?_)
   refine w_reg <| rl_run F (run_loadA tok30 rfl (F.ev rfl) (cs := [.int .u64 (((Xe6.key : Nat) : Int)), .int .u8 (((Xe6.typ : Nat) : Int)), .string (str (Xe6.text)), .slice (mae6) (Xe6.marks.length) (mce6)]) rfl (M.cellsL (k := 0) rfl rfl)) rfl ?_; clear F a; intro a F
   refine rl_callS F ent9 rfl rfl (check_spec (x := Xe6) (t := 8) M hIe6 SMe6) ?_; clear F M a; rintro _ w a M rfl F
   refine rl_run F (run_assign (F.ev rfl)) rfl ?_; clear F a; intro a F
   refine rl_nil <| q_tn <| wp_seq <| w_reg <| rl_run F (run_move (F.ev rfl)) rfl ?_; clear F a; intro a F
   refine rl_run F (run_nei (F.ev rfl) (F.ev rfl)) rfl ?_; clear F a; intro a F
   refine rl_nil <| q_tn <| w_cond F rfl ?_ ?_
   ·intro hc
    have h9b := hc; clear hc
    have h9 : ¬ (itmF 8 Xe6 = 0) := of_decide_eq_false (of_not_t h9b)
    have h9c : (decide (itmF 8 Xe6 = 0)) = false := (of_not_t h9b)
    refine wp_seq <| w_reg <| rl_run F (run_move (F.ev rfl)) rfl ?_; clear F a; intro a F
    iterate 2 (refine rl_run F (run_assign (F.ev rfl)) rfl ?_; clear F a; intro a F)
    refine rl_nil <| q_tn <| wp_ret <| q_tr <| q_br ?_
    iterate 2 (refine q_tr ?_)
    refine q_br <| q_tr <| fin2 F rfl rfl rfl ?_
    exact ⟨(M.weaken (.cons _ (.cons _ (.cons _ (List.Sublist.refl _))))), by rw [(text_bad (by omega) (AllOk.no hXe6 (fun h_ => by have := itmF_yes h_; omega))).1, (text_bad (by omega) (AllOk.no hXe6 (fun h_ => by have := itmF_yes h_; omega))).2, itmF_no (fun h_ => by have := itmF_yes h_; omega)]; rfl⟩
   ·intro hc
    have h10b := hc; clear hc
    have h10 : itmF 8 Xe6 = 0 := of_decide_eq_true (of_not_f h10b)
    have h10c : (decide (itmF 8 Xe6 = 0)) = true := (of_not_f h10b)
    refine wp_skip <| q_tn ?_
    have hokX : ItemOk 8 Xe6 := itmF_zero.1 (by omega)
    refine w_reg <| rl_run F (run_loadA tok30 rfl (F.ev rfl) (cs := [.int .u64 (((Xe6.key : Nat) : Int)), .int .u8 (((Xe6.typ : Nat) : Int)), .string (str (Xe6.text)), .slice (mae6) (Xe6.marks.length) (mce6)]) rfl (M.cellsL (k := 0) rfl rfl)) rfl ?_; clear F a; intro a F
    refine rl_callS F ent33 rfl rfl (line_spec (x := Xe6) M HG hIe6 SMe6 hokX) ?_; clear F M a; rintro _ w a M rfl F
    have hlll11 := line_len (x := Xe6) hokX hIe6.1 hIe6.2.1
    refine rl_run F (run_strAdd (F.ev rfl) (F.ev rfl) (by (first | omega | (simp only [List.length_append, List.length_cons, List.length_nil]; omega)))) rfl ?_; clear F a; intro a F
    replace M := M.perm (perm_front _ 2 _ rfl)
    replace M := M.perm (perm_front _ 2 _ rfl)
    change Mem w0 G (_ :: _ :: .blk b7 [.int .u64 (((Xe6.key : Nat) : Int)), .int .u8 (((Xe6.typ : Nat) : Int)), .string (str (Xe6.text)), .slice (mae6) (Xe6.marks.length) (mce6)] 30 :: L) _ at M
    refine rl_callL F ent32 rfl rfl (wstr_spec (s := ((lineF Xe6) ++ ([10] : List UInt8))) hpm M hnm hnilm (by (first | omega | (simp only [List.length_append, List.length_cons, List.length_nil]; omega)))) ?_; clear F M a; rintro _ _ w a M ⟨rfl, au12, nu12, cu12, rfl, hnu12, hnilu12⟩ F
    refine rl_nil <| q_bn <| q_tn <| w_reg <| rl_run F (run_addi (F.ev rfl) (F.ev rfl) (in_i64 (by omega) (by omega))) rfl ?_; clear F a; intro a F
    refine rl_run F (run_move (F.ev rfl)) rfl ?_; clear F a; intro a F
    refine rl_nil <| q_tn ?_
    have hsn : (textF (xs.take i)) ++ ((lineF Xe6) ++ ([10] : List UInt8)) = textF (xs.take (i + 1)) := by rw [textF_snoc hXe6]
    rw [hsn] at M hnu12 hnilu12
    exact ⟨_, by omega, i + 1, (au12), (nu12), (cu12), (.pointer (some ⟨b3, 0, none⟩)), rfl, F.to ⟨rfl, rfl, rfl, rfl, rfl, trivial⟩, (M.weaken (.cons_cons _ (.cons_cons _ (.cons _ (List.Sublist.refl _))))), by omega, by rw [← hsn]; simp only [List.length_append, List.length_cons, List.length_nil]; omega, all_step hA hXe6 hokX, (Or.inr rfl), hnu12, hnilu12⟩
  ·intro hc
   have h13b := hc; clear hc
   have h13 : ¬ (((i : Nat) : Int) < ((xs.length : Nat) : Int)) := of_decide_eq_false h13b
   refine wp_exit ?_
   iterate 2 (refine q_te ?_)
   refine q_bh <| q_tn <| wp_seq <| w_reg ?_
   replace M := M.perm (perm_front _ 1 _ rfl)
   replace M := M.perm (perm_front _ 1 _ rfl)
   change Mem w0 G (_ :: _ :: L) _ at M
   refine rl_callS F ent34 rfl rfl (bstr_spec M hnm hnilm) ?_; clear F M a; rintro _ w a M rfl F
   iterate 2 (refine rl_run F (run_assign (F.ev rfl)) rfl ?_; clear F a; intro a F)
   refine rl_nil <| q_tn <| wp_ret <| fin2 F rfl rfl rfl ?_
   exact ⟨M, by rw [(text_ok (by omega) (all_end hA (by omega))).1, (text_ok (by omega) (all_end hA (by omega))).2, List.take_of_length_le (by omega)]⟩
end Go.Proofs.YtmmhmcplegpenaaDoor
