/- The walks, part NC. -/
import Derived.Test.YtlnehkjmmegkhaaGreatWalkNB
import Derived.Test.YtlnehkjmmegkhaaGreatWalkQ
namespace Go.Proofs.YtlnehkjmmegkhaaGreat
open Go Go.Y Go.Proofs
set_option linter.unusedSimpArgs false
set_option linter.unusedVariables false
def ntgS : List (List UInt8) := [[97], [98], [112, 49], [115, 105, 120, 116, 101, 101, 110, 98, 121, 116, 101, 115, 116, 97, 103, 48]]
theorem ntgE {G : Ghost} : Els rdStr 1 G [.string (str ([97] : List UInt8)), .string (str ([98] : List UInt8)), .string (str ([112, 49] : List UInt8)), .string (str ([115, 105, 120, 116, 101, 101, 110, 98, 121, 116, 101, 115, 116, 97, 103, 48] : List UInt8))] ntgS :=
 Els.cons (c := [_]) ⟨rfl, by decide⟩ rfl (Els.cons (c := [_]) ⟨rfl, by decide⟩ rfl (Els.cons (c := [_]) ⟨rfl, by decide⟩ rfl (Els.one ⟨rfl, by decide⟩ rfl)))
def navS : List (List UInt8) := [[], [120], [97, 34, 98, 92, 99], [32, 126]]
theorem navE {G : Ghost} : Els rdStr 1 G [.string (str ([] : List UInt8)), .string (str ([120] : List UInt8)), .string (str ([97, 34, 98, 92, 99] : List UInt8)), .string (str ([32, 126] : List UInt8))] navS :=
 Els.cons (c := [_]) ⟨rfl, by decide⟩ rfl (Els.cons (c := [_]) ⟨rfl, by decide⟩ rfl (Els.cons (c := [_]) ⟨rfl, by decide⟩ rfl (Els.one ⟨rfl, by decide⟩ rfl)))
def nwdS : List (List UInt8) := [[], [120], [104, 105, 32, 34, 121, 111, 117, 92], [48]]
theorem nwdE {G : Ghost} : Els rdStr 1 G [.string (str ([] : List UInt8)), .string (str ([120] : List UInt8)), .string (str ([104, 105, 32, 34, 121, 111, 117, 92] : List UInt8)), .string (str ([48] : List UInt8))] nwdS :=
 Els.cons (c := [_]) ⟨rfl, by decide⟩ rfl (Els.cons (c := [_]) ⟨rfl, by decide⟩ rfl (Els.cons (c := [_]) ⟨rfl, by decide⟩ rfl (Els.one ⟨rfl, by decide⟩ rfl)))
def nkyS : List (List UInt8) := [[107, 48], [107, 49], [107, 50], [107, 51]]
theorem nkyE {G : Ghost} : Els rdStr 1 G [.string (str ([107, 48] : List UInt8)), .string (str ([107, 49] : List UInt8)), .string (str ([107, 50] : List UInt8)), .string (str ([107, 51] : List UInt8))] nkyS :=
 Els.cons (c := [_]) ⟨rfl, by decide⟩ rfl (Els.cons (c := [_]) ⟨rfl, by decide⟩ rfl (Els.cons (c := [_]) ⟨rfl, by decide⟩ rfl (Els.one ⟨rfl, by decide⟩ rfl)))
theorem ntgS_ok : ∀ s ∈ ntgS, Name s := by decide
theorem navS_ok : ∀ s ∈ navS, Str s := by decide
theorem nwdS_ok : ∀ s ∈ nwdS, Str s := by decide
theorem nkyS_ok : ∀ s ∈ nkyS, Name s := by decide
/-- The attributes that were made of the first names. -/
structure AtInv (i : Nat) (ss : List AttrD) : Prop where
 to : AttrsOk ss
 le : ss.length ≤ i
 last : ∀ y, 0 < ss.length → ss[ss.length - 1]? = some y → ∃ j, j < i ∧ snS[j]? = some y.n
theorem AtInv.zero : AtInv 0 [] := ⟨fun i x h => by simp at h, Nat.le_refl _, fun y h => by simp at h⟩
theorem AtInv.skip {i : Nat} {ss : List AttrD} (h : AtInv i ss) : AtInv (i + 1) ss := ⟨h.to, by have := h.le; omega, fun y h1 h2 => by obtain ⟨j, hj, hy⟩ := h.last y h1 h2; exact ⟨j, by omega, hy⟩⟩
theorem AtInv.add {i : Nat} {ss : List AttrD} (h : AtInv i ss) {x : AttrD} (hi : i < 3) (hX : snS[i]? = some x.n) (hx : Name x.n ∧ Str x.v) : AtInv (i + 1) (ss ++ [x]) := by
 have hl : (ss ++ [x]).length = ss.length + 1 := by simp
 refine ⟨fun m z hz => ?_, by have := h.le; rw [hl]; omega, fun y h1 h2 => ?_⟩
 ·rcases Nat.lt_or_ge m ss.length with hm | hm
  ·rw [List.getElem?_append_left hm] at hz
   obtain ⟨q1, q2⟩ := h.to m z hz
   refine ⟨q1, fun y h0 hy => ?_⟩
   rw [List.getElem?_append_left (by omega)] at hy
   exact q2 y h0 hy
  ·have hm2 : m = ss.length := by have := lt_of_get hz; rw [hl] at this; omega
   subst hm2
   have hz2 : x = z := by simpa using hz
   subst hz2
   refine ⟨hx, fun y h0 hy => ?_⟩
   rw [List.getElem?_append_left (by omega)] at hy
   obtain ⟨j, hj, hjn⟩ := h.last y h0 hy
   exact sn_asc j i hj hi _ _ hjn hX
 ·rw [hl] at h2
  simp at h2
  subst h2
  exact ⟨i, by omega, hX⟩
theorem ntag_spec {w0 w : World} {G : Ghost} {L : List Res} (M : Mem w0 G L w) {n : Nat} (hn : n < 256) : Calls Tryz.prog 53 #[.int .u8 (n : Int)] w (RetS w0 G L fun v => ∃ s : List UInt8, v = .string (str s) ∧ Name s) := by
 refine calls_start (vs := [_]) Tryz.func53 rfl (n := 8) rfl rfl ?_
 intro a F
 refine wp_seq <| w_reg <| rl_run F (run_assign (F.ev rfl)) rfl ?_; clear F a; intro a F
 refine rl_nil <| q_tn <| wp_seq <| w_reg <| rl_buildSliceN F M tok49.k tok9 (ps := [(0, .string (str ([97] : List UInt8))), (1, .string (str ([98] : List UInt8))), (2, .string (str ([112, 49] : List UInt8))), (3, .string (str ([115, 105, 120, 116, 101, 101, 110, 98, 121, 116, 101, 115, 116, 97, 103, 48] : List UInt8)))]) (cs := [[.string (str ([97] : List UInt8))], [.string (str ([98] : List UInt8))], [.string (str ([112, 49] : List UInt8))], [.string (str ([115, 105, 120, 116, 101, 101, 110, 98, 121, 116, 101, 115, 116, 97, 103, 48] : List UInt8))]]) (fl := [.string (str ([97] : List UInt8)), .string (str ([98] : List UInt8)), .string (str ([112, 49] : List UInt8)), .string (str ([115, 105, 120, 116, 101, 101, 110, 98, 121, 116, 101, 115, 116, 97, 103, 48] : List UInt8))]) rfl rfl (by simp [Parts, Value.cells]) (by simp [ti9]) rfl (by simp [Value.oneCell']) (by decide) (by decide) rfl ?_; clear F M a; intro v1 w a M F
 obtain ⟨av1, cv1, rfl, hlev1, hcmv1, hlv1⟩ := M.row_shape (k := 0) rfl
 refine rl_run F (run_move (F.ev rfl)) rfl ?_; clear F a; intro a F
 refine rl_run F (run_remi (F.ev rfl) (F.ev rfl) (by omega) (by omega)) rfl ?_; clear F a; intro a F
 obtain ⟨Xe2, hXe2⟩ := get_of_lt (xs := ntgS) (i := n % 4) (by show _ < 4; omega)
 obtain ⟨be2, _, Ie2, hme2, _, Ae2, ⟨rfl, hsle2⟩⟩ := M.atRow (k := 0) rfl (by decide) ntgE hXe2
 refine rl_run F (run_indexI tok49.k tok9 (F.ev rfl) (F.ev rfl) (by omega) Ie2) rfl ?_; clear F a; intro a F
 refine rl_run F (run_load1 (agf tok9 rfl) (F.ev rfl) (cellE Ae2 0 (by omega) rfl)) rfl ?_; clear F a; intro a F
 refine rl_run F (run_assign (F.ev rfl)) rfl ?_; clear F a; intro a F
 refine rl_nil <| q_tn <| wp_ret <| fin1 F rfl rfl ?_
 exact ⟨M.weaken (.cons _ (List.Sublist.refl _)), _, rfl, in_lit ntgS_ok hXe2⟩
theorem attrs_made {w0 w : World} {G : Ghost} {L : List Res} (M : Mem w0 G L w) {n : Nat} (hn : n < 256) : Calls Tryz.prog 54 #[.int .u8 (n : Int)] w (Ret w0 G L fun G' v => ∃ a' c' ss, v = .slice a' ss.length c' ∧ RdSl rdAttr 2 G' (.slice a' ss.length c') ss ∧ AttrsOk ss ∧ ss.length ≤ 3) := by
 refine calls_start (vs := [_]) Tryz.func54 rfl (n := 37) rfl rfl ?_
 intro a F
 refine wp_seq <| w_reg <| rl_run F (run_assign (F.ev rfl)) rfl ?_; clear F a; intro a F
 refine rl_nil <| q_tn <| wp_seq <| w_reg <| rl_run F (run_assign (F.ev rfl)) rfl ?_; clear F a; intro a F
 refine rl_nil <| q_tn <| wp_seq <| w_reg <| rl_buildSliceN F M tok49.k tok9 (ps := [(0, .string (str ([99, 108, 97, 115, 115] : List UInt8))), (1, .string (str ([105, 100] : List UInt8))), (2, .string (str ([122, 57] : List UInt8)))]) (cs := [[.string (str ([99, 108, 97, 115, 115] : List UInt8))], [.string (str ([105, 100] : List UInt8))], [.string (str ([122, 57] : List UInt8))]]) (fl := [.string (str ([99, 108, 97, 115, 115] : List UInt8)), .string (str ([105, 100] : List UInt8)), .string (str ([122, 57] : List UInt8))]) rfl rfl (by simp [Parts, Value.cells]) (by simp [ti9]) rfl (by simp [Value.oneCell']) (by decide) (by decide) rfl ?_; clear F M a; intro v1 w a M F
 obtain ⟨av1, cv1, rfl, hlev1, hcmv1, hlv1⟩ := M.row_shape (k := 0) rfl
 refine rl_run F (run_assign (F.ev rfl)) rfl ?_; clear F a; intro a F
 refine rl_nil <| q_tn <| wp_seq <| w_reg <| rl_buildSliceN F M tok49.k tok9 (ps := [(0, .string (str ([] : List UInt8))), (1, .string (str ([120] : List UInt8))), (2, .string (str ([97, 34, 98, 92, 99] : List UInt8))), (3, .string (str ([32, 126] : List UInt8)))]) (cs := [[.string (str ([] : List UInt8))], [.string (str ([120] : List UInt8))], [.string (str ([97, 34, 98, 92, 99] : List UInt8))], [.string (str ([32, 126] : List UInt8))]]) (fl := [.string (str ([] : List UInt8)), .string (str ([120] : List UInt8)), .string (str ([97, 34, 98, 92, 99] : List UInt8)), .string (str ([32, 126] : List UInt8))]) rfl rfl (by simp [Parts, Value.cells]) (by simp [ti9]) rfl (by simp [Value.oneCell']) (by decide) (by decide) rfl ?_; clear F M a; intro v2 w a M F
 obtain ⟨av2, cv2, rfl, hlev2, hcmv2, hlv2⟩ := M.row_shape (k := 0) rfl
 refine rl_run F (run_assign (F.ev rfl)) rfl ?_; clear F a; intro a F
 refine rl_nil <| q_tn ?_
 iterate 2 (refine wp_seq ?_)
 refine w_reg <| rl_run F (run_assign (F.ev rfl)) rfl ?_; clear F a; intro a F
 refine rl_nil <| q_tn <| wp_block ?_
 have M := M.nilrow 87 2
 refine w_loopN (fun m a' w' => ∃ (i : Nat), ∃ (ss : List AttrD), ∃ (ay : Option Addr), ∃ (ny : Nat), ∃ (cy : Nat), ∃ (csy : List Value), m = 3 - i ∧ Fits 37 a' [(0, .int .u8 (((n : Nat) : Int))), (4, .slice (av1) (3) (cv1)), (5, .slice (av2) (4) (cv2)), (3, .slice (ay) (ny) (cy)), (6, .int .i64 (((i : Nat) : Int)))] ∧ Mem w0 G (.row (.slice (ay) (ny) (cy)) (ny) (csy) 87 2 :: .row (.slice (av2) (4) (cv2)) (4) ([.string (str ([] : List UInt8)), .string (str ([120] : List UInt8)), .string (str ([97, 34, 98, 92, 99] : List UInt8)), .string (str ([32, 126] : List UInt8))]) 9 1 :: .row (.slice (av1) (3) (cv1)) (3) ([.string (str ([99, 108, 97, 115, 115] : List UInt8)), .string (str ([105, 100] : List UInt8)), .string (str ([122, 57] : List UInt8))]) 9 1 :: L) w' ∧ (i ≤ 3) ∧ (AtInv i ss) ∧ (ny = (ss).length) ∧ (Els rdAttr 2 G csy (ss))) _ ⟨0, [], (none), (0), (0), ([]), rfl, F.to ⟨rfl, rfl, rfl, rfl, rfl, trivial⟩, M, by omega, AtInv.zero, rfl, Els.nil⟩ ?_
 clear F M
 rintro m a w ⟨i, ss, ay, ny, cy, csy, rfl, F, M, hi, hI, hny, Ey⟩
 iterate 2 (refine wp_seq ?_)
 refine w_reg <| rl_run F (run_move (F.ev rfl)) rfl ?_; clear F a; intro a F
 refine rl_run F (run_lss (F.ev rfl) (F.ev rfl)) rfl ?_; clear F a; intro a F
 refine rl_nil <| q_tn <| w_cond F rfl ?_ ?_
 ·intro hc
  have h3b := hc; clear hc
  have h3 : ((i : Nat) : Int) < 3 := of_decide_eq_true h3b
  refine wp_skip <| q_tn <| wp_seq <| wp_block <| wp_seq <| w_reg ?_
  iterate 2 (refine rl_run F (run_move (F.ev rfl)) rfl ?_; clear F a; intro a F)
  refine rl_run F (run_shrN (n := n) (m := i) (F.ev rfl) (F.ev rfl) (by omega) (by omega) (by show i ≤ 8; omega)) rfl ?_; clear F a; intro a F
  refine rl_run F (run_remi (F.ev rfl) (F.ev rfl) (by first | omega | exact Int.natCast_nonneg _) (by first | omega | exact Int.natCast_nonneg _)) rfl ?_; clear F a; intro a F
  refine rl_run F (run_eqi (F.ev rfl) (F.ev rfl)) rfl ?_; clear F a; intro a F
  refine rl_nil <| q_tn <| w_cond F rfl ?_ ?_
  ·intro hc
   have h4b := hc; clear hc
   have h4 : (((n / 2 ^ i : Nat) : Int)) % 2 = 1 := of_decide_eq_true h4b
   refine w_plan3 [(.free, 0), (.free, 1), (.free, 2), (.free, 3), (.pure, 4), (.free, 5), (.free, 6), (.free, 7), (.free, 8), (.free, 9), (.free, 10), (.free, 11), (.free, 12), (.free, 13), (.pure, 14), (.free, 15), (.keep, 16), (.chg, 17), (.free, 18)] [17] (Keep G [.row (.slice (ay) (ny) (cy)) (ny) (csy) 87 2, .row (.slice (av2) (4) (cv2)) (4) ([.string (str ([] : List UInt8)), .string (str ([120] : List UInt8)), .string (str ([97, 34, 98, 92, 99] : List UInt8)), .string (str ([32, 126] : List UInt8))]) 9 1, .row (.slice (av1) (3) (cv1)) (3) ([.string (str ([99, 108, 97, 115, 115] : List UInt8)), .string (str ([105, 100] : List UInt8)), .string (str ([122, 57] : List UInt8))]) 9 1]) rfl (by kernel_rfl) (fun c a d v w h => by cases d <;> exact h) ((M.drew _).keep (Gle.refl _) (by simp)) ?_
   replace M := M.drew (w.drawn + 1)
   iterate 3 (refine pk_free F (fun w _ => run_move (F.ev rfl)) rfl ?_; clear F a; intro a F)
   obtain ⟨Xe5, hXe5⟩ := get_of_lt (xs := snS) (i := i) (by show _ < 3; omega)
   obtain ⟨be5, _, Ie5, hme5, _, Ae5, ⟨rfl, hsle5⟩⟩ := M.atRowK (k := 2) rfl (by decide) snE (Lr := [.row (.slice (ay) (ny) (cy)) (ny) (csy) 87 2, .row (.slice (av2) (4) (cv2)) (4) ([.string (str ([] : List UInt8)), .string (str ([120] : List UInt8)), .string (str ([97, 34, 98, 92, 99] : List UInt8)), .string (str ([32, 126] : List UInt8))]) 9 1, .row (.slice (av1) (3) (cv1)) (3) ([.string (str ([99, 108, 97, 115, 115] : List UInt8)), .string (str ([105, 100] : List UInt8)), .string (str ([122, 57] : List UInt8))]) 9 1]) (k' := 2) rfl hXe5
   refine pk_free F (fun w _ => run_indexI tok49.k tok9 (F.ev rfl) (F.ev rfl) (by omega) Ie5) rfl ?_; clear F a; intro a F
   refine pk_pure F (fun w M => run_load1 (agf tok9 rfl) (F.ev rfl) (cellE (Ae5 w M) 0 (by omega) rfl)) rfl ?_; clear F a; intro a F
   iterate 2 (refine pk_free F (fun w _ => run_move (F.ev rfl)) rfl ?_; clear F a; intro a F)
   refine pk_free F (fun w _ => run_shrN (n := n) (m := 3) (F.ev rfl) (F.ev rfl) (by omega) (by omega) (by show 3 ≤ 8; decide)) rfl ?_; clear F a; intro a F
   refine pk_free F (fun w _ => run_move (F.ev rfl)) rfl ?_; clear F a; intro a F
   refine pk_free F (fun w _ => run_conv_int tok5.k ⟨_, by rw [under_int tok3.k]⟩ (F.ev rfl) (in_u8 (by omega) (by omega))) rfl ?_; clear F a; intro a F
   refine pk_free F (fun w _ => run_addi (F.ev rfl) (F.ev rfl) (in_u8 (by omega) (by omega))) rfl ?_; clear F a; intro a F
   refine pk_free F (fun w _ => run_conv_int tok3.k ⟨_, by rw [under_int tok5.k]⟩ (F.ev rfl) (in_i64 (by omega) (by omega))) rfl ?_; clear F a; intro a F
   refine pk_free F (fun w _ => run_remi (F.ev rfl) (F.ev rfl) (by omega) (by omega)) rfl ?_; clear F a; intro a F
   obtain ⟨Xe6, hXe6⟩ := get_of_lt (xs := navS) (i := ((n / 2 ^ 3) + i) % 4) (by show _ < 4; omega)
   obtain ⟨be6, _, Ie6, hme6, _, Ae6, ⟨rfl, hsle6⟩⟩ := M.atRowK (k := 1) rfl (by decide) navE (Lr := [.row (.slice (ay) (ny) (cy)) (ny) (csy) 87 2, .row (.slice (av2) (4) (cv2)) (4) ([.string (str ([] : List UInt8)), .string (str ([120] : List UInt8)), .string (str ([97, 34, 98, 92, 99] : List UInt8)), .string (str ([32, 126] : List UInt8))]) 9 1, .row (.slice (av1) (3) (cv1)) (3) ([.string (str ([99, 108, 97, 115, 115] : List UInt8)), .string (str ([105, 100] : List UInt8)), .string (str ([122, 57] : List UInt8))]) 9 1]) (k' := 1) rfl hXe6
   refine pk_free F (fun w _ => run_indexI tok49.k tok9 (F.ev rfl) (F.ev rfl) (by omega) Ie6) rfl ?_; clear F a; intro a F
   refine pk_pure F (fun w M => run_load1 (agf tok9 rfl) (F.ev rfl) (cellE (Ae6 w M) 0 (by omega) rfl)) rfl ?_; clear F a; intro a F
   refine pk_free F (fun w _ => run_buildS (cs := [.string (str (Xe5)), .string (str (Xe6))]) (ps := [(0, .string (str (Xe5))), (1, .string (str (Xe6)))]) tok87.k rfl tok87 (F.evp rfl) rfl) rfl ?_; clear F a; intro a F
   refine pk_keep ?_ rfl
   refine rl_buildSlice1 F M tok27.k tok87 rfl rfl (cs := [.string (str (Xe5)), .string (str (Xe6))]) rfl rfl (by simp [Value.oneCell']) (by decide) rfl ?_; clear F M a; intro v7 w a M F
   obtain ⟨av7, cv7, rfl, hlev7, hcmv7, hlv7⟩ := M.row_shape (k := 0) rfl
   refine rl_nil ?_
   change Mem w0 G (.row (.slice (av7) (1) (cv7)) (1) ([.string (str (Xe5)), .string (str (Xe6))]) 87 2 :: .row (.slice (ay) (ny) (cy)) (ny) (csy) 87 2 :: .row (.slice (av2) (4) (cv2)) (4) ([.string (str ([] : List UInt8)), .string (str ([120] : List UInt8)), .string (str ([97, 34, 98, 92, 99] : List UInt8)), .string (str ([32, 126] : List UInt8))]) 9 1 :: .row (.slice (av1) (3) (cv1)) (3) ([.string (str ([99, 108, 97, 115, 115] : List UInt8)), .string (str ([105, 100] : List UInt8)), .string (str ([122, 57] : List UInt8))]) 9 1 :: L) _ at M
   refine ⟨Keep G [.row (.slice (av7) (1) (cv7)) (1) ([.string (str (Xe5)), .string (str (Xe6))]) 87 2, .row (.slice (ay) (ny) (cy)) (ny) (csy) 87 2, .row (.slice (av2) (4) (cv2)) (4) ([.string (str ([] : List UInt8)), .string (str ([120] : List UInt8)), .string (str ([97, 34, 98, 92, 99] : List UInt8)), .string (str ([32, 126] : List UInt8))]) 9 1, .row (.slice (av1) (3) (cv1)) (3) ([.string (str ([99, 108, 97, 115, 115] : List UInt8)), .string (str ([105, 100] : List UInt8)), .string (str ([122, 57] : List UInt8))]) 9 1], M.keep (Gle.refl _) (by simp), fun w h => h.mono (Gle.refl _) (by simp), ?_⟩
   have hIl := hI.le
   have hX9 := in_lit snS_ok hXe5
   have hv9 := in_lit navS_ok hXe6
   have E8 : Els rdAttr 2 G [.string (str (Xe5)), .string (str (Xe6))] [(⟨Xe5, Xe6⟩ : AttrD)] := Els.one ⟨rfl, by have := hX9.1.2; show (Xe5).length ≤ _; omega, by have := hv9.1; show (Xe6).length ≤ _; omega⟩ rfl
   refine pk_chg ?_ rfl
   refine rl_append_row F M (k := 1) (k2 := 0) rfl rfl tok27.k tok87 rfl rfl (by decide) rfl rfl (by show _ * 32 ≤ _; (try simp only [List.length_drop, List.length_take, List.length_append, List.length_cons, List.length_nil]); omega) (by (try simp only [List.length_drop, List.length_take, List.length_append, List.length_cons, List.length_nil]); omega) rfl ?_; clear F M a; intro v9 w a M F
   have Ev9 := Els.append Ey E8
   obtain ⟨av9, cv9, rfl, hlev9, hcmv9, hlv9⟩ := M.row_shape (k := 1) rfl
   refine rl_nil ?_
   change Mem w0 G (.row (.slice (av7) (1) (cv7)) (1) ([.string (str (Xe5)), .string (str (Xe6))]) 87 2 :: .row (.slice (av9) (ny + 1) (cv9)) (ny + 1) (csy ++ ([.string (str (Xe5)), .string (str (Xe6))])) 87 2 :: .row (.slice (av2) (4) (cv2)) (4) ([.string (str ([] : List UInt8)), .string (str ([120] : List UInt8)), .string (str ([97, 34, 98, 92, 99] : List UInt8)), .string (str ([32, 126] : List UInt8))]) 9 1 :: .row (.slice (av1) (3) (cv1)) (3) ([.string (str ([99, 108, 97, 115, 115] : List UInt8)), .string (str ([105, 100] : List UInt8)), .string (str ([122, 57] : List UInt8))]) 9 1 :: L) _ at M
   refine ⟨Keep G [.row (.slice (av7) (1) (cv7)) (1) ([.string (str (Xe5)), .string (str (Xe6))]) 87 2, .row (.slice (av9) (ny + 1) (cv9)) (ny + 1) (csy ++ ([.string (str (Xe5)), .string (str (Xe6))])) 87 2, .row (.slice (av2) (4) (cv2)) (4) ([.string (str ([] : List UInt8)), .string (str ([120] : List UInt8)), .string (str ([97, 34, 98, 92, 99] : List UInt8)), .string (str ([32, 126] : List UInt8))]) 9 1, .row (.slice (av1) (3) (cv1)) (3) ([.string (str ([99, 108, 97, 115, 115] : List UInt8)), .string (str ([105, 100] : List UInt8)), .string (str ([122, 57] : List UInt8))]) 9 1], M.keep (Gle.refl _) (by simp), ?_⟩
   refine pk_free F (fun w _ => run_assign (F.ev rfl)) rfl ?_; clear F a; intro a F
   refine pk_nil <| q_bn <| q_tn <| w_reg <| rl_run F (run_move (F.ev rfl)) rfl ?_; clear F a; intro a F
   refine rl_run F (run_addi (F.ev rfl) (F.ev rfl) (in_i64 (by omega) (by omega))) rfl ?_; clear F a; intro a F
   refine rl_run F (run_assign (F.ev rfl)) rfl ?_; clear F a; intro a F
   refine rl_nil <| q_tn ?_
   exact ⟨_, by omega, i + 1, (ss ++ ([(⟨Xe5, Xe6⟩ : AttrD)])), (av9), (ny + 1), (cv9), (csy ++ ([.string (str (Xe5)), .string (str (Xe6))])), rfl, F.to ⟨rfl, rfl, rfl, rfl, rfl, trivial⟩, (M.weaken (.cons _ (.cons_cons _ (.cons_cons _ (.cons_cons _ (List.Sublist.refl _)))))), by omega, hI.add (by omega) hXe5 ⟨hX9, hv9⟩, by rw [List.length_append, ← hny]; rfl, Ev9⟩
  ·intro hc
   have h10b := hc; clear hc
   have h10 : ¬ ((((n / 2 ^ i : Nat) : Int)) % 2 = 1) := of_decide_eq_false h10b
   refine wp_skip <| q_bn <| q_tn <| w_reg <| rl_run F (run_move (F.ev rfl)) rfl ?_; clear F a; intro a F
   refine rl_run F (run_addi (F.ev rfl) (F.ev rfl) (in_i64 (by omega) (by omega))) rfl ?_; clear F a; intro a F
   refine rl_run F (run_assign (F.ev rfl)) rfl ?_; clear F a; intro a F
   refine rl_nil <| q_tn ?_
   exact ⟨_, by omega, i + 1, (ss), (ay), (ny), (cy), (csy), rfl, F.to ⟨rfl, rfl, rfl, rfl, rfl, trivial⟩, M, by omega, hI.skip, hny, Ey⟩
 ·intro hc
  have h11b := hc; clear hc
  have h11 : ¬ (((i : Nat) : Int) < 3) := of_decide_eq_false h11b
  refine wp_exit ?_
  iterate 2 (refine q_te ?_)
  refine q_bh <| q_tn <| wp_seq <| w_reg <| rl_run F (run_move (F.ev rfl)) rfl ?_; clear F a; intro a F
  refine rl_run F (run_assign (F.ev rfl)) rfl ?_; clear F a; intro a F
  refine rl_nil <| q_tn <| wp_ret <| fin1 F rfl rfl ?_
  obtain ⟨hnz12, Gz12, az12, cz12, hGz12, hez12, Sz12, M⟩ := M.freeze_row mono_rdAttr (k := 0) rfl Ey (by decide)
  clear hez12 az12 cz12
  exact ⟨Gz12, ((Gle.refl _).trans hGz12), M.weaken (.cons _ (.cons _ (List.Sublist.refl _))), _, _, ss, by rw [hny], by have h_ := Sz12; rw [hny] at h_; exact h_, hI.to, by have := hI.le; omega⟩
end Go.Proofs.YtlnehkjmmegkhaaGreat
