/- The walks, part NE. -/
import Derived.Test.YtlnehkjmmegkhaaGreatWalkNT
import Derived.Test.YtlnehkjmmegkhaaGreatPar
namespace Go.Proofs.YtlnehkjmmegkhaaGreat
open Go Go.Y Go.Proofs
set_option linter.unusedSimpArgs false
set_option linter.unusedVariables false
def pickS (S : List (List UInt8)) (i : Nat) : List UInt8 := (S[i]?).getD []
theorem pick_is {S : List (List UInt8)} {i : Nat} {x : List UInt8} (h : S[i]? = some x) : pickS S i = x := by unfold pickS; rw [h]; rfl
def atFn (n : Nat) : Nat → List AttrD
 | 0 => []
 | i + 1 => atFn n i ++ (if n / 2 ^ i % 2 = 1 then [⟨pickS snS i, pickS navS (((n / 2 ^ 3) + i) % 4)⟩] else [])
theorem atFn_yes {n i : Nat} {ss : List AttrD} {x y : List UInt8} (h : ss = atFn n i) (hb : (((n / 2 ^ i : Nat) : Int)) % 2 = 1) (hx : snS[i]? = some x) (hy : navS[((n / 2 ^ 3) + i) % 4]? = some y) : ss ++ [⟨x, y⟩] = atFn n (i + 1) := by
 rw [atFn, if_pos (by omega), pick_is hx, pick_is hy, h]
theorem atFn_no {n i : Nat} {ss : List AttrD} (h : ss = atFn n i) (hb : ¬ (((n / 2 ^ i : Nat) : Int)) % 2 = 1) : ss = atFn n (i + 1) := by
 rw [atFn, if_neg (by omega), List.append_nil, h]
def kyPick (ps : List NT) (K : List UInt8) : List UInt8 := if (ps.any fun d => decide (d.key = K)) = true then [] else K
theorem kyPick_yes {ps : List NT} {K kk : List UInt8} {j : Nat} {d : NT} (h : kk = kyPick (ps.take j) K) (hd : ps[j]? = some d) (he : d.key = kk) : [] = kyPick (ps.take (j + 1)) K := by
 rw [Tr.take_snoc' hd]
 unfold kyPick at *
 rw [List.any_append]
 split at h
 ·rename_i h1; rw [h1]; rfl
 ·rw [if_pos (by subst h; simp [he])]
theorem kyPick_no {ps : List NT} {K kk : List UInt8} {j : Nat} {d : NT} (h : kk = kyPick (ps.take j) K) (hd : ps[j]? = some d) (he : ¬ d.key = kk) : kk = kyPick (ps.take (j + 1)) K := by
 rw [Tr.take_snoc' hd]
 unfold kyPick at *
 rw [List.any_append]
 split at h
 ·rename_i h1; rw [h1]; exact h
 ·rename_i h1
  rw [if_neg (by subst h; simp only [Bool.or_eq_true, not_or]; exact ⟨h1, by simp [he]⟩)]; exact h
theorem kyPick_all {ps : List NT} {K kk : List UInt8} {j : Nat} (h : kk = kyPick (ps.take j) K) (hj : ps.length ≤ j) : kk = kyPick ps K := by rw [List.take_of_length_le hj] at h; exact h
abbrev NL := List NT × Nat
/-- The children that codes describe. -/
def loopB (ch : Nat → NL) (deep : Bool) (cs : List UInt8) : Nat → Nat → List NT → NL
 | 0, q, ps => (ps, q)
 | f + 1, q, ps => match cs[q]? with
  | none => (ps, q)
  | some c => if ¬ q < 19 then (ps, q) else if c.toNat % 8 = 0 then (ps, q + 1) else if ps.length = 16 then loopB ch deep cs f (q + 1) ps else
   if c.toNat % 8 < 3 then loopB ch deep cs f (q + 1) (ps ++ [.mk 2 [] [] [] (pickS nwdS (c.toNat / 8 % 4)) []]) else
   if deep = true then loopB ch deep cs f (ch (q + 1)).2 (ps ++ [.mk 1 (pickS ntgS (c.toNat / 8 % 4)) (if c.toNat % 8 = 3 then kyPick ps (pickS nkyS (c.toNat / 8 % 4)) else []) (atFn (c.toNat / 2) 3) [] (ch (q + 1)).1])
   else loopB ch deep cs f (q + 1) (ps ++ [.mk 1 (pickS ntgS (c.toNat / 8 % 4)) (if c.toNat % 8 = 3 then kyPick ps (pickS nkyS (c.toNat / 8 % 4)) else []) (atFn (c.toNat / 2) 3) [] []])
def buildFn (cs : List UInt8) : Nat → Nat → NL
 | 0, q => loopB (fun _ => ([], 0)) false cs 20 q []
 | d + 1, q => loopB (buildFn cs d) true cs 20 q []
section
variable {ch : Nat → NL} {deep : Bool} {cs : List UInt8} {f q : Nat} {ps : List NT} {X : NL} (h : X = loopB ch deep cs f q ps) (hf : 19 < f + q)
include h hf
theorem lb_end (h1 : ¬ ((q : Nat) : Int) < ((cs.length : Nat) : Int) ∨ ¬ ((q : Nat) : Int) < 19) : X = (ps, q) := by
 rw [h]
 cases f with
 | zero => rfl
 | succ f =>
  unfold loopB
  cases hc : cs[q]? with
  | none => rfl
  | some c => have := lt_of_get hc; simp only; rw [if_pos (by omega)]
variable {c : UInt8} (hc : cs[q]? = some c) (hq : ((q : Nat) : Int) < 19)
include hc hq
theorem lb_zero (h1 : nb c % 8 = 0) : X = (ps, q + 1) := by
 obtain ⟨f, rfl⟩ : ∃ k, f = k + 1 := ⟨f - 1, by omega⟩
 simp only [nb] at h1
 rw [h]; unfold loopB; rw [hc]; simp only; rw [if_neg (by omega), if_pos (by omega)]
theorem lb_full (h1 : ¬ nb c % 8 = 0) (h2 : ps.length = 16) : ∃ f', X = loopB ch deep cs f' (q + 1) ps ∧ 19 < f' + (q + 1) := by
 obtain ⟨f, rfl⟩ : ∃ k, f = k + 1 := ⟨f - 1, by omega⟩
 simp only [nb] at h1
 refine ⟨f, ?_, by omega⟩
 rw [h, loopB, hc]; simp only; rw [if_neg (by omega), if_neg (by omega), if_pos h2]
theorem lb_words (h1 : ¬ nb c % 8 = 0) (h2 : ¬ ps.length = 16) (h3 : nb c % 8 < 3) {x : List UInt8} (hx : nwdS[c.toNat / 8 % 4]? = some x) : ∃ f', X = loopB ch deep cs f' (q + 1) (ps ++ [.mk 2 [] [] [] x []]) ∧ 19 < f' + (q + 1) := by
 obtain ⟨f, rfl⟩ : ∃ k, f = k + 1 := ⟨f - 1, by omega⟩
 simp only [nb] at h1 h3
 refine ⟨f, ?_, by omega⟩
 rw [h, loopB, hc]; simp only; rw [if_neg (by omega), if_neg (by omega), if_neg h2, if_pos (by omega), pick_is hx]
theorem lb_elem (h1 : ¬ nb c % 8 = 0) (h2 : ¬ ps.length = 16) (h3 : ¬ nb c % 8 < 3) {t k : List UInt8} {al : List AttrD} (ht : t = pickS ntgS (c.toNat / 8 % 4)) (hk : k = if c.toNat % 8 = 3 then kyPick ps (pickS nkyS (c.toNat / 8 % 4)) else []) (ha : al = atFn (c.toNat / 2) 3) :
  (deep = true → ∀ r, r = ch (q + 1) → q < r.2 → ∃ f', X = loopB ch deep cs f' r.2 (ps ++ [.mk 1 t k al [] r.1]) ∧ 19 < f' + r.2) ∧ (deep = false → ∃ f', X = loopB ch deep cs f' (q + 1) (ps ++ [.mk 1 t k al [] []]) ∧ 19 < f' + (q + 1)) := by
 obtain ⟨f, rfl⟩ : ∃ k, f = k + 1 := ⟨f - 1, by omega⟩
 simp only [nb] at h1 h3
 refine ⟨fun hd r hr hq2 => ⟨f, ?_, by omega⟩, fun hd => ⟨f, ?_, by omega⟩⟩
 ·rw [h, loopB, hc]; simp only; rw [if_neg (by omega), if_neg (by omega), if_neg h2, if_neg (by omega), if_pos hd, ← hr, ← ht, ← hk, ← ha]
 ·rw [h, loopB, hc]; simp only; rw [if_neg (by omega), if_neg (by omega), if_neg h2, if_neg (by omega), if_neg (by rw [hd]; decide), ← ht, ← hk, ← ha]
end
/-- What is made of plain data. -/
def nofFn (cs : List UInt8) (pt psl : Nat) : NT := .mk 1 (pickS ntgS (pt % 4)) (if psl % 3 = 1 then [114, 111, 111, 116] else []) (atFn psl 3) [] (buildFn cs 3 0).1
theorem etag_spec {w0 w : World} {G : Ghost} {L : List Res} (M : Mem w0 G L w) {n : Nat} (hn : n < 256) : Calls Tryz.prog 53 #[.int .u8 (n : Int)] w (RetS w0 G L fun v => ∃ s : List UInt8, v = .string (str s) ∧ Name s ∧ s = pickS ntgS (n % 4)) := by
 refine calls_start (vs := [_]) Tryz.func53 rfl (n := 8) rfl rfl ?_
 intro a F
 refine wp_seq <| w_reg <| rl_run F (run_assign (F.ev rfl)) rfl ?_; clear F a; intro a F
 refine rl_nil <| q_tn <| wp_seq <| w_reg <| rl_buildSliceN F M tok49.k tok9 (ps := [(0, .string (str ([97] : List UInt8))), (1, .string (str ([98] : List UInt8))), (2, .string (str ([112, 49] : List UInt8))), (3, .string (str ([115, 105, 120, 116, 101, 101, 110, 98, 121, 116, 101, 115, 116, 97, 103, 48] : List UInt8)))]) (cs := [[.string (str ([97] : List UInt8))], [.string (str ([98] : List UInt8))], [.string (str ([112, 49] : List UInt8))], [.string (str ([115, 105, 120, 116, 101, 101, 110, 98, 121, 116, 101, 115, 116, 97, 103, 48] : List UInt8))]]) (fl := [.string (str ([97] : List UInt8)), .string (str ([98] : List UInt8)), .string (str ([112, 49] : List UInt8)), .string (str ([115, 105, 120, 116, 101, 101, 110, 98, 121, 116, 101, 115, 116, 97, 103, 48] : List UInt8))]) rfl rfl (by simp [Parts, Value.cells]) (by simp [ti9]) rfl (by simp [Value.oneCell']) (by decide) (by decide) rfl ?_; clear F M a; intro v1 w a M F
 obtain ⟨av1, cv1, rfl, hlev1, hcmv1, hlv1⟩ := M.row_shape (k := 0) rfl
 refine rl_run F (run_move (F.ev rfl)) rfl ?_; clear F a; intro a F
 refine rl_run F (run_remi (F.ev rfl) (F.ev rfl) (by omega) (by omega)) rfl ?_; clear F a; intro a F
 obtain ⟨Xe2, hXe2⟩ := get_of_lt (xs := ntgS) (i := n % 4) (by show _ < 4; omega)
 obtain ⟨be2, _, Ie2, hme2, _, Ae2, ⟨rfl, hsle2⟩⟩ := M.atRow (k := 0) rfl (by decide) ntgE hXe2
 refine rl_run F (run_indexI tok49.k tok9 (F.ev rfl) (F.ev rfl) (by omega) Ie2) rfl ?_; clear F a; intro a F
 refine rl_run F (run_load1 (agf tok9 rfl) (F.ev rfl) (cellE Ae2 0 (by omega) rfl)) rfl ?_; clear F a; intro a F
 refine rl_run F (run_assign (F.ev rfl)) rfl ?_; clear F a; intro a F
 refine rl_nil <| q_tn <| wp_ret <| fin1 F rfl rfl ?_
 exact ⟨M.weaken (.cons _ (List.Sublist.refl _)), _, rfl, in_lit ntgS_ok hXe2, (pick_is hXe2).symm⟩
theorem eattrs_spec {w0 w : World} {G : Ghost} {L : List Res} (M : Mem w0 G L w) {n : Nat} (hn : n < 256) : Calls Tryz.prog 54 #[.int .u8 (n : Int)] w (RetL w0 G fun L' v => ∃ a' c' cs' ss, v = .slice a' ss.length c' ∧ L' = (.row (.slice a' ss.length c') ss.length cs' 87 2 :: L) ∧ Els rdAttr 2 G cs' ss ∧ AttrsOk ss ∧ ss.length ≤ 3 ∧ ss = atFn n 3) := by
 refine calls_start (vs := [_]) Tryz.func54 rfl (n := 37) rfl rfl ?_
 intro a F
 refine wp_seq <| w_reg <| rl_run F (run_assign (F.ev rfl)) rfl ?_; clear F a; intro a F
 refine rl_nil <| q_tn <| wp_seq <| w_reg <| rl_run F (run_assign (F.ev rfl)) rfl ?_; clear F a; intro a F
 refine rl_nil <| q_tn <| wp_seq <| w_reg <| rl_buildSliceN F M tok49.k tok9 (ps := [(0, .string (str ([99, 108, 97, 115, 115] : List UInt8))), (1, .string (str ([105, 100] : List UInt8))), (2, .string (str ([122, 57] : List UInt8)))]) (cs := [[.string (str ([99, 108, 97, 115, 115] : List UInt8))], [.string (str ([105, 100] : List UInt8))], [.string (str ([122, 57] : List UInt8))]]) (fl := [.string (str ([99, 108, 97, 115, 115] : List UInt8)), .string (str ([105, 100] : List UInt8)), .string (str ([122, 57] : List UInt8))]) rfl rfl (by simp [Parts, Value.cells]) (by simp [ti9]) rfl (by simp [Value.oneCell']) (by decide) (by decide) rfl ?_; clear F M a; intro v1 w a M F
 obtain ⟨av1, cv1, rfl, hlev1, hcmv1, hlv1⟩ := M.row_shape (k := 0) rfl
 refine rl_run F (run_assign (F.ev rfl)) rfl ?_; clear F a; intro a F
 refine rl_nil <| q_tn <| wp_seq <| w_reg <| rl_buildSliceN F M tok49.k tok9 (ps := [(0, .string (str ([] : List UInt8))), (1, .string (str ([120] : List UInt8))), (2, .string (str ([97, 34, 98, 92, 99] : List UInt8))), (3, .string (str ([32, 126] : List UInt8)))]) (cs := [[.string (str ([] : List UInt8))], [.string (str ([120] : List UInt8))], [.string (str ([97, 34, 98, 92, 99] : List UInt8))], [.string (str ([32, 126] : List UInt8))]]) (fl := [.string (str ([] : List UInt8)), .string (str ([120] : List UInt8)), .string (str ([97, 34, 98, 92, 99] : List UInt8)), .string (str ([32, 126] : List UInt8))]) rfl rfl (by simp [Parts, Value.cells]) (by simp [ti9]) rfl (by simp [Value.oneCell']) (by decide) (by decide) rfl ?_; clear F M a; intro v2 w a M F
 obtain ⟨av2, cv2, rfl, hlev2, hcmv2, hlv2⟩ := M.row_shape (k := 0) rfl
 refine rl_run F (run_assign (F.ev rfl)) rfl ?_; clear F a; intro a F
 refine rl_nil <| q_tn ?_
 iterate 2 (refine wp_seq ?_)
 refine w_reg <| rl_run F (run_assign (F.ev rfl)) rfl ?_; clear F a; intro a F
 refine rl_nil <| q_tn <| wp_block ?_
 have M := M.nilrow 87 2
 refine w_loopN (fun m a' w' => ∃ (i : Nat), ∃ (ss : List AttrD), ∃ (ay : Option Addr), ∃ (ny : Nat), ∃ (cy : Nat), ∃ (csy : List Value), m = 3 - i ∧ Fits 37 a' [(0, .int .u8 (((n : Nat) : Int))), (4, .slice (av1) (3) (cv1)), (5, .slice (av2) (4) (cv2)), (3, .slice (ay) (ny) (cy)), (6, .int .i64 (((i : Nat) : Int)))] ∧ Mem w0 G (.row (.slice (ay) (ny) (cy)) (ny) (csy) 87 2 :: .row (.slice (av2) (4) (cv2)) (4) ([.string (str ([] : List UInt8)), .string (str ([120] : List UInt8)), .string (str ([97, 34, 98, 92, 99] : List UInt8)), .string (str ([32, 126] : List UInt8))]) 9 1 :: .row (.slice (av1) (3) (cv1)) (3) ([.string (str ([99, 108, 97, 115, 115] : List UInt8)), .string (str ([105, 100] : List UInt8)), .string (str ([122, 57] : List UInt8))]) 9 1 :: L) w' ∧ (i ≤ 3) ∧ (AtInv i ss) ∧ (ny = (ss).length) ∧ (Els rdAttr 2 G csy (ss)) ∧ (ss = atFn n i)) _ ⟨0, [], (none), (0), (0), ([]), rfl, F.to ⟨rfl, rfl, rfl, rfl, rfl, trivial⟩, M, by omega, AtInv.zero, rfl, Els.nil, rfl⟩ ?_
 clear F M
 rintro m a w ⟨i, ss, ay, ny, cy, csy, rfl, F, M, hi, hI, hny, Ey, hA⟩
 iterate 2 (refine wp_seq ?_)
 refine w_reg <| rl_run F (run_move (F.ev rfl)) rfl ?_; clear F a; intro a F
 refine rl_run F (run_lss (F.ev rfl) (F.ev rfl)) rfl ?_; clear F a; intro a F
 refine rl_nil <| q_tn <| w_cond F rfl ?_ ?_
 ·intro hc
  have h3b := hc; clear hc
  have h3 : ((i : Nat) : Int) < 3 := of_decide_eq_true h3b
  refine wp_skip <| q_tn <| wp_seq <| wp_block <| wp_seq <| w_reg ?_
  iterate 2 (refine rl_run F (run_move (F.ev rfl)) rfl ?_; clear F a; intro a F)
  refine rl_run F (run_shrN (n := n) (m := i) (F.ev rfl) (F.ev rfl) (by omega) (by omega) (by show i ≤ 8; omega)) rfl ?_; clear F a; intro a F
  refine rl_run F (run_remi (F.ev rfl) (F.ev rfl) (by first | omega | exact Int.natCast_nonneg _) (by first | omega | exact Int.natCast_nonneg _)) rfl ?_; clear F a; intro a F
  refine rl_run F (run_eqi (F.ev rfl) (F.ev rfl)) rfl ?_; clear F a; intro a F
  refine rl_nil <| q_tn <| w_cond F rfl ?_ ?_
  ·intro hc
   have h4b := hc; clear hc
   have h4 : (((n / 2 ^ i : Nat) : Int)) % 2 = 1 := of_decide_eq_true h4b
   refine w_plan3 [(.free, 0), (.free, 1), (.free, 2), (.free, 3), (.pure, 4), (.free, 5), (.free, 6), (.free, 7), (.free, 8), (.free, 9), (.free, 10), (.free, 11), (.free, 12), (.free, 13), (.pure, 14), (.free, 15), (.keep, 16), (.chg, 17), (.free, 18)] [17] (Keep G [.row (.slice (ay) (ny) (cy)) (ny) (csy) 87 2, .row (.slice (av2) (4) (cv2)) (4) ([.string (str ([] : List UInt8)), .string (str ([120] : List UInt8)), .string (str ([97, 34, 98, 92, 99] : List UInt8)), .string (str ([32, 126] : List UInt8))]) 9 1, .row (.slice (av1) (3) (cv1)) (3) ([.string (str ([99, 108, 97, 115, 115] : List UInt8)), .string (str ([105, 100] : List UInt8)), .string (str ([122, 57] : List UInt8))]) 9 1]) rfl (by kernel_rfl) (fun c a d v w h => by cases d <;> exact h) ((M.drew _).keep (Gle.refl _) (by simp)) ?_
   replace M := M.drew (w.drawn + 1)
   iterate 3 (refine pk_free F (fun w _ => run_move (F.ev rfl)) rfl ?_; clear F a; intro a F)
   obtain ⟨Xe5, hXe5⟩ := get_of_lt (xs := snS) (i := i) (by show _ < 3; omega)
   obtain ⟨be5, _, Ie5, hme5, _, Ae5, ⟨rfl, hsle5⟩⟩ := M.atRowK (k := 2) rfl (by decide) snE (Lr := [.row (.slice (ay) (ny) (cy)) (ny) (csy) 87 2, .row (.slice (av2) (4) (cv2)) (4) ([.string (str ([] : List UInt8)), .string (str ([120] : List UInt8)), .string (str ([97, 34, 98, 92, 99] : List UInt8)), .string (str ([32, 126] : List UInt8))]) 9 1, .row (.slice (av1) (3) (cv1)) (3) ([.string (str ([99, 108, 97, 115, 115] : List UInt8)), .string (str ([105, 100] : List UInt8)), .string (str ([122, 57] : List UInt8))]) 9 1]) (k' := 2) rfl hXe5
   refine pk_free F (fun w _ => run_indexI tok49.k tok9 (F.ev rfl) (F.ev rfl) (by omega) Ie5) rfl ?_; clear F a; intro a F
   refine pk_pure F (fun w M => run_load1 (agf tok9 rfl) (F.ev rfl) (cellE (Ae5 w M) 0 (by omega) rfl)) rfl ?_; clear F a; intro a F
   iterate 2 (refine pk_free F (fun w _ => run_move (F.ev rfl)) rfl ?_; clear F a; intro a F)
   refine pk_free F (fun w _ => run_shrN (n := n) (m := 3) (F.ev rfl) (F.ev rfl) (by omega) (by omega) (by show 3 ≤ 8; decide)) rfl ?_; clear F a; intro a F
   refine pk_free F (fun w _ => run_move (F.ev rfl)) rfl ?_; clear F a; intro a F
   refine pk_free F (fun w _ => run_conv_int tok5.k ⟨_, by rw [under_int tok3.k]⟩ (F.ev rfl) (in_u8 (by omega) (by omega))) rfl ?_; clear F a; intro a F
   refine pk_free F (fun w _ => run_addi (F.ev rfl) (F.ev rfl) (in_u8 (by omega) (by omega))) rfl ?_; clear F a; intro a F
   refine pk_free F (fun w _ => run_conv_int tok3.k ⟨_, by rw [under_int tok5.k]⟩ (F.ev rfl) (in_i64 (by omega) (by omega))) rfl ?_; clear F a; intro a F
   refine pk_free F (fun w _ => run_remi (F.ev rfl) (F.ev rfl) (by omega) (by omega)) rfl ?_; clear F a; intro a F
   obtain ⟨Xe6, hXe6⟩ := get_of_lt (xs := navS) (i := ((n / 2 ^ 3) + i) % 4) (by show _ < 4; omega)
   obtain ⟨be6, _, Ie6, hme6, _, Ae6, ⟨rfl, hsle6⟩⟩ := M.atRowK (k := 1) rfl (by decide) navE (Lr := [.row (.slice (ay) (ny) (cy)) (ny) (csy) 87 2, .row (.slice (av2) (4) (cv2)) (4) ([.string (str ([] : List UInt8)), .string (str ([120] : List UInt8)), .string (str ([97, 34, 98, 92, 99] : List UInt8)), .string (str ([32, 126] : List UInt8))]) 9 1, .row (.slice (av1) (3) (cv1)) (3) ([.string (str ([99, 108, 97, 115, 115] : List UInt8)), .string (str ([105, 100] : List UInt8)), .string (str ([122, 57] : List UInt8))]) 9 1]) (k' := 1) rfl hXe6
   refine pk_free F (fun w _ => run_indexI tok49.k tok9 (F.ev rfl) (F.ev rfl) (by omega) Ie6) rfl ?_; clear F a; intro a F
   refine pk_pure F (fun w M => run_load1 (agf tok9 rfl) (F.ev rfl) (cellE (Ae6 w M) 0 (by omega) rfl)) rfl ?_; clear F a; intro a F
   refine pk_free F (fun w _ => run_buildS (cs := [.string (str (Xe5)), .string (str (Xe6))]) (ps := [(0, .string (str (Xe5))), (1, .string (str (Xe6)))]) tok87.k rfl tok87 (F.evp rfl) rfl) rfl ?_; clear F a; intro a F
   refine pk_keep ?_ rfl
   refine rl_buildSlice1 F M tok27.k tok87 rfl rfl (cs := [.string (str (Xe5)), .string (str (Xe6))]) rfl rfl (by simp [Value.oneCell']) (by decide) rfl ?_; clear F M a; intro v7 w a M F
   obtain ⟨av7, cv7, rfl, hlev7, hcmv7, hlv7⟩ := M.row_shape (k := 0) rfl
   refine rl_nil ?_
   change Mem w0 G (.row (.slice (av7) (1) (cv7)) (1) ([.string (str (Xe5)), .string (str (Xe6))]) 87 2 :: .row (.slice (ay) (ny) (cy)) (ny) (csy) 87 2 :: .row (.slice (av2) (4) (cv2)) (4) ([.string (str ([] : List UInt8)), .string (str ([120] : List UInt8)), .string (str ([97, 34, 98, 92, 99] : List UInt8)), .string (str ([32, 126] : List UInt8))]) 9 1 :: .row (.slice (av1) (3) (cv1)) (3) ([.string (str ([99, 108, 97, 115, 115] : List UInt8)), .string (str ([105, 100] : List UInt8)), .string (str ([122, 57] : List UInt8))]) 9 1 :: L) _ at M
   refine ⟨Keep G [.row (.slice (av7) (1) (cv7)) (1) ([.string (str (Xe5)), .string (str (Xe6))]) 87 2, .row (.slice (ay) (ny) (cy)) (ny) (csy) 87 2, .row (.slice (av2) (4) (cv2)) (4) ([.string (str ([] : List UInt8)), .string (str ([120] : List UInt8)), .string (str ([97, 34, 98, 92, 99] : List UInt8)), .string (str ([32, 126] : List UInt8))]) 9 1, .row (.slice (av1) (3) (cv1)) (3) ([.string (str ([99, 108, 97, 115, 115] : List UInt8)), .string (str ([105, 100] : List UInt8)), .string (str ([122, 57] : List UInt8))]) 9 1], M.keep (Gle.refl _) (by simp), fun w h => h.mono (Gle.refl _) (by simp), ?_⟩
   have hIl := hI.le
   have hX9 := in_lit snS_ok hXe5
   have hv9 := in_lit navS_ok hXe6
   have E8 : Els rdAttr 2 G [.string (str (Xe5)), .string (str (Xe6))] [(⟨Xe5, Xe6⟩ : AttrD)] := Els.one ⟨rfl, by have := hX9.1.2; show (Xe5).length ≤ _; omega, by have := hv9.1; show (Xe6).length ≤ _; omega⟩ rfl
   refine pk_chg ?_ rfl
   refine rl_append_row F M (k := 1) (k2 := 0) rfl rfl tok27.k tok87 rfl rfl (by decide) rfl rfl (by show _ * 32 ≤ _; (try simp only [List.length_drop, List.length_take, List.length_append, List.length_cons, List.length_nil]); omega) (by (try simp only [List.length_drop, List.length_take, List.length_append, List.length_cons, List.length_nil]); omega) rfl ?_; clear F M a; intro v9 w a M F
   have Ev9 := Els.append Ey E8
   obtain ⟨av9, cv9, rfl, hlev9, hcmv9, hlv9⟩ := M.row_shape (k := 1) rfl
   refine rl_nil ?_
   change Mem w0 G (.row (.slice (av7) (1) (cv7)) (1) ([.string (str (Xe5)), .string (str (Xe6))]) 87 2 :: .row (.slice (av9) (ny + 1) (cv9)) (ny + 1) (csy ++ ([.string (str (Xe5)), .string (str (Xe6))])) 87 2 :: .row (.slice (av2) (4) (cv2)) (4) ([.string (str ([] : List UInt8)), .string (str ([120] : List UInt8)), .string (str ([97, 34, 98, 92, 99] : List UInt8)), .string (str ([32, 126] : List UInt8))]) 9 1 :: .row (.slice (av1) (3) (cv1)) (3) ([.string (str ([99, 108, 97, 115, 115] : List UInt8)), .string (str ([105, 100] : List UInt8)), .string (str ([122, 57] : List UInt8))]) 9 1 :: L) _ at M
   refine ⟨Keep G [.row (.slice (av7) (1) (cv7)) (1) ([.string (str (Xe5)), .string (str (Xe6))]) 87 2, .row (.slice (av9) (ny + 1) (cv9)) (ny + 1) (csy ++ ([.string (str (Xe5)), .string (str (Xe6))])) 87 2, .row (.slice (av2) (4) (cv2)) (4) ([.string (str ([] : List UInt8)), .string (str ([120] : List UInt8)), .string (str ([97, 34, 98, 92, 99] : List UInt8)), .string (str ([32, 126] : List UInt8))]) 9 1, .row (.slice (av1) (3) (cv1)) (3) ([.string (str ([99, 108, 97, 115, 115] : List UInt8)), .string (str ([105, 100] : List UInt8)), .string (str ([122, 57] : List UInt8))]) 9 1], M.keep (Gle.refl _) (by simp), ?_⟩
   refine pk_free F (fun w _ => run_assign (F.ev rfl)) rfl ?_; clear F a; intro a F
   refine pk_nil <| q_bn <| q_tn <| w_reg <| rl_run F (run_move (F.ev rfl)) rfl ?_; clear F a; intro a F
   refine rl_run F (run_addi (F.ev rfl) (F.ev rfl) (in_i64 (by omega) (by omega))) rfl ?_; clear F a; intro a F
   refine rl_run F (run_assign (F.ev rfl)) rfl ?_; clear F a; intro a F
   refine rl_nil <| q_tn ?_
   exact ⟨_, by omega, i + 1, (ss ++ ([(⟨Xe5, Xe6⟩ : AttrD)])), (av9), (ny + 1), (cv9), (csy ++ ([.string (str (Xe5)), .string (str (Xe6))])), rfl, F.to ⟨rfl, rfl, rfl, rfl, rfl, trivial⟩, (M.weaken (.cons _ (.cons_cons _ (.cons_cons _ (.cons_cons _ (List.Sublist.refl _)))))), by omega, hI.add (by omega) hXe5 ⟨hX9, hv9⟩, by rw [List.length_append, ← hny]; rfl, Ev9, atFn_yes hA (by assumption) hXe5 hXe6⟩
  ·intro hc
   have h10b := hc; clear hc
   have h10 : ¬ ((((n / 2 ^ i : Nat) : Int)) % 2 = 1) := of_decide_eq_false h10b
   refine wp_skip <| q_bn <| q_tn <| w_reg <| rl_run F (run_move (F.ev rfl)) rfl ?_; clear F a; intro a F
   refine rl_run F (run_addi (F.ev rfl) (F.ev rfl) (in_i64 (by omega) (by omega))) rfl ?_; clear F a; intro a F
   refine rl_run F (run_assign (F.ev rfl)) rfl ?_; clear F a; intro a F
   refine rl_nil <| q_tn ?_
   exact ⟨_, by omega, i + 1, (ss), (ay), (ny), (cy), (csy), rfl, F.to ⟨rfl, rfl, rfl, rfl, rfl, trivial⟩, M, by omega, hI.skip, hny, Ey, atFn_no hA (by assumption)⟩
 ·intro hc
  have h11b := hc; clear hc
  have h11 : ¬ (((i : Nat) : Int) < 3) := of_decide_eq_false h11b
  refine wp_exit ?_
  iterate 2 (refine q_te ?_)
  refine q_bh <| q_tn <| wp_seq <| w_reg <| rl_run F (run_move (F.ev rfl)) rfl ?_; clear F a; intro a F
  refine rl_run F (run_assign (F.ev rfl)) rfl ?_; clear F a; intro a F
  refine rl_nil <| q_tn <| wp_ret <| fin1 F rfl rfl ?_
  change Mem w0 G (_ :: _ :: _ :: L) _ at M
  subst hny
  obtain rfl : i = 3 := by omega
  exact ⟨_, M.weaken (.cons_cons _ (.cons _ (.cons _ (List.Sublist.refl _)))), _, _, _, ss, rfl, rfl, Ey, hI.to, by have := hI.le; omega, hA⟩
theorem eattrs_made {w0 w : World} {G : Ghost} {L : List Res} (M : Mem w0 G L w) {n : Nat} (hn : n < 256) : Calls Tryz.prog 54 #[.int .u8 (n : Int)] w (Ret w0 G L fun G' v => ∃ a' c' ss, v = .slice a' ss.length c' ∧ RdSl rdAttr 2 G' (.slice a' ss.length c') ss ∧ AttrsOk ss ∧ ss.length ≤ 3 ∧ ss = atFn n 3) := by
 refine (eattrs_spec M hn).mono fun q w' hq => ?_
 cases q with
 | returned v =>
  obtain ⟨L', M', a', c', cs', ss, rfl, rfl, hE, h1, h2, h3⟩ := hq
  obtain ⟨_, G1, _, _, hG1, _, S1, M1⟩ := M'.freeze_row mono_rdAttr (k := 0) rfl hE (by decide)
  exact ⟨G1, hG1, M1, a', c', ss, rfl, S1, h1, h2, h3⟩
 | panicked c => exact hq.elim
 | outgrown => exact hq.elim
end Go.Proofs.YtlnehkjmmegkhaaGreat
