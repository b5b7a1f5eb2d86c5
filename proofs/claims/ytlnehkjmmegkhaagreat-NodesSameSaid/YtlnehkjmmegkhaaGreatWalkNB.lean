/- The walks, part NB. -/
import Derived.Test.YtlnehkjmmegkhaaGreatWalkNA
namespace Go.Proofs.YtlnehkjmmegkhaaGreat
open Go Go.Y Go.Proofs
set_option linter.unusedSimpArgs false
set_option linter.unusedVariables false
open Classical in
noncomputable def eqP {α : Type} (a b : α) : Bool := if a = b then true else false
theorem eqP_yes {α : Type} {a b : α} (h : a = b) : eqP a b = true := by unfold eqP; rw [if_pos h]
theorem eqP_no {α : Type} {a b : α} (h : ¬ a = b) : eqP a b = false := by unfold eqP; rw [if_neg h]
theorem eqP_true {α : Type} {a b : α} : eqP a b = true ↔ a = b := by unfold eqP; split <;> simp [*]
theorem eqP_false {α : Type} {a b : α} : eqP a b = false ↔ ¬ a = b := by unfold eqP; split <;> simp [*]
theorem eqP_kids {x u : NT} (h1 : x.kind = u.kind) (h2 : x.tag = u.tag) (h3 : x.key = u.key) (h4 : x.as = u.as) (h5 : x.text = u.text) : eqP x.kids u.kids = eqP x u := by
 by_cases h : x.kids = u.kids
 ·rw [eqP_yes h, eqP_yes (tree_eq h1 h2 h3 h4 h5 h)]
 ·rw [eqP_no h, eqP_no fun e => h (by rw [e])]
theorem list_all_eq {α : Type} {l r : List α} (hl : l.length = r.length) {i : Nat} (hi : l.length ≤ i) (h : ∀ (m : Nat) (a b : α), m < i → l[m]? = some a → r[m]? = some b → a = b) : l = r :=
 list_eq_of hl (fun m a b ha hb => h m a b (by have := lt_of_get ha; omega) ha hb)
theorem list_ne_at {α : Type} {l r : List α} {i : Nat} {a b : α} (ha : l[i]? = some a) (hb : r[i]? = some b) (h : ¬ a = b) : ¬ l = r := fun e => by subst e; rw [ha] at hb; exact h (Option.some.inj hb)
theorem eqa_spec {w0 w : World} {G : Ghost} {L : List Res} (M : Mem w0 G L w) {ad : Option Addr} {cd : Nat} {xs : List AttrD} (S : RdSl rdAttr 2 G (.slice ad xs.length cd) xs) {ae : Option Addr} {ce : Nat} {ys : List AttrD} (S2 : RdSl rdAttr 2 G (.slice ae ys.length ce) ys) : Calls Tryz.prog 105 #[.slice ad xs.length cd, .slice ae ys.length ce] w (RetS w0 G L fun v => v = .bool (eqP xs ys)) := by
 refine calls_start (vs := [_, _]) Tryz.func105 rfl (n := 26) rfl rfl ?_
 intro a F
 refine wp_seq <| w_reg <| rl_run F (run_assign (F.ev rfl)) rfl ?_; clear F a; intro a F
 refine rl_nil <| q_tn ?_
 iterate 2 (refine wp_seq ?_)
 refine w_reg <| rl_run F (run_move (F.ev rfl)) rfl ?_; clear F a; intro a F
 refine rl_run F (run_lenSl tok27.k (F.ev rfl)) rfl ?_; clear F a; intro a F
 refine rl_run F (run_move (F.ev rfl)) rfl ?_; clear F a; intro a F
 refine rl_run F (run_lenSl tok27.k (F.ev rfl)) rfl ?_; clear F a; intro a F
 refine rl_run F (run_nei (F.ev rfl) (F.ev rfl)) rfl ?_; clear F a; intro a F
 refine rl_nil <| q_tn <| w_cond F rfl ?_ ?_
 ·intro hc
  have h1b := hc; clear hc
  have h1 : ¬ (((xs.length : Nat) : Int) = ((ys.length : Nat) : Int)) := of_decide_eq_false (of_not_t h1b)
  have h1c : (decide (((xs.length : Nat) : Int) = ((ys.length : Nat) : Int))) = false := (of_not_t h1b)
  refine wp_seq <| w_reg <| rl_run F (run_assign (F.ev rfl)) rfl ?_; clear F a; intro a F
  refine rl_nil <| q_tn <| wp_ret <| q_tr <| fin1 F rfl rfl ?_
  exact ⟨M, by rw [eqP_no (fun e_ => by subst e_; omega)]⟩
 ·intro hc
  have h2b := hc; clear hc
  have h2 : ((xs.length : Nat) : Int) = ((ys.length : Nat) : Int) := of_decide_eq_true (of_not_f h2b)
  have h2c : (decide (((xs.length : Nat) : Int) = ((ys.length : Nat) : Int))) = true := (of_not_f h2b)
  refine wp_skip <| q_tn ?_
  iterate 2 (refine wp_seq ?_)
  have hlen : xs.length = ys.length := by omega
  have bS := S.bound
  refine w_reg <| rl_run F (run_move (F.ev rfl)) rfl ?_; clear F a; intro a F
  refine rl_run F (run_lenSl tok27.k (F.ev rfl)) rfl ?_; clear F a; intro a F
  refine rl_run F (run_move (F.ev rfl)) rfl ?_; clear F a; intro a F
  refine rl_nil <| q_tn <| wp_block <| w_loopN (fun m a' w' => ∃ (i : Nat), m = xs.length - i ∧ Fits 26 a' [(0, .slice (ad) (xs.length) (cd)), (1, .slice (ae) (ys.length) (ce)), (11, .slice (ad) (xs.length) (cd)), (12, .int .i64 (((xs.length : Nat) : Int))), (13, .int .i64 (((i : Nat) : Int)))] ∧ Mem w0 G (L) w' ∧ (i ≤ xs.length) ∧ (∀ (m : Nat) (a b : AttrD), m < i → xs[m]? = some a → ys[m]? = some b → a = b)) _ ⟨0, rfl, F.to ⟨rfl, rfl, rfl, rfl, rfl, trivial⟩, M, Nat.zero_le _, fun m a b h => by omega⟩ ?_
  clear F M
  rintro m a w ⟨i, rfl, F, M, hi, hP⟩
  refine wp_seq <| w_reg <| rl_run F (run_lss (F.ev rfl) (F.ev rfl)) rfl ?_; clear F a; intro a F
  refine rl_nil <| q_tn <| wp_seq <| w_cond F rfl ?_ ?_
  ·intro hc
   have h3b := hc; clear hc
   have h3 : ((i : Nat) : Int) < ((xs.length : Nat) : Int) := of_decide_eq_true h3b
   refine wp_skip <| q_tn <| wp_seq <| wp_block <| wp_seq <| w_reg <| rl_run F (run_move (F.ev rfl)) rfl ?_; clear F a; intro a F
   refine rl_run F (run_assign (F.ev rfl)) rfl ?_; clear F a; intro a F
   refine rl_nil <| q_tn <| wp_seq <| w_plan [(true, 0), (true, 1), (true, 2), (true, 3), (true, 4), (true, 5), (true, 6), (true, 7), (true, 8)] (Keep G []) rfl (by kernel_rfl) (fun c a d v w h => by cases d <;> exact h) ((M.drew _).keep (Gle.refl _) (by simp)) ?_
   replace M := M.drew (w.drawn + 1)
   iterate 2 (refine pl_run F (fun w M => run_move (F.ev rfl)) rfl ?_; clear F a; intro a F)
   obtain ⟨Xe4, hXe4⟩ := get_of_lt (xs := xs) (i := i) (by omega)
   obtain ⟨be4, oe4, _, Ie4, _, Ae4, ⟨rfl, hn1e4, hv1e4⟩⟩ := S.at hXe4
   refine pl_run F (fun w M => run_indexI tok27.k tok87 (F.ev rfl) (F.ev rfl) (by omega) Ie4) rfl ?_; clear F a; intro a F
   refine pl_run F (fun w M => run_loadA tok87 rfl (F.ev rfl) (cs := [.string (str (Xe4.n)), .string (str (Xe4.v))]) rfl (M.cellsA Ae4 0 (by omega) rfl)) rfl ?_; clear F a; intro a F
   iterate 2 (refine pl_run F (fun w M => run_move (F.ev rfl)) rfl ?_; clear F a; intro a F)
   obtain ⟨Xe5, hXe5⟩ := get_of_lt (xs := ys) (i := i) (by omega)
   obtain ⟨be5, oe5, _, Ie5, _, Ae5, ⟨rfl, hn1e5, hv1e5⟩⟩ := S2.at hXe5
   refine pl_run F (fun w M => run_indexI tok27.k tok87 (F.ev rfl) (F.ev rfl) (by omega) Ie5) rfl ?_; clear F a; intro a F
   refine pl_run F (fun w M => run_loadA tok87 rfl (F.ev rfl) (cs := [.string (str (Xe5.n)), .string (str (Xe5.v))]) rfl (M.cellsA Ae5 0 (by omega) rfl)) rfl ?_; clear F a; intro a F
   refine pl_run F (fun w M => run_ne2s (t1 := 9) (t2 := 9) (by kernel_rfl) (by kernel_rfl) (by kernel_rfl) (by kernel_rfl) tok9.k tok9.k (F.ev rfl) (F.ev rfl)) rfl ?_; clear F a; intro a F
   refine pl_nil ?_
   generalize ({ w with drawn := w.drawn + 1 } : World) = w at M ⊢
   refine q_tn <| w_cond F rfl ?_ ?_
   ·intro hc
    have h6b := hc; clear hc
    have h6 : ¬ (Xe4.n = Xe5.n ∧ Xe4.v = Xe5.v) := of_decide_eq_false (of_not_t h6b)
    have h6c : (decide (Xe4.n = Xe5.n ∧ Xe4.v = Xe5.v)) = false := (of_not_t h6b)
    refine wp_seq <| w_reg <| rl_run F (run_assign (F.ev rfl)) rfl ?_; clear F a; intro a F
    refine rl_nil <| q_tn <| wp_ret <| q_br ?_
    iterate 2 (refine q_tr ?_)
    refine q_br <| q_tr <| fin1 F rfl rfl ?_
    exact ⟨M.weaken (List.Sublist.refl _), by rw [eqP_no (list_ne_at hXe4 hXe5 (fun e_ => by subst e_; simp_all))]⟩
   ·intro hc
    have h7b := hc; clear hc
    have h7 : Xe4.n = Xe5.n ∧ Xe4.v = Xe5.v := of_decide_eq_true (of_not_f h7b)
    have h7c : (decide (Xe4.n = Xe5.n ∧ Xe4.v = Xe5.v)) = true := (of_not_f h7b)
    refine wp_skip <| q_bn <| q_tn <| w_reg <| rl_run F (run_addi (F.ev rfl) (F.ev rfl) (in_i64 (by omega) (by omega))) rfl ?_; clear F a; intro a F
    refine rl_run F (run_move (F.ev rfl)) rfl ?_; clear F a; intro a F
    refine rl_nil <| q_tn ?_
    exact ⟨_, by omega, i + 1, rfl, F.to ⟨rfl, rfl, rfl, rfl, rfl, trivial⟩, M, by omega, pair_snoc hP hXe4 hXe5 (attr_eq (by assumption))⟩
  ·intro hc
   have h8b := hc; clear hc
   have h8 : ¬ (((i : Nat) : Int) < ((xs.length : Nat) : Int)) := of_decide_eq_false h8b
   refine wp_exit ?_
   iterate 2 (refine q_te ?_)
   refine q_bh <| q_tn <| wp_seq <| w_reg <| rl_run F (run_assign (F.ev rfl)) rfl ?_; clear F a; intro a F
   refine rl_nil <| q_tn <| wp_ret <| fin1 F rfl rfl ?_
   exact ⟨M, by rw [eqP_yes (list_all_eq (by omega) (by omega) hP)]⟩
def SamP (x : NT) : Prop := ∀ (u : NT) (w0 w : World) (G : Ghost) (L : List Res) (ta ka tau kau : Option Addr) (tc kc tcu kcu : Nat), Mem w0 G L w → inKind .u8 x.kind → (x.tag.length ≤ 9223372036854775807 ∧ x.key.length ≤ 9223372036854775807 ∧ x.text.length ≤ 9223372036854775807) → RdSl rdAttr 2 G (.slice ta x.as.length tc) x.as → RdSl rdN 6 G (.slice ka x.kids.length kc) x.kids →
  inKind .u8 u.kind → (u.tag.length ≤ 9223372036854775807 ∧ u.key.length ≤ 9223372036854775807 ∧ u.text.length ≤ 9223372036854775807) → RdSl rdAttr 2 G (.slice tau u.as.length tcu) u.as → RdSl rdN 6 G (.slice kau u.kids.length kcu) u.kids →
  Calls Tryz.prog 83 #[.agg #[.int .u8 (x.kind), .string (str (x.tag)), .string (str (x.key)), .slice (ta) (x.as.length) (tc), .string (str (x.text)), .slice (ka) (x.kids.length) (kc)], .agg #[.int .u8 (u.kind), .string (str (u.tag)), .string (str (u.key)), .slice (tau) (u.as.length) (tcu), .string (str (u.text)), .slice (kau) (u.kids.length) (kcu)]] w (RetS w0 G L fun v => v = .bool (eqP x u))
theorem eqfn_spec {w0 w : World} {G : Ghost} {L : List Res} (M : Mem w0 G L w) {ad : Option Addr} {cd : Nat} {xs : List NT} (S : RdSl rdN 6 G (.slice ad xs.length cd) xs) {ae : Option Addr} {ce : Nat} {ys : List NT} (S2 : RdSl rdN 6 G (.slice ae ys.length ce) ys) (ih : ∀ y ∈ xs, SamP y) : Calls Tryz.prog 106 #[.slice ad xs.length cd, .slice ae ys.length ce, .func (.func 83) #[] #[]] w (RetS w0 G L fun v => v = .bool (eqP xs ys)) := by
 refine calls_start (vs := [_, _, _]) Tryz.func106 rfl (n := 32) rfl rfl ?_
 intro a F
 refine wp_seq <| w_reg <| rl_run F (run_assign (F.ev rfl)) rfl ?_; clear F a; intro a F
 refine rl_nil <| q_tn ?_
 iterate 2 (refine wp_seq ?_)
 refine w_reg <| rl_run F (run_move (F.ev rfl)) rfl ?_; clear F a; intro a F
 refine rl_run F (run_lenSl tok28.k (F.ev rfl)) rfl ?_; clear F a; intro a F
 refine rl_run F (run_move (F.ev rfl)) rfl ?_; clear F a; intro a F
 refine rl_run F (run_lenSl tok28.k (F.ev rfl)) rfl ?_; clear F a; intro a F
 refine rl_run F (run_nei (F.ev rfl) (F.ev rfl)) rfl ?_; clear F a; intro a F
 refine rl_nil <| q_tn <| w_cond F rfl ?_ ?_
 ·intro hc
  have h1b := hc; clear hc
  have h1 : ¬ (((xs.length : Nat) : Int) = ((ys.length : Nat) : Int)) := of_decide_eq_false (of_not_t h1b)
  have h1c : (decide (((xs.length : Nat) : Int) = ((ys.length : Nat) : Int))) = false := (of_not_t h1b)
  refine wp_seq <| w_reg <| rl_run F (run_assign (F.ev rfl)) rfl ?_; clear F a; intro a F
  refine rl_nil <| q_tn <| wp_ret <| q_tr <| fin1 F rfl rfl ?_
  exact ⟨M.weaken (List.Sublist.refl _), by rw [eqP_no (fun e_ => by subst e_; omega)]⟩
 ·intro hc
  have h2b := hc; clear hc
  have h2 : ((xs.length : Nat) : Int) = ((ys.length : Nat) : Int) := of_decide_eq_true (of_not_f h2b)
  have h2c : (decide (((xs.length : Nat) : Int) = ((ys.length : Nat) : Int))) = true := (of_not_f h2b)
  refine wp_skip <| q_tn ?_
  iterate 2 (refine wp_seq ?_)
  have hlen : xs.length = ys.length := by omega
  have bS := S.bound
  refine w_reg <| rl_run F (run_move (F.ev rfl)) rfl ?_; clear F a; intro a F
  refine rl_run F (run_lenSl tok28.k (F.ev rfl)) rfl ?_; clear F a; intro a F
  refine rl_run F (run_move (F.ev rfl)) rfl ?_; clear F a; intro a F
  refine rl_nil <| q_tn <| wp_block <| w_loopN (fun m a' w' => ∃ (i : Nat), m = xs.length - i ∧ Fits 32 a' [(0, .slice (ad) (xs.length) (cd)), (1, .slice (ae) (ys.length) (ce)), (2, .func (.func 83) #[] #[]), (15, .slice (ad) (xs.length) (cd)), (16, .int .i64 (((xs.length : Nat) : Int))), (17, .int .i64 (((i : Nat) : Int)))] ∧ Mem w0 G (L) w' ∧ (i ≤ xs.length) ∧ (∀ (m : Nat) (a b : NT), m < i → xs[m]? = some a → ys[m]? = some b → a = b)) _ ⟨0, rfl, F.to ⟨rfl, rfl, rfl, rfl, rfl, rfl, trivial⟩, M, Nat.zero_le _, fun m a b h => by omega⟩ ?_
  clear F M
  rintro m a w ⟨i, rfl, F, M, hi, hP⟩
  refine wp_seq <| w_reg <| rl_run F (run_lss (F.ev rfl) (F.ev rfl)) rfl ?_; clear F a; intro a F
  refine rl_nil <| q_tn <| wp_seq <| w_cond F rfl ?_ ?_
  ·intro hc
   have h3b := hc; clear hc
   have h3 : ((i : Nat) : Int) < ((xs.length : Nat) : Int) := of_decide_eq_true h3b
   refine wp_skip <| q_tn <| wp_seq <| wp_block <| wp_seq <| w_reg <| rl_run F (run_move (F.ev rfl)) rfl ?_; clear F a; intro a F
   obtain ⟨Xe4, hXe4⟩ := get_of_lt (xs := xs) (i := i) (by omega)
   obtain ⟨be4, oe4, _, Ie4, _, Ae4, hTe4⟩ := S.at hXe4
   obtain ⟨tae4, tce4, kae4, kce4, rfl, hke4, hle4, SAe4, SKe4⟩ := rdT_open hTe4
   refine rl_run F (run_indexI tok28.k tok30 (F.ev rfl) (F.ev rfl) (by omega) Ie4) rfl ?_; clear F a; intro a F
   refine rl_run F (run_loadA tok30 rfl (F.ev rfl) (cs := [.int .u8 (Xe4.kind), .string (str (Xe4.tag)), .string (str (Xe4.key)), .slice (tae4) (Xe4.as.length) (tce4), .string (str (Xe4.text)), .slice (kae4) (Xe4.kids.length) (kce4)]) rfl (M.cellsA Ae4 0 (by omega) rfl)) rfl ?_; clear F a; intro a F
   refine rl_alloc F M tok30 rfl rfl ?_; clear F M a; intro b5 w a M F
   refine rl_run F (run_assign (F.ev rfl)) rfl ?_; clear F a; intro a F
   refine rl_storeA F M tok30 (k := 0) rfl rfl rfl (us := [.int .u8 (Xe4.kind), .string (str (Xe4.tag)), .string (str (Xe4.key)), .slice (tae4) (Xe4.as.length) (tce4), .string (str (Xe4.text)), .slice (kae4) (Xe4.kids.length) (kce4)]) rfl rfl (by simp [Value.oneCell']) (by simp) ?_; clear F M a; intro w a M F
   change Mem w0 G (.blk b5 [.int .u8 (Xe4.kind), .string (str (Xe4.tag)), .string (str (Xe4.key)), .slice (tae4) (Xe4.as.length) (tce4), .string (str (Xe4.text)), .slice (kae4) (Xe4.kids.length) (kce4)] 30 :: L) _ at M
   refine rl_nil <| q_tn <| wp_seq <| w_reg ?_
   iterate 2 (refine rl_run F (run_move (F.ev rfl)) rfl ?_; clear F a; intro a F)
   obtain ⟨Xe7, hXe7⟩ := get_of_lt (xs := ys) (i := i) (by omega)
   obtain ⟨be7, oe7, _, Ie7, _, Ae7, hTe7⟩ := S2.at hXe7
   obtain ⟨tae7, tce7, kae7, kce7, rfl, hke7, hle7, SAe7, SKe7⟩ := rdT_open hTe7
   refine rl_run F (run_indexI tok28.k tok30 (F.ev rfl) (F.ev rfl) (by omega) Ie7) rfl ?_; clear F a; intro a F
   refine rl_run F (run_loadA tok30 rfl (F.ev rfl) (cs := [.int .u8 (Xe7.kind), .string (str (Xe7.tag)), .string (str (Xe7.key)), .slice (tae7) (Xe7.as.length) (tce7), .string (str (Xe7.text)), .slice (kae7) (Xe7.kids.length) (kce7)]) rfl (M.cellsA Ae7 0 (by omega) rfl)) rfl ?_; clear F a; intro a F
   refine rl_alloc F M tok30 rfl rfl ?_; clear F M a; intro b8 w a M F
   refine rl_storeA F M tok30 (k := 0) rfl rfl rfl (us := [.int .u8 (Xe7.kind), .string (str (Xe7.tag)), .string (str (Xe7.key)), .slice (tae7) (Xe7.as.length) (tce7), .string (str (Xe7.text)), .slice (kae7) (Xe7.kids.length) (kce7)]) rfl rfl (by simp [Value.oneCell']) (by simp) ?_; clear F M a; intro w a M F
   change Mem w0 G (.blk b8 [.int .u8 (Xe7.kind), .string (str (Xe7.tag)), .string (str (Xe7.key)), .slice (tae7) (Xe7.as.length) (tce7), .string (str (Xe7.text)), .slice (kae7) (Xe7.kids.length) (kce7)] 30 :: .blk b5 [.int .u8 (Xe4.kind), .string (str (Xe4.tag)), .string (str (Xe4.key)), .slice (tae4) (Xe4.as.length) (tce4), .string (str (Xe4.text)), .slice (kae4) (Xe4.kids.length) (kce4)] 30 :: L) _ at M
   refine rl_nil <| q_tn <| wp_seq <| w_reg <| rl_run F (run_move (F.ev rfl)) rfl ?_; clear F a; intro a F
   refine rl_run F (run_loadA tok30 rfl (F.ev rfl) (cs := [.int .u8 (Xe4.kind), .string (str (Xe4.tag)), .string (str (Xe4.key)), .slice (tae4) (Xe4.as.length) (tce4), .string (str (Xe4.text)), .slice (kae4) (Xe4.kids.length) (kce4)]) rfl (M.cellsL (k := 1) rfl rfl)) rfl ?_; clear F a; intro a F
   refine rl_run F (run_loadA tok30 rfl (F.ev rfl) (cs := [.int .u8 (Xe7.kind), .string (str (Xe7.tag)), .string (str (Xe7.key)), .slice (tae7) (Xe7.as.length) (tce7), .string (str (Xe7.text)), .slice (kae7) (Xe7.kids.length) (kce7)]) rfl (M.cellsL (k := 0) rfl rfl)) rfl ?_; clear F a; intro a F
   refine rl_callvS F ent83 (caps := []) rfl rfl rfl (ih Xe4 (List.mem_of_getElem? hXe4) Xe7 _ _ _ _ _ _ _ _ _ _ _ _ M hke4 hle4 SAe4 SKe4 hke7 hle7 SAe7 SKe7) ?_; clear F M a; rintro _ w a M rfl F
   refine rl_run F (run_not (F.ev rfl)) rfl ?_; clear F a; intro a F
   refine rl_nil <| q_tn <| w_cond F rfl ?_ ?_
   ·intro hc
    have h10b := hc; clear hc
    have h10 : (eqP Xe4 Xe7) = false := (of_not_t h10b)
    have h10c : (eqP Xe4 Xe7) = false := (of_not_t h10b)
    refine wp_seq <| w_reg <| rl_run F (run_assign (F.ev rfl)) rfl ?_; clear F a; intro a F
    refine rl_nil <| q_tn <| wp_ret <| q_br ?_
    iterate 2 (refine q_tr ?_)
    refine q_br <| q_tr <| fin1 F rfl rfl ?_
    exact ⟨M.weaken (.cons _ (.cons _ (List.Sublist.refl _))), by rw [eqP_no (list_ne_at hXe4 hXe7 (eqP_false.1 (by assumption)))]⟩
   ·intro hc
    have h11b := hc; clear hc
    have h11 : (eqP Xe4 Xe7) = true := (of_not_f h11b)
    have h11c : (eqP Xe4 Xe7) = true := (of_not_f h11b)
    refine wp_skip <| q_bn <| q_tn <| w_reg <| rl_run F (run_addi (F.ev rfl) (F.ev rfl) (in_i64 (by omega) (by omega))) rfl ?_; clear F a; intro a F
    refine rl_run F (run_move (F.ev rfl)) rfl ?_; clear F a; intro a F
    refine rl_nil <| q_tn ?_
    exact ⟨_, by omega, i + 1, rfl, F.to ⟨rfl, rfl, rfl, rfl, rfl, rfl, trivial⟩, (M.weaken (.cons _ (.cons _ (List.Sublist.refl _)))), by omega, pair_snoc hP hXe4 hXe7 (eqP_true.1 (by assumption))⟩
  ·intro hc
   have h12b := hc; clear hc
   have h12 : ¬ (((i : Nat) : Int) < ((xs.length : Nat) : Int)) := of_decide_eq_false h12b
   refine wp_exit ?_
   iterate 2 (refine q_te ?_)
   refine q_bh <| q_tn <| wp_seq <| w_reg <| rl_run F (run_assign (F.ev rfl)) rfl ?_; clear F a; intro a F
   refine rl_nil <| q_tn <| wp_ret <| fin1 F rfl rfl ?_
   exact ⟨M.weaken (List.Sublist.refl _), by rw [eqP_yes (list_all_eq (by omega) (by omega) hP)]⟩
theorem same_step {x : NT} (ih : ∀ y ∈ x.kids, SamP y) {u : NT} {w0 w : World} {G : Ghost} {L : List Res} (M : Mem w0 G L w) {ta : Option Addr} {tc : Nat} {ka : Option Addr} {kc : Nat} (hk : inKind .u8 x.kind) (hl : (x.tag.length ≤ 9223372036854775807 ∧ x.key.length ≤ 9223372036854775807 ∧ x.text.length ≤ 9223372036854775807)) (SA : RdSl rdAttr 2 G (.slice ta x.as.length tc) x.as) (SK : RdSl rdN 6 G (.slice ka x.kids.length kc) x.kids) {tau : Option Addr} {tcu : Nat} {kau : Option Addr} {kcu : Nat} (hku : inKind .u8 u.kind) (hlu : (u.tag.length ≤ 9223372036854775807 ∧ u.key.length ≤ 9223372036854775807 ∧ u.text.length ≤ 9223372036854775807)) (SAu : RdSl rdAttr 2 G (.slice tau u.as.length tcu) u.as) (SKu : RdSl rdN 6 G (.slice kau u.kids.length kcu) u.kids) : Calls Tryz.prog 83 #[.agg #[.int .u8 (x.kind), .string (str (x.tag)), .string (str (x.key)), .slice (ta) (x.as.length) (tc), .string (str (x.text)), .slice (ka) (x.kids.length) (kc)], .agg #[.int .u8 (u.kind), .string (str (u.tag)), .string (str (u.key)), .slice (tau) (u.as.length) (tcu), .string (str (u.text)), .slice (kau) (u.kids.length) (kcu)]] w (RetS w0 G L fun v => v = .bool (eqP x u)) := by
 refine calls_start (vs := [_, _]) Tryz.func83 rfl (n := 45) rfl rfl ?_
 intro a F
 refine wp_seq <| w_reg <| rl_box F M rfl (cs := [.int .u8 (x.kind), .string (str (x.tag)), .string (str (x.key)), .slice (ta) (x.as.length) (tc), .string (str (x.text)), .slice (ka) (x.kids.length) (kc)]) rfl rfl ?_; clear F M a; intro b1 w a M F
 refine rl_box F M rfl (cs := [.int .u8 (u.kind), .string (str (u.tag)), .string (str (u.key)), .slice (tau) (u.as.length) (tcu), .string (str (u.text)), .slice (kau) (u.kids.length) (kcu)]) rfl rfl ?_; clear F M a; intro b2 w a M F
 refine rl_run F (run_assign (F.ev rfl)) rfl ?_; clear F a; intro a F
 refine rl_nil <| q_tn <| wp_seq <| w_reg <| rl_run F (run_fieldAddr tok30.k rfl rfl (F.ev rfl)) rfl ?_; clear F a; intro a F
 refine rl_run F (run_load1 (agf tok5 rfl) (F.ev rfl) (M.cellL (k := 1) rfl rfl)) rfl ?_; clear F a; intro a F
 refine rl_run F (run_fieldAddr tok30.k rfl rfl (F.ev rfl)) rfl ?_; clear F a; intro a F
 refine rl_run F (run_load1 (agf tok5 rfl) (F.ev rfl) (M.cellL (k := 0) rfl rfl)) rfl ?_; clear F a; intro a F
 refine rl_run F (run_eqi (F.ev rfl) (F.ev rfl)) rfl ?_; clear F a; intro a F
 refine rl_run F (run_move (F.ev rfl)) rfl ?_; clear F a; intro a F
 rcases Bool.eq_false_or_eq_true (decide (x.kind = u.kind)) with hc | hc
 ·skip
  have h3b := hc; clear hc
  have h3 : x.kind = u.kind := of_decide_eq_true h3b
  refine rl_guard_t F rfl rfl rfl h3b ?_
  refine rl_run F (run_fieldAddr tok30.k rfl rfl (F.ev rfl)) rfl ?_; clear F a; intro a F
  refine rl_guard_t F rfl rfl rfl h3b ?_
  refine rl_run F (run_load1 (agf tok9 rfl) (F.ev rfl) (M.cellL (k := 1) rfl rfl)) rfl ?_; clear F a; intro a F
  refine rl_guard_t F rfl rfl rfl h3b ?_
  refine rl_run F (run_fieldAddr tok30.k rfl rfl (F.ev rfl)) rfl ?_; clear F a; intro a F
  refine rl_guard_t F rfl rfl rfl h3b ?_
  refine rl_run F (run_load1 (agf tok9 rfl) (F.ev rfl) (M.cellL (k := 0) rfl rfl)) rfl ?_; clear F a; intro a F
  refine rl_guard_t F rfl rfl rfl h3b ?_
  refine rl_run F (run_strEq (F.ev rfl) (F.ev rfl)) rfl ?_; clear F a; intro a F
  refine rl_run F (run_pick_t (F.ev rfl) h3b (F.ev rfl)) rfl ?_; clear F a; intro a F
  refine rl_run F (run_move (F.ev rfl)) rfl ?_; clear F a; intro a F
  rcases Bool.eq_false_or_eq_true (decide (x.tag = u.tag)) with hc | hc
  ·skip
   have h4b := hc; clear hc
   have h4 : x.tag = u.tag := of_decide_eq_true h4b
   refine rl_guard_t F rfl rfl rfl h4b ?_
   refine rl_run F (run_fieldAddr tok30.k rfl rfl (F.ev rfl)) rfl ?_; clear F a; intro a F
   refine rl_guard_t F rfl rfl rfl h4b ?_
   refine rl_run F (run_load1 (agf tok9 rfl) (F.ev rfl) (M.cellL (k := 1) rfl rfl)) rfl ?_; clear F a; intro a F
   refine rl_guard_t F rfl rfl rfl h4b ?_
   refine rl_run F (run_fieldAddr tok30.k rfl rfl (F.ev rfl)) rfl ?_; clear F a; intro a F
   refine rl_guard_t F rfl rfl rfl h4b ?_
   refine rl_run F (run_load1 (agf tok9 rfl) (F.ev rfl) (M.cellL (k := 0) rfl rfl)) rfl ?_; clear F a; intro a F
   refine rl_guard_t F rfl rfl rfl h4b ?_
   refine rl_run F (run_strEq (F.ev rfl) (F.ev rfl)) rfl ?_; clear F a; intro a F
   refine rl_run F (run_pick_t (F.ev rfl) h4b (F.ev rfl)) rfl ?_; clear F a; intro a F
   refine rl_run F (run_move (F.ev rfl)) rfl ?_; clear F a; intro a F
   rcases Bool.eq_false_or_eq_true (decide (x.key = u.key)) with hc | hc
   ·skip
    have h5b := hc; clear hc
    have h5 : x.key = u.key := of_decide_eq_true h5b
    refine rl_guard_t F rfl rfl rfl h5b ?_
    refine rl_run F (run_fieldAddr tok30.k rfl rfl (F.ev rfl)) rfl ?_; clear F a; intro a F
    refine rl_guard_t F rfl rfl rfl h5b ?_
    refine rl_run F (run_load1 (agf tok9 rfl) (F.ev rfl) (M.cellL (k := 1) rfl rfl)) rfl ?_; clear F a; intro a F
    refine rl_guard_t F rfl rfl rfl h5b ?_
    refine rl_run F (run_fieldAddr tok30.k rfl rfl (F.ev rfl)) rfl ?_; clear F a; intro a F
    refine rl_guard_t F rfl rfl rfl h5b ?_
    refine rl_run F (run_load1 (agf tok9 rfl) (F.ev rfl) (M.cellL (k := 0) rfl rfl)) rfl ?_; clear F a; intro a F
    refine rl_guard_t F rfl rfl rfl h5b ?_
    refine rl_run F (run_strEq (F.ev rfl) (F.ev rfl)) rfl ?_; clear F a; intro a F
    refine rl_run F (run_pick_t (F.ev rfl) h5b (F.ev rfl)) rfl ?_; clear F a; intro a F
    refine rl_run F (run_move (F.ev rfl)) rfl ?_; clear F a; intro a F
    rcases Bool.eq_false_or_eq_true (decide (x.text = u.text)) with hc | hc
    ·skip
     have h6b := hc; clear hc
     have h6 : x.text = u.text := of_decide_eq_true h6b
     refine rl_guard_t F rfl rfl rfl h6b ?_
     refine rl_run F (run_fieldAddr tok30.k rfl rfl (F.ev rfl)) rfl ?_; clear F a; intro a F
     refine rl_guard_t F rfl rfl rfl h6b ?_
     refine rl_run F (run_load1 (agf tok27 rfl) (F.ev rfl) (M.cellL (k := 1) rfl rfl)) rfl ?_; clear F a; intro a F
     refine rl_guard_t F rfl rfl rfl h6b ?_
     refine rl_run F (run_fieldAddr tok30.k rfl rfl (F.ev rfl)) rfl ?_; clear F a; intro a F
     refine rl_guard_t F rfl rfl rfl h6b ?_
     refine rl_run F (run_load1 (agf tok27 rfl) (F.ev rfl) (M.cellL (k := 0) rfl rfl)) rfl ?_; clear F a; intro a F
     refine rl_guard_t F rfl rfl rfl h6b ?_
     refine rl_callS F ent105 rfl rfl (eqa_spec (xs := x.as) (ys := u.as) M SA SAu) ?_; clear F M a; rintro _ w a M rfl F
     refine rl_run F (run_pick_t (F.ev rfl) h6b (F.ev rfl)) rfl ?_; clear F a; intro a F
     refine rl_run F (run_move (F.ev rfl)) rfl ?_; clear F a; intro a F
     rcases Bool.eq_false_or_eq_true (eqP x.as u.as) with hc | hc
     ·skip
      have h7b := hc; clear hc
      have h7 : (eqP x.as u.as) = true := h7b
      refine rl_guard_t F rfl rfl rfl h7b ?_
      refine rl_run F (run_fieldAddr tok30.k rfl rfl (F.ev rfl)) rfl ?_; clear F a; intro a F
      refine rl_guard_t F rfl rfl rfl h7b ?_
      refine rl_run F (run_load1 (agf tok28 rfl) (F.ev rfl) (M.cellL (k := 1) rfl rfl)) rfl ?_; clear F a; intro a F
      refine rl_guard_t F rfl rfl rfl h7b ?_
      refine rl_run F (run_fieldAddr tok30.k rfl rfl (F.ev rfl)) rfl ?_; clear F a; intro a F
      refine rl_guard_t F rfl rfl rfl h7b ?_
      refine rl_run F (run_load1 (agf tok28 rfl) (F.ev rfl) (M.cellL (k := 0) rfl rfl)) rfl ?_; clear F a; intro a F
      refine rl_guard_t F rfl rfl rfl h7b ?_
      refine rl_callS F ent106 rfl rfl (eqfn_spec (xs := x.kids) (ys := u.kids) M SK SKu ih) ?_; clear F M a; rintro _ w a M rfl F
      refine rl_run F (run_pick_t (F.ev rfl) h7b (F.ev rfl)) rfl ?_; clear F a; intro a F
      refine rl_run F (run_assign (F.ev rfl)) rfl ?_; clear F a; intro a F
      refine rl_nil <| q_tn <| wp_ret <| fin1 F rfl rfl ?_
      exact ⟨M.weaken (.cons _ (.cons _ (List.Sublist.refl _))), by rw [eqP_kids (by assumption) (by assumption) (by assumption) (eqP_true.1 (by assumption)) (by assumption)]⟩
     ·skip
      have h8b := hc; clear hc
      have h8 : (eqP x.as u.as) = false := h8b
      iterate 5 (refine rl_guard_f F rfl rfl rfl h8b ?_; clear F a; intro a F)
      refine rl_run F (run_pick_f (F.ev rfl) h8b (F.ev rfl)) rfl ?_; clear F a; intro a F
      refine rl_run F (run_assign (F.ev rfl)) rfl ?_; clear F a; intro a F
      refine rl_nil <| q_tn <| wp_ret <| fin1 F rfl rfl ?_
      have e9_ : eqP x u = false := eqP_no (fun e_ => eqP_false.1 h8 (by rw [e_]))
      exact ⟨M.weaken (.cons _ (.cons _ (List.Sublist.refl _))), by rw [e9_]⟩
    ·skip
     have h9b := hc; clear hc
     have h9 : ¬ (x.text = u.text) := of_decide_eq_false h9b
     iterate 5 (refine rl_guard_f F rfl rfl rfl h9b ?_; clear F a; intro a F)
     refine rl_run F (run_pick_f (F.ev rfl) h9b (F.ev rfl)) rfl ?_; clear F a; intro a F
     refine rl_run F (run_move (F.ev rfl)) rfl ?_; clear F a; intro a F
     iterate 5 (refine rl_guard_f F rfl rfl rfl rfl ?_; clear F a; intro a F)
     refine rl_run F (run_pick_f (F.ev rfl) rfl (F.ev rfl)) rfl ?_; clear F a; intro a F
     refine rl_run F (run_assign (F.ev rfl)) rfl ?_; clear F a; intro a F
     refine rl_nil <| q_tn <| wp_ret <| fin1 F rfl rfl ?_
     have e9_ : eqP x u = false := eqP_no (fun e_ => h9 (by rw [e_]))
     exact ⟨M.weaken (.cons _ (.cons _ (List.Sublist.refl _))), by rw [e9_]⟩
   ·skip
    have h10b := hc; clear hc
    have h10 : ¬ (x.key = u.key) := of_decide_eq_false h10b
    iterate 5 (refine rl_guard_f F rfl rfl rfl h10b ?_; clear F a; intro a F)
    refine rl_run F (run_pick_f (F.ev rfl) h10b (F.ev rfl)) rfl ?_; clear F a; intro a F
    refine rl_run F (run_move (F.ev rfl)) rfl ?_; clear F a; intro a F
    iterate 5 (refine rl_guard_f F rfl rfl rfl rfl ?_; clear F a; intro a F)
    refine rl_run F (run_pick_f (F.ev rfl) rfl (F.ev rfl)) rfl ?_; clear F a; intro a F
    refine rl_run F (run_move (F.ev rfl)) rfl ?_; clear F a; intro a F
    iterate 5 (refine rl_guard_f F rfl rfl rfl rfl ?_; clear F a; intro a F)
    refine rl_run F (run_pick_f (F.ev rfl) rfl (F.ev rfl)) rfl ?_; clear F a; intro a F
    refine rl_run F (run_assign (F.ev rfl)) rfl ?_; clear F a; intro a F
    refine rl_nil <| q_tn <| wp_ret <| fin1 F rfl rfl ?_
    have e9_ : eqP x u = false := eqP_no (fun e_ => h10 (by rw [e_]))
    exact ⟨M.weaken (.cons _ (.cons _ (List.Sublist.refl _))), by rw [e9_]⟩
  ·skip
   have h11b := hc; clear hc
   have h11 : ¬ (x.tag = u.tag) := of_decide_eq_false h11b
   iterate 5 (refine rl_guard_f F rfl rfl rfl h11b ?_; clear F a; intro a F)
   refine rl_run F (run_pick_f (F.ev rfl) h11b (F.ev rfl)) rfl ?_; clear F a; intro a F
   refine rl_run F (run_move (F.ev rfl)) rfl ?_; clear F a; intro a F
   iterate 5 (refine rl_guard_f F rfl rfl rfl rfl ?_; clear F a; intro a F)
   refine rl_run F (run_pick_f (F.ev rfl) rfl (F.ev rfl)) rfl ?_; clear F a; intro a F
   refine rl_run F (run_move (F.ev rfl)) rfl ?_; clear F a; intro a F
   iterate 5 (refine rl_guard_f F rfl rfl rfl rfl ?_; clear F a; intro a F)
   refine rl_run F (run_pick_f (F.ev rfl) rfl (F.ev rfl)) rfl ?_; clear F a; intro a F
   refine rl_run F (run_move (F.ev rfl)) rfl ?_; clear F a; intro a F
   iterate 5 (refine rl_guard_f F rfl rfl rfl rfl ?_; clear F a; intro a F)
   refine rl_run F (run_pick_f (F.ev rfl) rfl (F.ev rfl)) rfl ?_; clear F a; intro a F
   refine rl_run F (run_assign (F.ev rfl)) rfl ?_; clear F a; intro a F
   refine rl_nil <| q_tn <| wp_ret <| fin1 F rfl rfl ?_
   have e9_ : eqP x u = false := eqP_no (fun e_ => h11 (by rw [e_]))
   exact ⟨M.weaken (.cons _ (.cons _ (List.Sublist.refl _))), by rw [e9_]⟩
 ·skip
  have h12b := hc; clear hc
  have h12 : ¬ (x.kind = u.kind) := of_decide_eq_false h12b
  iterate 5 (refine rl_guard_f F rfl rfl rfl h12b ?_; clear F a; intro a F)
  refine rl_run F (run_pick_f (F.ev rfl) h12b (F.ev rfl)) rfl ?_; clear F a; intro a F
  refine rl_run F (run_move (F.ev rfl)) rfl ?_; clear F a; intro a F
  iterate 5 (refine rl_guard_f F rfl rfl rfl rfl ?_; clear F a; intro a F)
  refine rl_run F (run_pick_f (F.ev rfl) rfl (F.ev rfl)) rfl ?_; clear F a; intro a F
  refine rl_run F (run_move (F.ev rfl)) rfl ?_; clear F a; intro a F
  iterate 5 (refine rl_guard_f F rfl rfl rfl rfl ?_; clear F a; intro a F)
  refine rl_run F (run_pick_f (F.ev rfl) rfl (F.ev rfl)) rfl ?_; clear F a; intro a F
  refine rl_run F (run_move (F.ev rfl)) rfl ?_; clear F a; intro a F
  iterate 5 (refine rl_guard_f F rfl rfl rfl rfl ?_; clear F a; intro a F)
  refine rl_run F (run_pick_f (F.ev rfl) rfl (F.ev rfl)) rfl ?_; clear F a; intro a F
  refine rl_run F (run_move (F.ev rfl)) rfl ?_; clear F a; intro a F
  iterate 5 (refine rl_guard_f F rfl rfl rfl rfl ?_; clear F a; intro a F)
  refine rl_run F (run_pick_f (F.ev rfl) rfl (F.ev rfl)) rfl ?_; clear F a; intro a F
  refine rl_run F (run_assign (F.ev rfl)) rfl ?_; clear F a; intro a F
  refine rl_nil <| q_tn <| wp_ret <| fin1 F rfl rfl ?_
  have e9_ : eqP x u = false := eqP_no (fun e_ => h12 (by rw [e_]))
  exact ⟨M.weaken (.cons _ (.cons _ (List.Sublist.refl _))), by rw [e9_]⟩
theorem same_all (x : NT) : SamP x := by
 induction x using Tr.ind with
 | _ x ih => intro u w0 w G L ta ka tau kau tc kc tcu kcu M hk hl SA SK hku hlu SAu SKu; exact same_step ih M hk hl SA SK hku hlu SAu SKu
open Classical in
noncomputable def nsamF (x u : NT) : Bool := if Valid x ∧ Valid u ∧ x = u then true else false
theorem nsame_spec {w0 w : World} {G : Ghost} {L : List Res} (M : Mem w0 G L w) {x : NT} {ta : Option Addr} {tc : Nat} {ka : Option Addr} {kc : Nat} (hk : inKind .u8 x.kind) (hl : (x.tag.length ≤ 9223372036854775807 ∧ x.key.length ≤ 9223372036854775807 ∧ x.text.length ≤ 9223372036854775807)) (SA : RdSl rdAttr 2 G (.slice ta x.as.length tc) x.as) (SK : RdSl rdN 6 G (.slice ka x.kids.length kc) x.kids) {u : NT} {tau : Option Addr} {tcu : Nat} {kau : Option Addr} {kcu : Nat} (hku : inKind .u8 u.kind) (hlu : (u.tag.length ≤ 9223372036854775807 ∧ u.key.length ≤ 9223372036854775807 ∧ u.text.length ≤ 9223372036854775807)) (SAu : RdSl rdAttr 2 G (.slice tau u.as.length tcu) u.as) (SKu : RdSl rdN 6 G (.slice kau u.kids.length kcu) u.kids) : Calls Tryz.prog 41 #[.agg #[.int .u8 (x.kind), .string (str (x.tag)), .string (str (x.key)), .slice (ta) (x.as.length) (tc), .string (str (x.text)), .slice (ka) (x.kids.length) (kc)], .agg #[.int .u8 (u.kind), .string (str (u.tag)), .string (str (u.key)), .slice (tau) (u.as.length) (tcu), .string (str (u.text)), .slice (kau) (u.kids.length) (kcu)]] w (RetS w0 G L fun v => v = .bool (nsamF x u)) := by
 refine calls_start (vs := [_, _]) Tryz.func41 rfl (n := 18) rfl rfl ?_
 intro a F
 refine wp_seq <| w_reg <| rl_box F M rfl (cs := [.int .u8 (x.kind), .string (str (x.tag)), .string (str (x.key)), .slice (ta) (x.as.length) (tc), .string (str (x.text)), .slice (ka) (x.kids.length) (kc)]) rfl rfl ?_; clear F M a; intro b1 w a M F
 refine rl_box F M rfl (cs := [.int .u8 (u.kind), .string (str (u.tag)), .string (str (u.key)), .slice (tau) (u.as.length) (tcu), .string (str (u.text)), .slice (kau) (u.kids.length) (kcu)]) rfl rfl ?_; clear F M a; intro b2 w a M F
 refine rl_run F (run_assign (F.ev rfl)) rfl ?_; clear F a; intro a F
 refine rl_nil <| q_tn <| wp_seq <| w_reg <| rl_run F (run_loadA tok30 rfl (F.ev rfl) (cs := [.int .u8 (x.kind), .string (str (x.tag)), .string (str (x.key)), .slice (ta) (x.as.length) (tc), .string (str (x.text)), .slice (ka) (x.kids.length) (kc)]) rfl (M.cellsL (k := 1) rfl rfl)) rfl ?_; clear F a; intro a F
 refine rl_callS F ent30 rfl rfl (ncheck_spec (x := x) M hk hl SA SK) ?_; clear F M a; rintro _ w a M rfl F
 refine rl_run F (run_eqi (F.ev rfl) (F.ev rfl)) rfl ?_; clear F a; intro a F
 refine rl_run F (run_move (F.ev rfl)) rfl ?_; clear F a; intro a F
 rcases Bool.eq_false_or_eq_true (decide (chkF x = 0)) with hc | hc
 ·skip
  have h3b := hc; clear hc
  have h3 : chkF x = 0 := of_decide_eq_true h3b
  refine rl_guard_t F rfl rfl rfl h3b ?_
  refine rl_run F (run_loadA tok30 rfl (F.ev rfl) (cs := [.int .u8 (u.kind), .string (str (u.tag)), .string (str (u.key)), .slice (tau) (u.as.length) (tcu), .string (str (u.text)), .slice (kau) (u.kids.length) (kcu)]) rfl (M.cellsL (k := 0) rfl rfl)) rfl ?_; clear F a; intro a F
  refine rl_guard_t F rfl rfl rfl h3b ?_
  refine rl_callS F ent30 rfl rfl (ncheck_spec (x := u) M hku hlu SAu SKu) ?_; clear F M a; rintro _ w a M rfl F
  refine rl_guard_t F rfl rfl rfl h3b ?_
  refine rl_run F (run_eqi (F.ev rfl) (F.ev rfl)) rfl ?_; clear F a; intro a F
  refine rl_run F (run_pick_t (F.ev rfl) h3b (F.ev rfl)) rfl ?_; clear F a; intro a F
  refine rl_run F (run_move (F.ev rfl)) rfl ?_; clear F a; intro a F
  rcases Bool.eq_false_or_eq_true (decide (chkF u = 0)) with hc | hc
  ·skip
   have h4b := hc; clear hc
   have h4 : chkF u = 0 := of_decide_eq_true h4b
   refine rl_guard_t F rfl rfl rfl h4b ?_
   refine rl_run F (run_loadA tok30 rfl (F.ev rfl) (cs := [.int .u8 (x.kind), .string (str (x.tag)), .string (str (x.key)), .slice (ta) (x.as.length) (tc), .string (str (x.text)), .slice (ka) (x.kids.length) (kc)]) rfl (M.cellsL (k := 1) rfl rfl)) rfl ?_; clear F a; intro a F
   refine rl_guard_t F rfl rfl rfl h4b ?_
   refine rl_run F (run_loadA tok30 rfl (F.ev rfl) (cs := [.int .u8 (u.kind), .string (str (u.tag)), .string (str (u.key)), .slice (tau) (u.as.length) (tcu), .string (str (u.text)), .slice (kau) (u.kids.length) (kcu)]) rfl (M.cellsL (k := 0) rfl rfl)) rfl ?_; clear F a; intro a F
   refine rl_guard_t F rfl rfl rfl h4b ?_
   refine rl_callS F ent83 rfl rfl (same_all x u _ _ _ _ _ _ _ _ _ _ _ _ M hk hl SA SK hku hlu SAu SKu) ?_; clear F M a; rintro _ w a M rfl F
   refine rl_run F (run_pick_t (F.ev rfl) h4b (F.ev rfl)) rfl ?_; clear F a; intro a F
   refine rl_run F (run_assign (F.ev rfl)) rfl ?_; clear F a; intro a F
   refine rl_nil <| q_tn <| wp_ret <| fin1 F rfl rfl ?_
   have h1_ : Valid x := chkF_zero.1 (by assumption)
   have h2_ : Valid u := chkF_zero.1 (by assumption)
   have e_ : nsamF x u = eqP x u := by unfold nsamF eqP; simp [h1_, h2_]
   exact ⟨M.weaken (.cons _ (.cons _ (List.Sublist.refl _))), by rw [e_]⟩
  ·skip
   have h5b := hc; clear hc
   have h5 : ¬ (chkF u = 0) := of_decide_eq_false h5b
   iterate 3 (refine rl_guard_f F rfl rfl rfl h5b ?_; clear F a; intro a F)
   refine rl_run F (run_pick_f (F.ev rfl) h5b (F.ev rfl)) rfl ?_; clear F a; intro a F
   refine rl_run F (run_assign (F.ev rfl)) rfl ?_; clear F a; intro a F
   refine rl_nil <| q_tn <| wp_ret <| fin1 F rfl rfl ?_
   have e9_ : nsamF x u = false := by unfold nsamF; rw [if_neg (fun h_ => h5 (chkF_yes h_.2.1))]
   exact ⟨M.weaken (.cons _ (.cons _ (List.Sublist.refl _))), by rw [e9_]⟩
 ·skip
  have h6b := hc; clear hc
  have h6 : ¬ (chkF x = 0) := of_decide_eq_false h6b
  iterate 3 (refine rl_guard_f F rfl rfl rfl h6b ?_; clear F a; intro a F)
  refine rl_run F (run_pick_f (F.ev rfl) h6b (F.ev rfl)) rfl ?_; clear F a; intro a F
  refine rl_run F (run_move (F.ev rfl)) rfl ?_; clear F a; intro a F
  iterate 3 (refine rl_guard_f F rfl rfl rfl rfl ?_; clear F a; intro a F)
  refine rl_run F (run_pick_f (F.ev rfl) rfl (F.ev rfl)) rfl ?_; clear F a; intro a F
  refine rl_run F (run_assign (F.ev rfl)) rfl ?_; clear F a; intro a F
  refine rl_nil <| q_tn <| wp_ret <| fin1 F rfl rfl ?_
  have e9_ : nsamF x u = false := by unfold nsamF; rw [if_neg (fun h_ => h6 (chkF_yes h_.1))]
  exact ⟨M.weaken (.cons _ (.cons _ (List.Sublist.refl _))), by rw [e9_]⟩
end Go.Proofs.YtlnehkjmmegkhaaGreat
