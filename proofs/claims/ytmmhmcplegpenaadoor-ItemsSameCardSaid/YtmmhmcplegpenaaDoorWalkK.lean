/- The walks, part K. -/
import Derived.Test.YtmmhmcplegpenaaDoorWalkI
import Derived.Test.YtmmhmcplegpenaaDoorCpy
namespace Go.Proofs.YtmmhmcplegpenaaDoor
open Go Go.Y Go.Proofs
set_option linter.unusedSimpArgs false
set_option linter.unusedVariables false
theorem set_same {α : Type} {l : List α} {i : Nat} {x : α} (h : l[i]? = some x) : l.set i x = l := by
 apply List.ext_getElem?
 intro j
 rw [List.getElem?_set]
 split
 ·rename_i e; subst e; rw [if_pos (lt_of_get h), h]
 ·rfl
theorem exs_own {w0 w : World} {G : Ghost} {L : List Res} (M : Mem w0 G L w) {a1 : Option Addr} {c1 : Nat} {xs : List (List UInt8)} (S : RdSl rdStr 1 G (.slice a1 xs.length c1) xs) (hN : xs.length ≤ 1000000) :
  Calls Tryd.prog 44 #[.slice a1 xs.length c1] w (RetL w0 G fun L' v => ∃ (a : Option Addr) (cs : List Value), v = .slice a xs.length xs.length ∧ L' = (.row (.slice a xs.length xs.length) xs.length cs 9 1 :: L) ∧ Els rdStr 1 G cs xs) := by
 refine calls_start (vs := [_]) Tryd.func44 rfl (n := 14) rfl rfl ?_
 intro a F
 refine wp_seq <| w_reg <| rl_run F (run_assign (F.ev rfl)) rfl ?_; clear F a; intro a F
 refine rl_nil <| q_tn ?_
 iterate 2 (refine wp_seq ?_)
 refine w_reg <| rl_run F (run_move (F.ev rfl)) rfl ?_; clear F a; intro a F
 refine rl_run F (run_lenSl tok28.k (F.ev rfl)) rfl ?_; clear F a; intro a F
 refine rl_run F (run_eqi (F.ev rfl) (F.ev rfl)) rfl ?_; clear F a; intro a F
 refine rl_nil <| q_tn <| w_cond F rfl ?_ ?_
 ·intro hc
  have h1b := hc; clear hc
  have h1 : ((xs.length : Nat) : Int) = 0 := of_decide_eq_true h1b
  refine wp_seq <| w_reg <| rl_run F (run_assign (F.ev rfl)) rfl ?_; clear F a; intro a F
  refine rl_nil <| q_tn <| wp_ret <| q_tr <| fin1 F rfl rfl ?_
  have h0 := List.eq_nil_of_length_eq_zero (show xs.length = 0 by omega)
  subst h0
  exact ⟨_, M.nilrow 9 1, none, [], rfl, rfl, rfl⟩
 ·intro hc
  have h2b := hc; clear hc
  have h2 : ¬ (((xs.length : Nat) : Int) = 0) := of_decide_eq_false h2b
  refine wp_skip <| q_tn <| wp_seq <| w_reg <| rl_run F (run_move (F.ev rfl)) rfl ?_; clear F a; intro a F
  refine rl_run F (run_lenSl tok28.k (F.ev rfl)) rfl ?_; clear F a; intro a F
  refine rl_makeE (rd := rdStr) (Z := ([] : List UInt8)) F M tok28.k tok9 rfl (by decide) rfl rfl (l := xs.length) (by omega) rfl (by omega) (by show 16 * _ ≤ _; omega) (by omega) (by simp [ti9, Value.cells, Value.oneCell']) (⟨rfl, by decide⟩) rfl ?_; clear F M a; intro bv3 csv3 w a M Ev3 F
  refine rl_run F (run_assign (F.ev rfl)) rfl ?_; clear F a; intro a F
  refine rl_nil <| q_tn <| wp_seq <| w_reg ?_
  iterate 2 (refine rl_run F (run_move (F.ev rfl)) rfl ?_; clear F a; intro a F)
  refine rl_copyAll F M (k := 0) rfl tok28.k tok9 rfl rfl rfl S (by omega) rfl ?_; clear F M a; intro csq4 w a Eq4 M F
  refine rl_nil <| q_tn <| wp_seq <| w_reg <| rl_run F (run_move (F.ev rfl)) rfl ?_; clear F a; intro a F
  refine rl_run F (run_assign (F.ev rfl)) rfl ?_; clear F a; intro a F
  refine rl_nil <| q_tn <| wp_ret <| fin1 F rfl rfl ?_
  change Mem w0 G (_ :: L) _ at M
  exact ⟨_, M, _, _, rfl, rfl, Eq4⟩
theorem exs_spec {w0 w : World} {G : Ghost} {L : List Res} (M : Mem w0 G L w) {a1 : Option Addr} {c1 : Nat} {xs : List (List UInt8)} (S : RdSl rdStr 1 G (.slice a1 xs.length c1) xs) (hN : xs.length ≤ 1000000) :
  Calls Tryd.prog 44 #[.slice a1 xs.length c1] w (Ret w0 G L fun G' v => ∃ a : Option Addr, v = .slice a xs.length xs.length ∧ RdSl rdStr 1 G' (.slice a xs.length xs.length) xs) := by
 refine (exs_own M S hN).mono ?_
 rintro e w' h
 cases e with
 | returned v =>
  obtain ⟨L', M', a, cs, rfl, rfl, E⟩ := h
  obtain ⟨_, G', _, _, hG, _, S', M2⟩ := M'.freeze_row mono_rdStr (k := 0) rfl E (by decide)
  exact ⟨G', hG, M2, a, rfl, S'⟩
 | panicked c => exact h.elim
 | outgrown => exact h.elim
theorem exi_own {w0 w : World} {G : Ghost} {L : List Res} (M : Mem w0 G L w) {a1 : Option Addr} {c1 : Nat} {xs : List (ItemD)} (S : RdSl rdItem 4 G (.slice a1 xs.length c1) xs) (hN : xs.length ≤ 1000000) :
  Calls Tryd.prog 43 #[.slice a1 xs.length c1] w (RetL w0 G fun L' v => ∃ (a : Option Addr) (cs : List Value), v = .slice a xs.length xs.length ∧ L' = (.row (.slice a xs.length xs.length) xs.length cs 30 4 :: L) ∧ Els rdItem 4 G cs xs) := by
 refine calls_start (vs := [_]) Tryd.func43 rfl (n := 14) rfl rfl ?_
 intro a F
 refine wp_seq <| w_reg <| rl_run F (run_assign (F.ev rfl)) rfl ?_; clear F a; intro a F
 refine rl_nil <| q_tn ?_
 iterate 2 (refine wp_seq ?_)
 refine w_reg <| rl_run F (run_move (F.ev rfl)) rfl ?_; clear F a; intro a F
 refine rl_run F (run_lenSl tok22.k (F.ev rfl)) rfl ?_; clear F a; intro a F
 refine rl_run F (run_eqi (F.ev rfl) (F.ev rfl)) rfl ?_; clear F a; intro a F
 refine rl_nil <| q_tn <| w_cond F rfl ?_ ?_
 ·intro hc
  have h1b := hc; clear hc
  have h1 : ((xs.length : Nat) : Int) = 0 := of_decide_eq_true h1b
  refine wp_seq <| w_reg <| rl_run F (run_assign (F.ev rfl)) rfl ?_; clear F a; intro a F
  refine rl_nil <| q_tn <| wp_ret <| q_tr <| fin1 F rfl rfl ?_
  have h0 := List.eq_nil_of_length_eq_zero (show xs.length = 0 by omega)
  subst h0
  exact ⟨_, M.nilrow 30 4, none, [], rfl, rfl, rfl⟩
 ·intro hc
  have h2b := hc; clear hc
  have h2 : ¬ (((xs.length : Nat) : Int) = 0) := of_decide_eq_false h2b
  refine wp_skip <| q_tn <| wp_seq <| w_reg <| rl_run F (run_move (F.ev rfl)) rfl ?_; clear F a; intro a F
  refine rl_run F (run_lenSl tok22.k (F.ev rfl)) rfl ?_; clear F a; intro a F
  refine rl_makeE (rd := rdItem) (Z := (⟨0, 0, [], []⟩ : ItemD)) F M tok22.k tok30 rfl (by decide) rfl rfl (l := xs.length) (by omega) rfl (by omega) (by show 56 * _ ≤ _; omega) (by omega) (by simp [ti30, Value.cells, Value.oneCell']) (⟨none, 0, rfl, by decide, by decide, by decide, by decide, RdSl.nil⟩) rfl ?_; clear F M a; intro bv3 csv3 w a M Ev3 F
  refine rl_run F (run_assign (F.ev rfl)) rfl ?_; clear F a; intro a F
  refine rl_nil <| q_tn <| wp_seq <| w_reg ?_
  iterate 2 (refine rl_run F (run_move (F.ev rfl)) rfl ?_; clear F a; intro a F)
  refine rl_copyAll F M (k := 0) rfl tok22.k tok30 rfl rfl rfl S (by omega) rfl ?_; clear F M a; intro csq4 w a Eq4 M F
  refine rl_nil <| q_tn <| wp_seq <| w_reg <| rl_run F (run_move (F.ev rfl)) rfl ?_; clear F a; intro a F
  refine rl_run F (run_assign (F.ev rfl)) rfl ?_; clear F a; intro a F
  refine rl_nil <| q_tn <| wp_ret <| fin1 F rfl rfl ?_
  change Mem w0 G (_ :: L) _ at M
  exact ⟨_, M, _, _, rfl, rfl, Eq4⟩
theorem copy_spec {w0 w : World} {G : Ghost} {L : List Res} (M : Mem w0 G L w) {a1 : Option Addr} {c1 : Nat} {xs : List ItemD} (S : RdSl rdItem 4 G (.slice a1 xs.length c1) xs) (hN : xs.length ≤ 1000000) (hM : ∀ x ∈ xs, x.marks.length ≤ 1000000) :
  Calls Tryd.prog 21 #[.slice a1 xs.length c1] w (Ret w0 G L fun G' v => ∃ a : Option Addr, v = .slice a xs.length xs.length ∧ RdSl rdItem 4 G' (.slice a xs.length xs.length) xs) := by
 refine calls_start (vs := [_]) Tryd.func21 rfl (n := 24) rfl rfl ?_
 intro a F
 refine wp_seq <| w_reg <| rl_run F (run_assign (F.ev rfl)) rfl ?_; clear F a; intro a F
 refine rl_nil <| q_tn <| wp_seq <| w_reg <| rl_run F (run_move (F.ev rfl)) rfl ?_; clear F a; intro a F
 refine rl_callL F ent43 rfl rfl (exi_own (xs := xs) M S (by omega)) ?_; clear F M a; rintro _ _ w a M ⟨aq1, csq1, rfl, rfl, Eq1⟩ F
 refine rl_run F (run_assign (F.ev rfl)) rfl ?_; clear F a; intro a F
 refine rl_nil <| q_tn ?_
 iterate 2 (refine wp_seq ?_)
 refine w_reg <| rl_run F (run_move (F.ev rfl)) rfl ?_; clear F a; intro a F
 refine rl_run F (run_lenSl tok22.k (F.ev rfl)) rfl ?_; clear F a; intro a F
 refine rl_run F (run_move (F.ev rfl)) rfl ?_; clear F a; intro a F
 refine rl_nil <| q_tn <| wp_block <| w_loopN (fun m a' w' => ∃ (i : Nat), ∃ (cso : List Value), m = xs.length - i ∧ ∃ G2, Gle G G2 ∧ Fits 24 a' [(3, .slice (aq1) (xs.length) (xs.length)), (7, .slice (aq1) (xs.length) (xs.length)), (8, .int .i64 (((xs.length : Nat) : Int))), (9, .int .i64 (((i : Nat) : Int)))] ∧ Mem w0 G2 (.row (.slice (aq1) (xs.length) (xs.length)) (xs.length) (cso) 30 4 :: L) w' ∧ (i ≤ xs.length) ∧ (Els rdItem 4 G2 cso xs)) _ ⟨0, csq1, rfl, G, Gle.refl _, F.to ⟨rfl, rfl, rfl, rfl, trivial⟩, M, Nat.zero_le _, Eq1⟩ ?_
 clear F M
 rintro m a w ⟨i, cso, rfl, G2, hG2, F, M, hi, Eo⟩
 replace S := S.mono mono_rdItem hG2
 refine wp_seq <| w_reg <| rl_run F (run_lss (F.ev rfl) (F.ev rfl)) rfl ?_; clear F a; intro a F
 refine rl_nil <| q_tn <| wp_seq <| w_cond F rfl ?_ ?_
 ·intro hc
  have h3b := hc; clear hc
  have h3 : ((i : Nat) : Int) < ((xs.length : Nat) : Int) := of_decide_eq_true h3b
  refine wp_skip <| q_tn <| wp_seq <| wp_block <| wp_seq <| w_reg <| rl_run F (run_move (F.ev rfl)) rfl ?_; clear F a; intro a F
  refine rl_run F (run_assign (F.ev rfl)) rfl ?_; clear F a; intro a F
  refine rl_nil <| q_tn <| w_reg ?_
  iterate 4 (refine rl_run F (run_move (F.ev rfl)) rfl ?_; clear F a; intro a F)
  obtain ⟨Xe4, hXe4⟩ := get_of_lt (xs := xs) (i := i) (by omega)
  obtain ⟨be4, _, Ie4, hme4, _, Ae4, hTe4⟩ := M.atRow (k := 0) rfl (by decide) Eo hXe4
  obtain ⟨mae4, mce4, rfl, hke4, hte4, hxe4, hne4, SMe4⟩ := hTe4
  have hIe4 : (Xe4.key < 18446744073709551616 ∧ Xe4.typ < 256 ∧ Xe4.text.length ≤ 9223372036854775807) := ⟨hke4, hte4, hxe4⟩
  refine rl_run F (run_indexI tok22.k tok30 (F.ev rfl) (F.ev rfl) (by omega) Ie4) rfl ?_; clear F a; intro a F
  refine rl_run F (run_fieldAddr tok30.k rfl rfl (F.ev rfl)) rfl ?_; clear F a; intro a F
  refine rl_run F (run_load1 (agf tok28 rfl) (F.ev rfl) (cellE Ae4 3 rfl rfl)) rfl ?_; clear F a; intro a F
  refine rl_call F ent44 rfl rfl (exs_spec (xs := Xe4.marks) M SMe4 (hM Xe4 (List.mem_of_getElem? hXe4))) ?_; clear F M a; rintro _ Gq5 w a hGq5 M ⟨aq5, rfl, Sq5⟩ F
  replace S := S.mono mono_rdItem hGq5
  replace Eo := Eo.mono mono_rdItem hGq5
  replace SMe4 := SMe4.mono mono_rdStr hGq5
  obtain ⟨be6, _, Ie6, hme6, _, Ae6, hTe6⟩ := M.atRow (k := 0) rfl (by decide) Eo hXe4
  obtain ⟨mae6, mce6, rfl, hke6, hte6, hxe6, hne6, SMe6⟩ := hTe6
  have hIe6 : (Xe4.key < 18446744073709551616 ∧ Xe4.typ < 256 ∧ Xe4.text.length ≤ 9223372036854775807) := ⟨hke6, hte6, hxe6⟩
  refine rl_run F (run_indexI tok22.k tok30 (F.ev rfl) (F.ev rfl) (by omega) Ie6) rfl ?_; clear F a; intro a F
  refine rl_run F (run_fieldAddr tok30.k rfl rfl (F.ev rfl)) rfl ?_; clear F a; intro a F
  refine rl_storeElF F M tok28 rfl (k := 0) rfl Eo Ie6 hXe4 (f := 3) (by decide) rfl rfl rfl rfl (X' := Xe4) (fun ch _ h => by obtain ⟨a_, c_, rfl, h1, h2, h3, h4, _⟩ := h; exact ⟨aq5, Xe4.marks.length, rfl, h1, h2, h3, h4, Sq5⟩) ?_; clear F M a; intro csu7 w a M Eu7 F
  refine rl_nil <| q_bn <| q_tn <| w_reg <| rl_run F (run_addi (F.ev rfl) (F.ev rfl) (in_i64 (by omega) (by omega))) rfl ?_; clear F a; intro a F
  refine rl_run F (run_move (F.ev rfl)) rfl ?_; clear F a; intro a F
  refine rl_nil <| q_tn ?_
  exact ⟨_, by omega, i + 1, csu7, rfl, Gq5, (hG2.trans hGq5), F.to ⟨rfl, rfl, rfl, rfl, trivial⟩, M, by omega, by have h_ := Eu7; rwa [set_same hXe4] at h_⟩
 ·intro hc
  have h8b := hc; clear hc
  have h8 : ¬ (((i : Nat) : Int) < ((xs.length : Nat) : Int)) := of_decide_eq_false h8b
  refine wp_exit ?_
  iterate 2 (refine q_te ?_)
  refine q_bh <| q_tn <| wp_seq <| w_reg <| rl_run F (run_move (F.ev rfl)) rfl ?_; clear F a; intro a F
  refine rl_run F (run_assign (F.ev rfl)) rfl ?_; clear F a; intro a F
  refine rl_nil <| q_tn <| wp_ret <| fin1 F rfl rfl ?_
  obtain ⟨hnz9, Gz9, az9, cz9, hGz9, hez9, Sz9, M⟩ := M.freeze_row mono_rdItem (k := 0) rfl Eo (by decide)
  clear hez9 az9 cz9
  exact ⟨Gz9, (hG2.trans hGz9), M.weaken (List.Sublist.refl _), _, rfl, Sz9⟩
/-- The first item whose key an item before it has. -/
def TwR (xs : List ItemD) (i : Nat) (b : Bool) : Prop :=
 (b = false ∧ i = 0 ∧ ∀ (m : Nat) (y : ItemD), xs[m]? = some y → ∀ (k : Nat) (z : ItemD), k < m → xs[k]? = some z → z.key ≠ y.key) ∨
 (b = true ∧ (∃ x, xs[i]? = some x ∧ ∃ k z, k < i ∧ xs[k]? = some z ∧ z.key = x.key) ∧ ∀ (m : Nat) (y : ItemD), m < i → xs[m]? = some y → ∀ (k : Nat) (z : ItemD), k < m → xs[k]? = some z → z.key ≠ y.key)
def Upto (xs : List ItemD) (i : Nat) : Prop := ∀ (m : Nat) (y : ItemD), m < i → xs[m]? = some y → ∀ (k : Nat) (z : ItemD), k < m → xs[k]? = some z → z.key ≠ y.key
theorem Upto.step {xs : List ItemD} {i : Nat} {x : ItemD} (h : Upto xs i) (hx : xs[i]? = some x) (hn : ∀ (k : Nat) (z : ItemD), k < i → xs[k]? = some z → z.key ≠ x.key) : Upto xs (i + 1) := by
 intro m y hm hy k z hk hz
 rcases Nat.lt_or_ge m i with h1 | h1
 ·exact h m y h1 hy k z hk hz
 ·have : m = i := by omega
  subst this; rw [hx] at hy; simp only [Option.some.injEq] at hy; subst hy; exact hn k z hk hz
theorem TwR.uniq {xs : List ItemD} {i j : Nat} {b c : Bool} (h : TwR xs i b) (h' : TwR xs j c) : i = j ∧ b = c := by
 rcases h with ⟨rfl, rfl, h⟩ | ⟨rfl, ⟨x, hx, k, z, hk, hz, e⟩, h⟩ <;> rcases h' with ⟨rfl, rfl, h'⟩ | ⟨rfl, ⟨x', hx', k', z', hk', hz', e'⟩, h'⟩
 ·exact ⟨rfl, rfl⟩
 ·exact absurd e' (h j x' hx' k' z' hk' hz')
 ·exact absurd e (h' i x hx k z hk hz)
 ·rcases Nat.lt_trichotomy i j with h1 | h1 | h1
  ·exact absurd e (h' i x h1 hx k z hk hz)
  ·exact ⟨h1, rfl⟩
  ·exact absurd e' (h j x' h1 hx' k' z' hk' hz')
theorem keys_step {xs : List ItemD} {i : Nat} {ks : List Nat} {x : ItemD} (h : ∀ q, q ∈ ks ↔ ∃ k z, k < i ∧ xs[k]? = some z ∧ z.key = q) (hx : xs[i]? = some x) : ∀ q, q ∈ (x.key :: ks) ↔ ∃ k z, k < i + 1 ∧ xs[k]? = some z ∧ z.key = q := by
 intro q
 rw [List.mem_cons, h q]
 constructor
 ·rintro (rfl | ⟨k, z, h1, h2, h3⟩)
  ·exact ⟨i, x, by omega, hx, rfl⟩
  ·exact ⟨k, z, by omega, h2, h3⟩
 ·rintro ⟨k, z, h1, h2, h3⟩
  rcases Nat.lt_or_ge k i with h4 | h4
  ·exact Or.inr ⟨k, z, h4, h2, h3⟩
  ·have h5 : k = i := by omega
   subst h5; rw [hx] at h2; simp only [Option.some.injEq] at h2; subst h2; exact Or.inl h3.symm
theorem twice_spec {w0 w : World} {G : Ghost} {L : List Res} (M : Mem w0 G L w) {a1 : Option Addr} {c1 : Nat} {xs : List ItemD} (S : RdSl rdItem 4 G (.slice a1 xs.length c1) xs) : Calls Tryd.prog 20 #[.slice a1 xs.length c1] w (RetS w0 G L fun v => ∃ (i : Nat) (b : Bool), v = .tuple #[.int .i64 ((i : Nat) : Int), .bool b] ∧ TwR xs i b) := by
 have bS := S.bound
 refine calls_start (vs := [_]) Tryd.func20 rfl (n := 24) rfl rfl ?_
 intro a F
 refine wp_seq <| w_reg ?_
 iterate 2 (refine rl_run F (run_assign (F.ev rfl)) rfl ?_; clear F a; intro a F)
 refine rl_nil <| q_tn <| wp_seq <| w_reg <| rl_makeSet (kt := 27) (et := 4) F M rfl ?_; clear F M a; intro bm1 w a M F
 refine rl_run F (run_assign (F.ev rfl)) rfl ?_; clear F a; intro a F
 refine rl_nil <| q_tn ?_
 iterate 2 (refine wp_seq ?_)
 refine w_reg <| rl_run F (run_move (F.ev rfl)) rfl ?_; clear F a; intro a F
 refine rl_run F (run_lenSl tok22.k (F.ev rfl)) rfl ?_; clear F a; intro a F
 refine rl_run F (run_move (F.ev rfl)) rfl ?_; clear F a; intro a F
 refine rl_nil <| q_tn <| wp_block <| w_loopN (fun m a' w' => ∃ (i : Nat), ∃ (es : Array MapEntry), ∃ (cl : Nat), ∃ (ks : List Nat), m = xs.length - i ∧ Fits 24 a' [(4, .map (some bm1)), (8, .slice (a1) (xs.length) (c1)), (9, .int .i64 (((xs.length : Nat) : Int))), (10, .int .i64 (((i : Nat) : Int)))] ∧ Mem w0 G (.obj bm1 (.map es cl) :: L) w' ∧ (i ≤ xs.length) ∧ (SetIs es ks) ∧ (∀ q, q ∈ ks ↔ ∃ k z, k < i ∧ xs[k]? = some z ∧ z.key = q) ∧ (Upto xs i)) _ ⟨0, #[], 0, ([] : List Nat), rfl, F.to ⟨rfl, rfl, rfl, rfl, trivial⟩, M, Nat.zero_le _, SetIs.nil, fun q => ⟨fun h_ => by simp at h_, fun ⟨k, z, h, _⟩ => by omega⟩, fun m y h => by omega⟩ ?_
 clear F M
 rintro m a w ⟨i, es, cl, ks, rfl, F, M, hi, Es, hks, hU⟩
 refine wp_seq <| w_reg <| rl_run F (run_lss (F.ev rfl) (F.ev rfl)) rfl ?_; clear F a; intro a F
 refine rl_nil <| q_tn <| wp_seq <| w_cond F rfl ?_ ?_
 ·intro hc
  have h2b := hc; clear hc
  have h2 : ((i : Nat) : Int) < ((xs.length : Nat) : Int) := of_decide_eq_true h2b
  refine wp_skip <| q_tn <| wp_seq <| wp_block <| wp_seq <| w_reg <| rl_run F (run_move (F.ev rfl)) rfl ?_; clear F a; intro a F
  obtain ⟨Xe3, hXe3⟩ := get_of_lt (xs := xs) (i := i) (by omega)
  obtain ⟨be3, oe3, _, Ie3, _, Ae3, hTe3⟩ := S.at hXe3
  obtain ⟨mae3, mce3, rfl, hke3, hte3, hxe3, hne3, SMe3⟩ := hTe3
  have hIe3 : (Xe3.key < 18446744073709551616 ∧ Xe3.typ < 256 ∧ Xe3.text.length ≤ 9223372036854775807) := ⟨hke3, hte3, hxe3⟩
  refine rl_run F (run_indexI tok22.k tok30 (F.ev rfl) (F.ev rfl) (by omega) Ie3) rfl ?_; clear F a; intro a F
  refine rl_run F (run_loadA tok30 rfl (F.ev rfl) (cs := [.int .u64 (((Xe3.key : Nat) : Int)), .int .u8 (((Xe3.typ : Nat) : Int)), .string (str (Xe3.text)), .slice (mae3) (Xe3.marks.length) (mce3)]) rfl (M.cellsA Ae3 0 (by omega) rfl)) rfl ?_; clear F a; intro a F
  refine rl_alloc F M tok30 rfl rfl ?_; clear F M a; intro b4 w a M F
  refine rl_run F (run_assign (F.ev rfl)) rfl ?_; clear F a; intro a F
  refine rl_storeA F M tok30 (k := 0) rfl rfl rfl (us := [.int .u64 (((Xe3.key : Nat) : Int)), .int .u8 (((Xe3.typ : Nat) : Int)), .string (str (Xe3.text)), .slice (mae3) (Xe3.marks.length) (mce3)]) rfl rfl (by simp [Value.oneCell']) (by simp) ?_; clear F M a; intro w a M F
  change Mem w0 G (.blk b4 [.int .u64 (((Xe3.key : Nat) : Int)), .int .u8 (((Xe3.typ : Nat) : Int)), .string (str (Xe3.text)), .slice (mae3) (Xe3.marks.length) (mce3)] 30 :: _ :: L) _ at M
  refine rl_nil <| q_tn ?_
  iterate 2 (refine wp_seq ?_)
  refine w_reg <| rl_run F (run_move (F.ev rfl)) rfl ?_; clear F a; intro a F
  refine rl_run F (run_fieldAddr tok30.k rfl rfl (F.ev rfl)) rfl ?_; clear F a; intro a F
  refine rl_run F (run_load1 (agf tok27 rfl) (F.ev rfl) (M.cellL (k := 0) rfl rfl)) rfl ?_; clear F a; intro a F
  refine rl_lookSet F M (k := 1) rfl Es tok78.k tok27.k tok4 rfl rfl rfl rfl ?_; clear F a; intro a F
  refine rl_nil <| q_tn <| w_cond F rfl ?_ ?_
  ·intro hc
   have h6b := hc; clear hc
   have h6 : Xe3.key ∈ ks := of_decide_eq_true h6b
   refine wp_seq <| w_reg <| rl_run F (run_move (F.ev rfl)) rfl ?_; clear F a; intro a F
   iterate 2 (refine rl_run F (run_assign (F.ev rfl)) rfl ?_; clear F a; intro a F)
   refine rl_nil <| q_tn <| wp_ret <| q_tr <| q_br ?_
   iterate 2 (refine q_tr ?_)
   refine q_br <| q_tr <| fin2 F rfl rfl rfl ?_
   exact ⟨M.weaken (.cons _ (.cons _ (List.Sublist.refl _))), i, true, rfl, Or.inr ⟨rfl, ⟨_, hXe3, (hks _).1 (by assumption)⟩, hU⟩⟩
  ·intro hc
   have h7b := hc; clear hc
   have h7 : ¬ (Xe3.key ∈ ks) := of_decide_eq_false h7b
   refine wp_skip <| q_tn <| w_reg <| rl_run F (run_move (F.ev rfl)) rfl ?_; clear F a; intro a F
   refine rl_run F (run_fieldAddr tok30.k rfl rfl (F.ev rfl)) rfl ?_; clear F a; intro a F
   refine rl_run F (run_load1 (agf tok27 rfl) (F.ev rfl) (M.cellL (k := 0) rfl rfl)) rfl ?_; clear F a; intro a F
   refine rl_putSet (z := Xe3.key) F M (k := 1) rfl Es tok78.k tok27.k rfl rfl rfl (by assumption) ?_; clear F M a; intro esm8 clm8 w a Em8 M F
   refine rl_nil <| q_bn <| q_tn <| w_reg <| rl_run F (run_addi (F.ev rfl) (F.ev rfl) (in_i64 (by omega) (by omega))) rfl ?_; clear F a; intro a F
   refine rl_run F (run_move (F.ev rfl)) rfl ?_; clear F a; intro a F
   refine rl_nil <| q_tn ?_
   exact ⟨_, by omega, i + 1, esm8, clm8, (Xe3.key :: ks), rfl, F.to ⟨rfl, rfl, rfl, rfl, trivial⟩, (M.weaken (.cons _ (.cons_cons _ (List.Sublist.refl _)))), by omega, Em8, keys_step hks hXe3, hU.step hXe3 (fun k z hk hz e_ => absurd ((hks _).2 ⟨k, z, hk, hz, e_⟩) (by assumption))⟩
 ·intro hc
  have h9b := hc; clear hc
  have h9 : ¬ (((i : Nat) : Int) < ((xs.length : Nat) : Int)) := of_decide_eq_false h9b
  refine wp_exit ?_
  iterate 2 (refine q_te ?_)
  refine q_bh <| q_tn <| wp_seq <| w_reg ?_
  iterate 2 (refine rl_run F (run_assign (F.ev rfl)) rfl ?_; clear F a; intro a F)
  refine rl_nil <| q_tn <| wp_ret <| fin2 F rfl rfl rfl ?_
  exact ⟨M.weaken (.cons _ (List.Sublist.refl _)), 0, false, rfl, Or.inl ⟨rfl, rfl, fun m y hy => hU m y (by have := lt_of_get hy; omega) hy⟩⟩
end Go.Proofs.YtmmhmcplegpenaaDoor
