/- The walks, part Z. -/
import Derived.Test.YtmmhmcplegpenaaDoorWalkW
import Derived.Test.YtmmhmcplegpenaaDoorLnd
namespace Go.Proofs.YtmmhmcplegpenaaDoor
open Go Go.Y Go.Proofs
set_option linter.unusedSimpArgs false
set_option linter.unusedVariables false
def ROWM (a : Option Addr) (k : Nat) (m : List Value) : Res := .row (.slice a k k) k m 9 1
/-- A cell row of a copy: its marks are an owned row of the list. -/
def rdC (Ls : List Res) : Rd ItemD := fun G cs x => ∃ (a : Option Addr) (m : List Value), cs = [.int .u64 ((x.key : Nat) : Int), .int .u8 ((x.typ : Nat) : Int), .string (str x.text), .slice a x.marks.length x.marks.length] ∧
 x.key < 18446744073709551616 ∧ x.typ < 256 ∧ x.text.length ≤ 9223372036854775807 ∧ x.marks.length ≤ 9223372036854775807 ∧ ROWM a x.marks.length m ∈ Ls ∧ Els rdStr 1 G m x.marks
def rdCF (Ls : List Res) : Rd (ItemD × Bool) := fun G cs p => (p.2 = true → rdC Ls G cs p.1) ∧ (p.2 = false → rdItem G cs p.1)
theorem mono_rdC {Ls : List Res} : Mono (rdC Ls) := by
 rintro G G' cs x h ⟨a, m, h1, h2, h3, h4, h5, h6, h7⟩
 exact ⟨a, m, h1, h2, h3, h4, h5, h6, h7.mono mono_rdStr h⟩
theorem rdCF_more {Ls : List Res} {r : Res} {G : Ghost} {cs : List Value} {p : ItemD × Bool} (h : rdCF Ls G cs p) : rdCF (r :: Ls) G cs p := ⟨fun e => by
 obtain ⟨a, m, h1, h2, h3, h4, h5, h6, h7⟩ := h.1 e
 exact ⟨a, m, h1, h2, h3, h4, h5, List.mem_cons_of_mem _ h6, h7⟩, h.2⟩
theorem els_more {Ls : List Res} {r : Res} {G : Ghost} : ∀ {ys : List (ItemD × Bool)} {cs : List Value}, Els (rdCF Ls) 4 G cs ys → Els (rdCF (r :: Ls)) 4 G cs ys
 | [], cs, h => h
 | y :: ys, cs, h => by
  obtain ⟨c, r', h1, h2, h3, h4⟩ := h
  exact ⟨c, r', h1, h2, rdCF_more h3, els_more h4⟩
def ysF (xs : List ItemD) (i : Nat) : List (ItemD × Bool) := (xs.take i).map (·, true) ++ (xs.drop i).map (·, false)
theorem ysF_get {xs : List ItemD} {i : Nat} {x : ItemD} (h : xs[i]? = some x) : (ysF xs i)[i]? = some (x, false) := by
 have hi := lt_of_get h
 unfold ysF
 rw [List.getElem?_append_right (by simp; omega), List.length_map, List.length_take, Nat.min_eq_left (by omega), Nat.sub_self, List.getElem?_map, List.getElem?_drop, Nat.add_zero, h]; rfl
theorem ysF_set {xs : List ItemD} {i : Nat} {x : ItemD} (h : xs[i]? = some x) : (ysF xs i).set i (x, true) = ysF xs (i + 1) := by
 have hi := lt_of_get h
 have hl : ((xs.take i).map (·, true)).length = i := by simp; omega
 unfold ysF
 have hx : xs[i] = x := by rw [List.getElem?_eq_getElem hi] at h; simpa using h
 have hdr : xs.drop i = x :: xs.drop (i + 1) := by rw [List.drop_eq_getElem_cons hi, hx]
 rw [List.set_append_right _ _ (by omega), hl, Nat.sub_self, List.take_add_one, h, hdr]
 simp
theorem els_zero {G : Ghost} : ∀ {xs : List ItemD} {cs : List Value}, Els rdItem 4 G cs xs → Els (rdCF []) 4 G cs (ysF xs 0)
 | [], cs, h => h
 | x :: xs, cs, h => by
  obtain ⟨c, r', h1, h2, h3, h4⟩ := h
  exact ⟨c, r', h1, h2, ⟨(fun e => by cases e), fun _ => h3⟩, els_zero h4⟩
theorem els_done {G : Ghost} {Ls : List Res} {xs : List ItemD} {cs : List Value} {i : Nat} (h : Els (rdCF Ls) 4 G cs (ysF xs i)) (hi : xs.length ≤ i) : Els (rdC Ls) 4 G cs xs := by
 have e : ysF xs i = xs.map (·, true) := by unfold ysF; rw [List.take_of_length_le hi, List.drop_eq_nil_of_le hi]; simp
 rw [e] at h
 clear e hi
 induction xs generalizing cs with
 | nil => exact h
 | cons x xs ih =>
  obtain ⟨c, r', h1, h2, h3, h4⟩ := h
  exact ⟨c, r', h1, h2, h3.1 rfl, ih h4⟩
theorem copy_own {w0 w : World} {G : Ghost} {L : List Res} (M : Mem w0 G L w) {a1 : Option Addr} {c1 : Nat} {xs : List ItemD} (S : RdSl rdItem 4 G (.slice a1 xs.length c1) xs) (hN : xs.length ≤ 1000000) (hM : ∀ x ∈ xs, x.marks.length ≤ 1000000) :
  Calls Tryd.prog 21 #[.slice a1 xs.length c1] w (RetL w0 G fun L' v => ∃ (a : Option Addr) (cs : List Value) (Ls : List Res), v = .slice a xs.length xs.length ∧ L' = (.row (.slice a xs.length xs.length) xs.length cs 30 4 :: (Ls ++ L)) ∧ Els (rdC Ls) 4 G cs xs) := by
 refine calls_start (vs := [_]) Tryd.func21 rfl (n := 24) rfl rfl ?_
 intro a F
 refine wp_seq <| w_reg <| rl_run F (run_assign (F.ev rfl)) rfl ?_; clear F a; intro a F
 refine rl_nil <| q_tn <| wp_seq <| w_reg <| rl_run F (run_move (F.ev rfl)) rfl ?_; clear F a; intro a F
 refine rl_callL F ent43 rfl rfl (exi_own (xs := xs) M S (by omega)) ?_; clear F M a; rintro _ _ w a M ⟨aq1, csq1, rfl, rfl, Eq1⟩ F
 refine rl_run F (run_assign (F.ev rfl)) rfl ?_; clear F a; intro a F
 refine rl_nil <| q_tn ?_
 iterate 2 (refine wp_seq ?_)
 refine w_reg <| rl_run F (run_move (F.ev rfl)) rfl ?_; clear F a; intro a F
 refine rl_run F (run_lenSl tok22.k (F.ev rfl)) rfl ?_; clear F a; intro a F
 refine rl_run F (run_move (F.ev rfl)) rfl ?_; clear F a; intro a F
 refine rl_nil <| q_tn <| wp_block ?_
 have E0 := els_zero Eq1
 refine w_loopN (fun m a' w' => ∃ (i : Nat), ∃ (Ls : List Res), ∃ (cso : List Value), m = xs.length - i ∧ Fits 24 a' [(3, .slice (aq1) (xs.length) (xs.length)), (7, .slice (aq1) (xs.length) (xs.length)), (8, .int .i64 (((xs.length : Nat) : Int))), (9, .int .i64 (((i : Nat) : Int)))] ∧ Mem w0 G (.row (.slice (aq1) (xs.length) (xs.length)) (xs.length) (cso) 30 4 :: (Ls ++ L)) w' ∧ (i ≤ xs.length) ∧ (Els (rdCF Ls) 4 G cso (ysF xs i))) _ ⟨0, [], csq1, rfl, F.to ⟨rfl, rfl, rfl, rfl, trivial⟩, M, Nat.zero_le _, E0⟩ ?_
 clear F M
 rintro m a w ⟨i, Ls, cso, rfl, F, M, hi, Eo⟩
 refine wp_seq <| w_reg <| rl_run F (run_lss (F.ev rfl) (F.ev rfl)) rfl ?_; clear F a; intro a F
 refine rl_nil <| q_tn <| wp_seq <| w_cond F rfl ?_ ?_
 ·intro hc
  have h2b := hc; clear hc
  have h2 : ((i : Nat) : Int) < ((xs.length : Nat) : Int) := of_decide_eq_true h2b
  refine wp_skip <| q_tn <| wp_seq <| wp_block <| wp_seq <| w_reg <| rl_run F (run_move (F.ev rfl)) rfl ?_; clear F a; intro a F
  refine rl_run F (run_assign (F.ev rfl)) rfl ?_; clear F a; intro a F
  refine rl_nil <| q_tn ?_
  obtain ⟨Xi, hXi⟩ := get_of_lt (xs := xs) (i := i) (by omega)
  have hYi := ysF_get hXi
  refine w_reg ?_
  iterate 4 (refine rl_run F (run_move (F.ev rfl)) rfl ?_; clear F a; intro a F)
  obtain ⟨be3, _, Ie3, hme3, _, Ae3, hTe3⟩ := M.atRow (k := 0) rfl (by decide) Eo hYi
  obtain ⟨mae3, mce3, rfl, hke3, hte3, hxe3, hne3, SMe3⟩ := hTe3.2 rfl
  refine rl_run F (run_indexI tok22.k tok30 (F.ev rfl) (F.ev rfl) (by omega) Ie3) rfl ?_; clear F a; intro a F
  refine rl_run F (run_fieldAddr tok30.k rfl rfl (F.ev rfl)) rfl ?_; clear F a; intro a F
  refine rl_run F (run_load1 (agf tok28 rfl) (F.ev rfl) (cellE Ae3 3 rfl rfl)) rfl ?_; clear F a; intro a F
  refine rl_callL F ent44 rfl rfl (exs_own (xs := Xi.marks) M SMe3 (hM Xi (List.mem_of_getElem? hXi))) ?_; clear F M a; rintro _ _ w a M ⟨aq4, csq4, rfl, rfl, Eq4⟩ F
  have em5 := els_more (r := .row (.slice (aq4) (Xi.marks.length) (Xi.marks.length)) (Xi.marks.length) (csq4) 9 1) Eo
  obtain ⟨be6, _, Ie6, hme6, _, Ae6, hTe6⟩ := M.atRow (k := 1) rfl (by decide) em5 hYi
  obtain ⟨mae6, mce6, rfl, hke6, hte6, hxe6, hne6, SMe6⟩ := hTe6.2 rfl
  refine rl_run F (run_indexI tok22.k tok30 (F.ev rfl) (F.ev rfl) (by omega) Ie6) rfl ?_; clear F a; intro a F
  refine rl_run F (run_fieldAddr tok30.k rfl rfl (F.ev rfl)) rfl ?_; clear F a; intro a F
  refine rl_storeElF F M tok28 rfl (k := 1) rfl em5 Ie6 hYi (f := 3) (by decide) rfl rfl rfl rfl (X' := (Xi, true)) (fun ch _ h => ⟨fun _ => by obtain ⟨a_, c_, rfl, h1, h2, h3, h4, _⟩ := h.2 rfl; exact ⟨aq4, csq4, rfl, h1, h2, h3, h4, List.mem_cons_self, Eq4⟩, fun h_ => by cases h_⟩) ?_; clear F M a; intro csu7 w a M Eu7 F
  refine rl_nil <| q_bn <| q_tn ?_
  replace M := M.perm (perm_front _ 1 _ rfl)
  change Mem w0 G (_ :: _ :: (Ls ++ L)) _ at M
  change Mem w0 G (.row (.slice (aq1) (xs.length) (xs.length)) (xs.length) (csu7) 30 4 :: ((.row (.slice (aq4) (Xi.marks.length) (Xi.marks.length)) (Xi.marks.length) (csq4) 9 1 :: Ls) ++ L)) _ at M
  refine w_reg <| rl_run F (run_addi (F.ev rfl) (F.ev rfl) (in_i64 (by omega) (by omega))) rfl ?_; clear F a; intro a F
  refine rl_run F (run_move (F.ev rfl)) rfl ?_; clear F a; intro a F
  refine rl_nil <| q_tn ?_
  exact ⟨_, by omega, i + 1, (.row (.slice (aq4) (Xi.marks.length) (Xi.marks.length)) (Xi.marks.length) (csq4) 9 1 :: Ls), csu7, rfl, F.to ⟨rfl, rfl, rfl, rfl, trivial⟩, M, by omega, by have h_ := Eu7; rwa [ysF_set hXi] at h_⟩
 ·intro hc
  have h8b := hc; clear hc
  have h8 : ¬ (((i : Nat) : Int) < ((xs.length : Nat) : Int)) := of_decide_eq_false h8b
  refine wp_exit ?_
  iterate 2 (refine q_te ?_)
  refine q_bh <| q_tn <| wp_seq <| w_reg <| rl_run F (run_move (F.ev rfl)) rfl ?_; clear F a; intro a F
  refine rl_run F (run_assign (F.ev rfl)) rfl ?_; clear F a; intro a F
  refine rl_nil <| q_tn <| wp_ret <| fin1 F rfl rfl ?_
  exact ⟨_, M, _, _, Ls, rfl, rfl, els_done Eo (by omega)⟩
theorem els_lent {w0 w : World} {G : Ghost} {L Ls LL : List Res} (hsub : ∀ x ∈ Ls, x ∈ LL) (M : Mem w0 G (LL ++ L) w) : ∀ {xs : List ItemD} {cs : List Value}, Els (rdC Ls) 4 G cs xs → Els rdItem 4 (lent G LL w) cs xs
 | [], cs, h => h
 | x :: xs, cs, h => by
  obtain ⟨c, r', h1, h2, ⟨a, m, e1, k1, k2, k3, k4, hm, hE⟩, h4⟩ := h
  exact ⟨c, r', h1, h2, ⟨a, x.marks.length, e1, k1, k2, k3, k4, lent_row M (hsub _ hm) (hE.mono mono_rdStr M.lend.1) (by decide)⟩, els_lent hsub M h4⟩
/-- The whole copy, lent, reads as the items. -/
theorem copy_lent {w0 w : World} {G : Ghost} {L Ls : List Res} {a : Option Addr} {cs : List Value} {xs : List ItemD} (M : Mem w0 G ((.row (.slice a xs.length xs.length) xs.length cs 30 4 :: Ls) ++ L) w) (E : Els (rdC Ls) 4 G cs xs) :
  RdSl rdItem 4 (lent G (.row (.slice a xs.length xs.length) xs.length cs 30 4 :: Ls) w) (.slice a xs.length xs.length) xs :=
 lent_row (t := 30) M (by simp) (els_lent (fun x hx => List.mem_cons_of_mem _ hx) M E) (by decide)
theorem rsameall_own {w0 w : World} {G : Ghost} {L Ls : List Res} {a a2 : Option Addr} {c2 : Nat} {cs : List Value} {xs ys : List ItemD} (M : Mem w0 G (.row (.slice a xs.length xs.length) xs.length cs 30 4 :: (Ls ++ L)) w) (E : Els (rdC Ls) 4 G cs xs) (T : RdSl rdItem 4 G (.slice a2 ys.length c2) ys) :
  Calls Tryd.prog 14 #[.slice a xs.length xs.length, .slice a2 ys.length c2] w (RetS w0 G (.row (.slice a xs.length xs.length) xs.length cs 30 4 :: (Ls ++ L)) fun v => v = .int .i64 (if xs = ys then (1 : Int) else 0)) := by
 have M1 : Mem w0 G ((.row (.slice a xs.length xs.length) xs.length cs 30 4 :: Ls) ++ L) w := M
 obtain ⟨hG, M2⟩ := M1.lend
 refine (rsameall_spec M2 (copy_lent M1 E) (T.mono mono_rdItem hG)).mono ?_
 rintro e w' h
 cases e with
 | returned v => exact ⟨M1.back h.1, h.2⟩
 | panicked c => exact h.elim
 | outgrown => exact h.elim
end Go.Proofs.YtmmhmcplegpenaaDoor
