/- The walks, part X. -/
import Derived.Test.YtokeofoemjeleaaDoorWalkV
import Derived.Test.YtokeofoemjeleaaDoorPrs
namespace Go.Proofs.YtokeofoemjeleaaDoor
open Go Go.Y Go.Proofs
set_option linter.unusedSimpArgs false
set_option linter.unusedVariables false
theorem text_spec {w0 w : World} {G : Ghost} {L : List Res} (M : Mem w0 G L w) (HG : Globs 0 1 4 5 G) {ad : Option Addr} {c : Nat} {xs : List PairD} (S : RdSl rdPair 2 G (.slice ad xs.length c) xs) (hxs : xs.length ≤ 9223372036854775807) (hlen0 : xs.length ≤ 1000000) :
    Calls Tryd.prog 14 #[.slice ad xs.length c] w (RetS w0 G L fun v => v = .tuple #[.string (str (if (checkF xs 1).2 = 0 then textF xs else [])), .int .i64 (checkF xs 1).2]) := by
  refine calls_start (vs := [_]) Tryd.func14 rfl (n := 35) rfl rfl ?_
  intro a F
  refine wp_seq ?_
  refine w_reg ?_
  refine rl_run F (run_assign (F.ev rfl)) rfl ?_; clear F a; intro a F
  refine rl_run F (run_assign (F.ev rfl)) rfl ?_; clear F a; intro a F
  refine rl_nil ?_
  refine q_tn ?_
  refine wp_seq ?_
  refine wp_seq ?_
  refine w_reg ?_
  refine rl_run F (run_move (F.ev rfl)) rfl ?_; clear F a; intro a F
  refine rl_callS F ent26 rfl rfl (check_spec (xs := xs) (least := 1) M S (by omega)) ?_; clear F M a; rintro _ w a M rfl F
  refine rl_run F (run_move (F.ev rfl)) rfl ?_; clear F a; intro a F
  refine rl_run F (run_extract (v := .int .i64 ((((checkF xs 1).1 : Nat) : Int))) (F.ev rfl) rfl) rfl ?_; clear F a; intro a F
  refine rl_run F (run_extract (v := .int .i64 ((checkF xs 1).2)) (F.ev rfl) rfl) rfl ?_; clear F a; intro a F
  refine rl_run F (run_assign (F.ev rfl)) rfl ?_; clear F a; intro a F
  refine rl_run F (run_assign (F.ev rfl)) rfl ?_; clear F a; intro a F
  refine rl_nil ?_
  refine q_tn ?_
  refine wp_seq ?_
  refine w_reg ?_
  refine rl_run F (run_move (F.ev rfl)) rfl ?_; clear F a; intro a F
  refine rl_run F (run_nei (F.ev rfl) (F.ev rfl)) rfl ?_; clear F a; intro a F
  refine rl_nil ?_
  refine q_tn ?_
  refine w_cond F rfl ?_ ?_
  · intro hc
    have h1b := hc; clear hc
    have h1 : ¬ ((checkF xs 1).2 = 0) := of_decide_eq_false (of_not_t h1b)
    have h1c : (decide ((checkF xs 1).2 = 0)) = false := (of_not_t h1b)
    refine wp_seq ?_
    refine w_reg ?_
    refine rl_run F (run_move (F.ev rfl)) rfl ?_; clear F a; intro a F
    refine rl_run F (run_assign (F.ev rfl)) rfl ?_; clear F a; intro a F
    refine rl_run F (run_assign (F.ev rfl)) rfl ?_; clear F a; intro a F
    refine rl_nil ?_
    refine q_tn ?_
    refine wp_ret ?_
    refine q_tr ?_
    refine fin2 F rfl rfl rfl ?_
    have hz : ¬ (checkF xs 1).2 = 0 := by omega
    exact ⟨(M.weaken (List.Sublist.refl _)), by rw [if_neg hz]; rfl⟩
  · intro hc
    have h2b := hc; clear hc
    have h2 : (checkF xs 1).2 = 0 := of_decide_eq_true (of_not_f h2b)
    have h2c : (decide ((checkF xs 1).2 = 0)) = true := (of_not_f h2b)
    refine wp_skip ?_
    refine q_tn ?_
    refine wp_seq ?_
    refine w_reg ?_
    refine rl_alloc F M tok69 rfl rfl ?_; clear F M a; intro b3 w a M F
    refine rl_nil ?_
    refine q_tn ?_
    refine wp_seq ?_
    refine wp_seq ?_
    change Mem w0 G (.blk b3 [.pointer none, .slice none (0) (0)] 69 :: L) _ at M
    have M := (M.nilrow 5 1).perm (List.Perm.swap _ _ _)
    rw [show ([] : List Value) = bc [] from rfl] at M
    refine w_reg ?_
    refine rl_run F (run_move (F.ev rfl)) rfl ?_; clear F a; intro a F
    refine rl_run F (run_lenSl tok22.k (F.ev rfl)) rfl ?_; clear F a; intro a F
    refine rl_run F (run_move (F.ev rfl)) rfl ?_; clear F a; intro a F
    refine rl_nil ?_
    refine q_tn ?_
    refine wp_block ?_
    refine w_loopN (fun m a' w' => ∃ (i : Nat), ∃ (am : Option Addr), ∃ (nm : Nat), ∃ (cm : Nat), ∃ (pm : Value), m = xs.length - i ∧ Fits 35 a' [(0, .slice (ad) (xs.length) (c)), (6, .pointer (some ⟨b3, 0, none⟩)), (17, .slice (ad) (xs.length) (c)), (18, .int .i64 (((xs.length : Nat) : Int))), (19, .int .i64 (((i : Nat) : Int)))] ∧ Mem w0 G (.blk b3 [pm, .slice (am) (nm) (cm)] 69 :: .row (.slice (am) (nm) (cm)) (nm) (bc (textF (xs.take i))) 5 1 :: L) w' ∧ (i ≤ xs.length) ∧ ((textF (xs.take i)).length ≤ 43 * i) ∧ (pm = .pointer none ∨ pm = .pointer (some ⟨b3, 0, none⟩)) ∧ (nm = (textF (xs.take i)).length) ∧ ((textF (xs.take i)) = [] → am = none)) _ ⟨0, (none), (0), (0), (.pointer none), rfl, F.to ⟨rfl, rfl, rfl, rfl, rfl, trivial⟩, M, Nat.zero_le _, by simp [textF], (Or.inl rfl), rfl, (fun _ => rfl)⟩ ?_
    clear F M
    rintro m a w ⟨i, am, nm, cm, pm, rfl, F, M, hi, hlen, hpm, hnm, hnilm⟩
    refine wp_seq ?_
    refine w_reg ?_
    refine rl_run F (run_lss (F.ev rfl) (F.ev rfl)) rfl ?_; clear F a; intro a F
    refine rl_nil ?_
    refine q_tn ?_
    refine wp_seq ?_
    refine w_cond F rfl ?_ ?_
    · intro hc
      have h5b := hc; clear hc
      have h5 : ((i : Nat) : Int) < ((xs.length : Nat) : Int) := of_decide_eq_true h5b
      refine wp_skip ?_
      refine q_tn ?_
      refine wp_seq ?_
      refine wp_block ?_
      refine wp_seq ?_
      refine w_reg ?_
      obtain ⟨Xe6, hXe6⟩ := get_of_lt (xs := xs) (i := i) (by omega)
      obtain ⟨be6, oe6, _, Ie6, _, Ae6, ⟨rfl, hbe61, hbe62⟩⟩ := S.at hXe6
      refine rl_run F (run_indexI tok22.k tok39 (F.ev rfl) (F.ev rfl) (by omega) Ie6) rfl ?_; clear F a; intro a F
      refine rl_run F (run_loadA tok39 rfl (F.ev rfl) (cs := [.int .u64 (Xe6.key), .int .i64 (Xe6.v)]) rfl (M.cellsA Ae6 0 (by omega) rfl)) rfl ?_; clear F a; intro a F
      refine rl_alloc F M tok39 rfl rfl ?_; clear F M a; intro b7 w a M F
      refine rl_storeA F M tok39 (k := 0) rfl rfl rfl (us := [.int .u64 (Xe6.key), .int .i64 (Xe6.v)]) rfl rfl (by simp [Value.oneCell']) (by simp) ?_; clear F M a; intro w a M F
      refine rl_nil ?_
      refine q_tn ?_
      have M : Mem w0 G (.blk b7 [.int .u64 (Xe6.key), .int .i64 (Xe6.v)] 39 :: .blk b3 [pm, .slice (am) (nm) (cm)] 69 :: .row (.slice (am) (nm) (cm)) (nm) (bc (textF (xs.take i))) 5 1 :: L) w := M
      have hkX : inKind .u64 Xe6.key := by assumption
      have hvX : inKind .i64 Xe6.v := by assumption
      have hkb : 0 ≤ Xe6.key ∧ Xe6.key ≤ 18446744073709551615 := hkX
      have hll := lineF_len hkX hvX
      simp only [lineF, List.length_append, List.length_cons, List.length_nil] at hll
      refine w_plan [(true, 0), (true, 1), (true, 4), (true, 5), (false, 2), (true, 3), (false, 6), (true, 7), (true, 8), (false, 9)] (Keep G [.blk b7 [.int .u64 (Xe6.key), .int .i64 (Xe6.v)] 39]) rfl (by kernel_rfl) (fun c a d v w h => by cases d <;> exact h) ((M.drew _).keep (Gle.refl _) (by simp)) ?_
      replace M := M.drew (w.drawn + 1)
      refine pl_run F (fun w M => run_fieldAddr tok39.k rfl rfl (F.ev rfl)) rfl ?_; clear F a; intro a F
      refine pl_run F (fun w M => run_load1 (agf tok37 rfl) (F.ev rfl) (M.cellL (k := 0) rfl rfl)) rfl ?_; clear F a; intro a F
      refine pl_run F (fun w M => run_fieldAddr tok39.k rfl rfl (F.ev rfl)) rfl ?_; clear F a; intro a F
      refine pl_run F (fun w M => run_load1 (agf tok2 rfl) (F.ev rfl) (M.cellL (k := 0) rfl rfl)) rfl ?_; clear F a; intro a F
      refine pl_act ?_ rfl
      refine rl_callS F ent33 rfl rfl (by have hq_ := fu_spec (u := (Xe6.key).toNat) M HG (by omega); rwa [show (((Xe6.key).toNat : Nat) : Int) = Xe6.key by omega] at hq_) ?_; clear F M a; rintro _ w a M rfl F
      refine rl_nil ?_
      refine ⟨Keep G [.blk b7 [.int .u64 (Xe6.key), .int .i64 (Xe6.v)] 39], M.keep (Gle.refl _) (by simp), fun w h => h.mono (Gle.refl _) (by simp), ?_⟩
      refine pl_run F (fun w M => run_strAdd (F.ev rfl) (F.ev rfl) (by (try simp only [List.length_append, List.length_cons, List.length_nil]); omega)) rfl ?_; clear F a; intro a F
      refine pl_act ?_ rfl
      refine rl_callS F ent34 rfl rfl (fi_spec (n := Xe6.v) M HG (by first | assumption | exact ⟨by decide, by decide⟩ | exact wrap_ink _ _ | exact in_i64 (by omega) (by omega))) ?_; clear F M a; rintro _ w a M rfl F
      refine rl_nil ?_
      refine ⟨Keep G [.blk b7 [.int .u64 (Xe6.key), .int .i64 (Xe6.v)] 39], M.keep (Gle.refl _) (by simp), fun w h => h.mono (Gle.refl _) (by simp), ?_⟩
      refine pl_run F (fun w M => run_strAdd (F.ev rfl) (F.ev rfl) (by (try simp only [List.length_append, List.length_cons, List.length_nil]); omega)) rfl ?_; clear F a; intro a F
      refine pl_run F (fun w M => run_strAdd (F.ev rfl) (F.ev rfl) (by (try simp only [List.length_append, List.length_cons, List.length_nil]); omega)) rfl ?_; clear F a; intro a F
      refine pl_act ?_ rfl
      replace M := M.perm (perm_front _ 2 _ rfl)
      replace M := M.perm (perm_front _ 2 _ rfl)
      change Mem w0 G (.blk b3 [pm, .slice (am) (nm) (cm)] 69 :: .row (.slice (am) (nm) (cm)) (nm) (bc (textF (xs.take i))) 5 1 :: .blk b7 [.int .u64 (Xe6.key), .int .i64 (Xe6.v)] 39 :: L) _ at M
      refine rl_callL F ent32 rfl rfl (wstr_spec (s := (((Lib.decDigits ((Xe6.key).toNat)) ++ ([32] : List UInt8)) ++ (Lib.itoa Xe6.v)) ++ ([10] : List UInt8)) hpm M hnm hnilm (by (simp only [List.length_append, List.length_cons, List.length_nil]; omega))) ?_; clear F M a; rintro _ _ w a M ⟨rfl, au9, nu9, cu9, rfl, hnu9, hnilu9⟩ F
      refine rl_nil ?_
      refine ⟨Keep G [.blk b7 [.int .u64 (Xe6.key), .int .i64 (Xe6.v)] 39], M.keep (Gle.refl _) (by simp), fun w h => h.mono (Gle.refl _) (by simp), ?_⟩
      refine pl_nil ?_
      refine q_bn ?_
      refine q_tn ?_
      refine w_reg ?_
      refine rl_run F (run_addi (F.ev rfl) (F.ev rfl) (in_i64 (by omega) (by omega))) rfl ?_; clear F a; intro a F
      refine rl_run F (run_move (F.ev rfl)) rfl ?_; clear F a; intro a F
      refine rl_nil ?_
      refine q_tn ?_
      have hsn : (textF (xs.take i)) ++ ((((Lib.decDigits ((Xe6.key).toNat)) ++ ([32] : List UInt8)) ++ (Lib.itoa Xe6.v)) ++ ([10] : List UInt8)) = textF (xs.take (i + 1)) := by rw [textF_snoc hXe6]; rfl
      rw [hsn] at M hnu9 hnilu9
      exact ⟨_, by omega, i + 1, (au9), (nu9), (cu9), (.pointer (some ⟨b3, 0, none⟩)), rfl, F.to ⟨rfl, rfl, rfl, rfl, rfl, trivial⟩, (M.weaken (.cons_cons _ (.cons_cons _ (.cons _ (List.Sublist.refl _))))), by omega, textF_len hlen hXe6 hkX hvX, (Or.inr rfl), hnu9, hnilu9⟩
    · intro hc
      have h10b := hc; clear hc
      have h10 : ¬ (((i : Nat) : Int) < ((xs.length : Nat) : Int)) := of_decide_eq_false h10b
      refine wp_exit ?_
      refine q_te ?_
      refine q_te ?_
      refine q_bh ?_
      refine q_tn ?_
      refine wp_seq ?_
      refine w_reg ?_
      replace M := M.perm (perm_front _ 1 _ rfl)
      replace M := M.perm (perm_front _ 1 _ rfl)
      change Mem w0 G (.blk b3 [pm, .slice (am) (nm) (cm)] 69 :: .row (.slice (am) (nm) (cm)) (nm) (bc (textF (xs.take i))) 5 1 :: L) _ at M
      refine rl_callS F ent35 rfl rfl (bstr_spec M hnm hnilm) ?_; clear F M a; rintro _ w a M rfl F
      refine rl_run F (run_assign (F.ev rfl)) rfl ?_; clear F a; intro a F
      refine rl_run F (run_assign (F.ev rfl)) rfl ?_; clear F a; intro a F
      refine rl_nil ?_
      refine q_tn ?_
      refine wp_ret ?_
      refine fin2 F rfl rfl rfl ?_
      have hz : (checkF xs 1).2 = 0 := by omega
      exact ⟨(M.weaken (List.Sublist.refl _)), by rw [if_pos hz, hz, List.take_of_length_le (by omega)]⟩

end Go.Proofs.YtokeofoemjeleaaDoor
