/- The walks, part D. -/
import Derived.Test.YtnloilnlehgngaaWalkC
import Derived.Test.YtnloilnlehgngaaRun
import Derived.Test.YtnloilnlehgngaaWid
namespace Go.Proofs.Ytnloilnlehgngaa
open Go Go.Y Go.Proofs
set_option linter.unusedSimpArgs false
set_option linter.unusedVariables false
theorem clone_spec {w0 w : World} {G : Ghost} {L : List Res} {n c : Nat} {ad : Option Addr} {cs : List Value} (M : Mem w0 G (.row (.slice ad n c) n cs 58 3 :: L) w) (hn : n ≤ 8192) :
    Calls Try.prog 28 #[.slice ad n c] w (RetL w0 G fun L' v => ∃ a' c', v = .slice a' n c' ∧ L' = (.row (.slice a' n c') n cs 58 3 :: .row (.slice ad n c) n cs 58 3 :: L)) := by
  refine calls_start (vs := [_]) Try.func28 rfl (n := 8) rfl rfl ?_
  intro a F
  refine wp_seq ?_
  refine w_reg ?_
  refine rl_run F (run_assign (F.ev rfl)) rfl ?_; clear F a; intro a F
  refine rl_nil ?_
  refine q_tn ?_
  refine wp_seq ?_
  refine wp_seq ?_
  refine w_reg ?_
  refine rl_run F (run_move (F.ev rfl)) rfl ?_; clear F a; intro a F
  refine rl_run F (run_eqnilS tok53.k (F.ev rfl) (F.ev rfl)) rfl ?_; clear F a; intro a F
  refine rl_nil ?_
  refine q_tn ?_
  refine w_cond F rfl ?_ ?_
  · intro hc
    have h1b := hc; clear hc
    have h1 : ((ad).isNone) = true := h1b
    refine wp_seq ?_
    refine w_reg ?_
    refine rl_run F (run_assign (F.ev rfl)) rfl ?_; clear F a; intro a F
    refine rl_nil ?_
    refine q_tn ?_
    refine wp_ret ?_
    refine q_tr ?_
    refine fin1 F rfl rfl ?_
    obtain ⟨rfl, hn0, rfl, rfl⟩ := M.row_none (k := 0) rfl ‹ad.isNone = true›
    subst hn0
    exact ⟨_, M.nilrow 58 3, none, 0, rfl, rfl⟩
  · intro hc
    have h2b := hc; clear hc
    have h2 : ((ad).isNone) = false := h2b
    refine wp_skip ?_
    refine q_tn ?_
    refine wp_seq ?_
    refine w_reg ?_
    refine rl_buildSlice0 F M tok53.k tok58 rfl ?_; clear F M a; intro v3 w a M F
    obtain ⟨av3, cv3, rfl, hlev3, hcmv3, hlv3⟩ := M.row_shape (k := 0) rfl
    refine rl_run F (run_move (F.ev rfl)) rfl ?_; clear F a; intro a F
    refine rl_append_row F M (k := 0) (k2 := 1) rfl rfl tok53.k tok58 rfl rfl (by decide) rfl rfl (by show _ * 24 ≤ _; (try simp only [List.length_drop, List.length_take, List.length_append, List.length_cons, List.length_nil]); omega) (by (try simp only [List.length_drop, List.length_take, List.length_append, List.length_cons, List.length_nil]); omega) rfl ?_; clear F M a; intro v4 w a M F
    obtain ⟨av4, cv4, rfl, hlev4, hcmv4, hlv4⟩ := M.row_shape (k := 0) rfl
    refine rl_run F (run_assign (F.ev rfl)) rfl ?_; clear F a; intro a F
    refine rl_nil ?_
    refine q_tn ?_
    refine wp_ret ?_
    refine fin1 F rfl rfl ?_
    replace M := M.perm (perm_front _ 1 _ rfl)
    replace M := M.perm (perm_front _ 1 _ rfl)
    change Mem w0 G (.row (.slice (av4) (0 + n) (cv4)) (0 + n) (([]) ++ cs) 58 3 :: .row (.slice (ad) (n) (c)) (n) (cs) 58 3 :: L) _ at M
    simp only [Nat.zero_add, List.nil_append] at M ⊢
    exact ⟨_, M, _, _, rfl, rfl⟩

theorem copy_spec {w0 w : World} {G : Ghost} {L : List Res} {n : Nat} {b : Nat} {ad : Option Addr} {c : Nat} {many tombs : Int} {cs : List Value} {s : List SlotD}  (M : Mem w0 G (.blk b [.slice ad n c, .int .i64 many, .int .i64 tombs] 55 :: .row (.slice ad n c) n cs 58 3 :: L) w) (hn : n = s.length) (E : Els rdSlot 3 G cs s) {ps : List PairD} {most : Nat} (K : KOK s many tombs ps most) :
    Calls Try.prog 22 #[.pointer (some ⟨b, 0, none⟩)] w (RetL w0 G fun L' v => ∃ b', v = .pointer (some ⟨b', 0, none⟩) ∧ KmIs b' G ps most (.blk b [.slice ad n c, .int .i64 many, .int .i64 tombs] 55 :: .row (.slice ad n c) n cs 58 3 :: L) L') := by
  subst hn
  have hKm := K.many
  have hKl := K.load
  have hKn := K.len
  have hKt := K.tombs
  have hKc := K.cnt
  refine calls_start (vs := [_]) Try.func22 rfl (n := 20) rfl rfl ?_
  intro a F
  refine wp_seq ?_
  refine w_reg ?_
  refine rl_run F (run_assign (F.ev rfl)) rfl ?_; clear F a; intro a F
  refine rl_nil ?_
  refine q_tn ?_
  refine wp_seq ?_
  refine wp_seq ?_
  refine w_reg ?_
  refine rl_run F (run_move (F.ev rfl)) rfl ?_; clear F a; intro a F
  refine rl_run F (run_eqnil tok24.k (F.ev rfl) (F.ev rfl)) rfl ?_; clear F a; intro a F
  refine rl_nil ?_
  refine q_tn ?_
  refine w_cond_f F rfl rfl ?_
  refine wp_skip ?_
  refine q_tn ?_
  refine wp_seq ?_
  refine w_plan [(true, 0), (true, 1), (true, 2), (true, 3), (true, 5), (true, 6), (true, 7), (true, 8), (true, 9), (true, 10), (true, 11), (true, 12), (false, 4), (true, 13), (false, 14), (true, 15)] (Keep G [.blk b [.slice (ad) (s.length) (c), .int .i64 (many), .int .i64 (tombs)] 55]) rfl (by kernel_rfl) (fun c a d v w h => by cases d <;> exact h) ((M.drew _).keep (Gle.refl _) (by simp)) ?_
  replace M := M.drew (w.drawn + 1)
  refine pl_run F (fun w M => run_move (F.ev rfl)) rfl ?_; clear F a; intro a F
  refine pl_run F (fun w M => run_nilCheck (F.ev rfl)) rfl ?_; clear F a; intro a F
  refine pl_run F (fun w M => run_fieldAddr tok55.k rfl rfl (F.ev rfl)) rfl ?_; clear F a; intro a F
  refine pl_run F (fun w M => run_load1 (agf tok53 rfl) (F.ev rfl) (M.cellL (k := 0) rfl rfl)) rfl ?_; clear F a; intro a F
  refine pl_run F (fun w M => run_move (F.ev rfl)) rfl ?_; clear F a; intro a F
  refine pl_run F (fun w M => run_nilCheck (F.ev rfl)) rfl ?_; clear F a; intro a F
  refine pl_run F (fun w M => run_fieldAddr tok55.k rfl rfl (F.ev rfl)) rfl ?_; clear F a; intro a F
  refine pl_run F (fun w M => run_load1 (agf tok3 rfl) (F.ev rfl) (M.cellL (k := 0) rfl rfl)) rfl ?_; clear F a; intro a F
  refine pl_run F (fun w M => run_move (F.ev rfl)) rfl ?_; clear F a; intro a F
  refine pl_run F (fun w M => run_nilCheck (F.ev rfl)) rfl ?_; clear F a; intro a F
  refine pl_run F (fun w M => run_fieldAddr tok55.k rfl rfl (F.ev rfl)) rfl ?_; clear F a; intro a F
  refine pl_run F (fun w M => run_load1 (agf tok3 rfl) (F.ev rfl) (M.cellL (k := 0) rfl rfl)) rfl ?_; clear F a; intro a F
  refine pl_act ?_ rfl
  replace M := M.perm (perm_front _ 1 _ rfl)
  change Mem w0 G (.row (.slice (ad) (s.length) (c)) (s.length) (cs) 58 3 :: .blk b [.slice (ad) (s.length) (c), .int .i64 (many), .int .i64 (tombs)] 55 :: L) _ at M
  refine rl_callL F ent28 rfl rfl (clone_spec M (by omega)) ?_; clear F M a; rintro _ _ w a M ⟨ak1, ck1, rfl, rfl⟩ F
  refine rl_nil ?_
  refine ⟨Keep G [.blk b [.slice (ad) (s.length) (c), .int .i64 (many), .int .i64 (tombs)] 55], M.keep (Gle.refl _) (by simp), fun w h => h.mono (Gle.refl _) (by simp), ?_⟩
  refine pl_run F (fun w M => run_buildS (cs := [.slice (ak1) (s.length) (ck1), .int .i64 (many), .int .i64 (tombs)]) (ps := [(0, .slice (ak1) (s.length) (ck1)), (1, .int .i64 (many)), (2, .int .i64 (tombs))]) tok55.k rfl tok55 (F.evp rfl) rfl) rfl ?_; clear F a; intro a F
  refine pl_act ?_ rfl
  refine rl_box F M rfl (cs := [.slice (ak1) (s.length) (ck1), .int .i64 (many), .int .i64 (tombs)]) rfl rfl ?_; clear F M a; intro b2 w a M F
  refine rl_nil ?_
  refine ⟨Keep G [.blk b [.slice (ad) (s.length) (c), .int .i64 (many), .int .i64 (tombs)] 55], M.keep (Gle.refl _) (by simp), fun w h => h.mono (Gle.refl _) (by simp), ?_⟩
  refine pl_run F (fun w M => run_assign (F.ev rfl)) rfl ?_; clear F a; intro a F
  refine pl_nil ?_
  refine q_tn ?_
  refine wp_ret ?_
  refine fin1 F rfl rfl ?_
  replace M := M.perm (perm_front _ 2 _ rfl)
  replace M := M.perm (perm_front _ 3 _ rfl)
  replace M := M.perm (perm_front _ 3 _ rfl)
  replace M := M.perm (perm_front _ 3 _ rfl)
  change Mem w0 G (.blk b2 [.slice (ak1) (s.length) (ck1), .int .i64 (many), .int .i64 (tombs)] 55 :: .row (.slice (ak1) (s.length) (ck1)) (s.length) (cs) 58 3 :: .blk b [.slice (ad) (s.length) (c), .int .i64 (many), .int .i64 (tombs)] 55 :: .row (.slice (ad) (s.length) (c)) (s.length) (cs) 58 3 :: L) _ at M
  exact ⟨_, M, _, rfl, ⟨_, _, _, _, _, _, _, rfl, rfl, E, K⟩⟩

theorem keys_spec {w0 w : World} {G : Ghost} {L : List Res} {n : Nat} {b : Nat} {ad : Option Addr} {c : Nat} {many tombs : Int} {cs : List Value} {s : List SlotD}  (M : Mem w0 G (.blk b [.slice ad n c, .int .i64 many, .int .i64 tombs] 55 :: .row (.slice ad n c) n cs 58 3 :: L) w) (hn : n = s.length) (E : Els rdSlot 3 G cs s) {ps : List PairD} {most : Nat} (K : KOK s many tombs ps most) :
    Calls Try.prog 23 #[.pointer (some ⟨b, 0, none⟩)] w (RetL w0 G fun L' v => ∃ a, v = .slice a ps.length ps.length ∧ L' = (.row (.slice a ps.length ps.length) ps.length ((ps.map PairD.key).map eu) 27 1 :: .blk b [.slice ad n c, .int .i64 many, .int .i64 tombs] 55 :: .row (.slice ad n c) n cs 58 3 :: L)) := by
  subst hn
  have hKm := K.many
  have hKl := K.load
  have hKn := K.len
  have hKt := K.tombs
  have hKc := K.cnt
  subst hKm
  refine calls_start (vs := [_]) Try.func23 rfl (n := 37) rfl rfl ?_
  intro a F
  refine wp_seq ?_
  refine w_reg ?_
  refine rl_run F (run_assign (F.ev rfl)) rfl ?_; clear F a; intro a F
  refine rl_nil ?_
  refine q_tn ?_
  refine wp_seq ?_
  refine wp_seq ?_
  refine w_reg ?_
  refine rl_run F (run_move (F.ev rfl)) rfl ?_; clear F a; intro a F
  refine rl_callS F ent20 rfl rfl (len_spec M (k := 0) rfl) ?_; clear F M a; rintro _ w a M rfl F
  refine rl_run F (run_eqi (F.ev rfl) (F.ev rfl)) rfl ?_; clear F a; intro a F
  refine rl_nil ?_
  refine q_tn ?_
  refine w_cond F rfl ?_ ?_
  · intro hc
    have h1b := hc; clear hc
    have h1 : ((ps.length : Nat) : Int) = 0 := of_decide_eq_true h1b
    refine wp_seq ?_
    refine w_reg ?_
    refine rl_run F (run_assign (F.ev rfl)) rfl ?_; clear F a; intro a F
    refine rl_nil ?_
    refine q_tn ?_
    refine wp_ret ?_
    refine q_tr ?_
    refine fin1 F rfl rfl ?_
    have hps : ps = [] := List.eq_nil_of_length_eq_zero (by omega)
    subst hps
    exact ⟨_, M.nilrow 27 1, none, rfl, rfl⟩
  · intro hc
    have h2b := hc; clear hc
    have h2 : ¬ (((ps.length : Nat) : Int) = 0) := of_decide_eq_false h2b
    refine wp_skip ?_
    refine q_tn ?_
    refine wp_seq ?_
    refine w_reg ?_
    refine rl_run F (run_move (F.ev rfl)) rfl ?_; clear F a; intro a F
    refine rl_run F (run_nilCheck (F.ev rfl)) rfl ?_; clear F a; intro a F
    refine rl_run F (run_fieldAddr tok55.k rfl rfl (F.ev rfl)) rfl ?_; clear F a; intro a F
    refine rl_run F (run_load1 (agf tok3 rfl) (F.ev rfl) (M.cellL (k := 0) rfl rfl)) rfl ?_; clear F a; intro a F
    refine rl_make0 F M tok51.k tok27 rfl rfl (by omega) rfl (c := ps.length) (by omega) (by show 8 * _ ≤ _; omega) (by omega) rfl ?_; clear F M a; intro bv3 w a M F
    refine rl_alloc F M tok51 rfl rfl ?_; clear F M a; intro b4 w a M F
    refine rl_store1 F M tok51 rfl (k := 0) rfl rfl rfl rfl rfl ?_; clear F M a; intro w a M F
    refine rl_nil ?_
    refine q_tn ?_
    refine wp_seq ?_
    refine wp_seq ?_
    refine w_reg ?_
    refine rl_run F (run_move (F.ev rfl)) rfl ?_; clear F a; intro a F
    refine rl_run F (run_nilCheck (F.ev rfl)) rfl ?_; clear F a; intro a F
    refine rl_run F (run_fieldAddr tok55.k rfl rfl (F.ev rfl)) rfl ?_; clear F a; intro a F
    refine rl_run F (run_load1 (agf tok53 rfl) (F.ev rfl) (M.cellL (k := 2) rfl rfl)) rfl ?_; clear F a; intro a F
    refine rl_run F (run_lenSl tok53.k (F.ev rfl)) rfl ?_; clear F a; intro a F
    refine rl_run F (run_move (F.ev rfl)) rfl ?_; clear F a; intro a F
    refine rl_nil ?_
    refine q_tn ?_
    refine wp_block ?_
    refine w_loopN (fun m a' w' => ∃ (i : Nat), ∃ (ks : List PairD), m = s.length - i ∧ Fits 37 a' [(0, .pointer (some ⟨b, 0, none⟩)), (3, .pointer (some ⟨b4, 0, none⟩)), (17, .slice (ad) (s.length) (c)), (18, .int .i64 (((s.length : Nat) : Int))), (19, .int .i64 (((i : Nat) : Int)))] ∧ Mem w0 G (.blk b4 [.slice (some ⟨bv3, 0, none⟩) (ks.length) (ps.length)] 51 :: .row (.slice (some ⟨bv3, 0, none⟩) (ks.length) (ps.length)) (ks.length) ((ks.map PairD.key).map eu) 27 1 :: .blk b [.slice (ad) (s.length) (c), .int .i64 (((ps.length : Nat) : Int)), .int .i64 (tombs)] 55 :: .row (.slice (ad) (s.length) (c)) (s.length) (cs) 58 3 :: L) w' ∧ (i ≤ s.length) ∧ (ks = U (s.take i))) _ ⟨0, [], rfl, F.to ⟨rfl, rfl, rfl, rfl, rfl, trivial⟩, M, Nat.zero_le _, rfl⟩ ?_
    clear F M
    rintro m a w ⟨i, ks, rfl, F, M, hi, hks⟩
    refine wp_seq ?_
    refine w_reg ?_
    refine rl_run F (run_lss (F.ev rfl) (F.ev rfl)) rfl ?_; clear F a; intro a F
    refine rl_nil ?_
    refine q_tn ?_
    refine wp_seq ?_
    refine w_cond F rfl ?_ ?_
    · intro hc
      have h6b := hc; clear hc
      have h6 : ((i : Nat) : Int) < ((s.length : Nat) : Int) := of_decide_eq_true h6b
      refine wp_skip ?_
      refine q_tn ?_
      refine wp_seq ?_
      refine wp_block ?_
      refine wp_seq ?_
      refine w_reg ?_
      obtain ⟨Xe7, hXe7⟩ := get_of_lt (xs := s) (i := i) (by omega)
      obtain ⟨be7, _, Ie7, hme7, _, Ae7, ⟨rfl, hste7, hbe71, hbe72⟩⟩ := M.atRow (k := 3) rfl (by decide) E hXe7
      refine rl_run F (run_indexI tok53.k tok58 (F.ev rfl) (F.ev rfl) (by omega) Ie7) rfl ?_; clear F a; intro a F
      refine rl_run F (run_loadA tok58 rfl (F.ev rfl) (cs := [.int .u8 (Xe7.st), .int .u64 (Xe7.key), .int .i64 (Xe7.v)]) rfl (cellsE Ae7 0 (by omega) rfl)) rfl ?_; clear F a; intro a F
      refine rl_alloc F M tok58 rfl rfl ?_; clear F M a; intro b8 w a M F
      refine rl_storeA F M tok58 (k := 0) rfl rfl rfl (us := [.int .u8 (Xe7.st), .int .u64 (Xe7.key), .int .i64 (Xe7.v)]) rfl rfl (by simp [Value.oneCell']) (by simp) ?_; clear F M a; intro w a M F
      refine rl_nil ?_
      refine q_tn ?_
      refine wp_seq ?_
      refine w_reg ?_
      refine rl_run F (run_fieldAddr tok58.k rfl rfl (F.ev rfl)) rfl ?_; clear F a; intro a F
      refine rl_run F (run_load1 (agf tok5 rfl) (F.ev rfl) (M.cellL (k := 0) rfl rfl)) rfl ?_; clear F a; intro a F
      refine rl_run F (run_eqi (F.ev rfl) (F.ev rfl)) rfl ?_; clear F a; intro a F
      refine rl_nil ?_
      refine q_tn ?_
      refine w_cond F rfl ?_ ?_
      · intro hc
        have h10b := hc; clear hc
        have h10 : Xe7.st = 1 := of_decide_eq_true h10b
        refine w_reg ?_
        refine rl_run F (run_load1 (agf tok51 rfl) (F.ev rfl) (M.cellL (k := 1) rfl rfl)) rfl ?_; clear F a; intro a F
        refine rl_run F (run_fieldAddr tok58.k rfl rfl (F.ev rfl)) rfl ?_; clear F a; intro a F
        refine rl_run F (run_load1 (agf tok27 rfl) (F.ev rfl) (M.cellL (k := 0) rfl rfl)) rfl ?_; clear F a; intro a F
        refine rl_buildSlice1 F M tok51.k tok27 rfl rfl (cs := [.int .u64 (Xe7.key)]) rfl rfl (by simp [Value.oneCell']) (by decide) rfl ?_; clear F M a; intro v11 w a M F
        obtain ⟨av11, cv11, rfl, hlev11, hcmv11, hlv11⟩ := M.row_shape (k := 0) rfl
        refine rl_append_fits F M (k := 3) (k2 := 0) rfl rfl tok51.k tok27 rfl rfl rfl (by have := K.room ‹s[i]? = some _› (by omega); rw [← hks] at this; exact this) rfl ?_; clear F M a; intro w a M F
        refine rl_store1 F M tok51 rfl (k := 2) rfl rfl rfl rfl rfl ?_; clear F M a; intro w a M F
        refine rl_nil ?_
        refine q_bn ?_
        refine q_tn ?_
        refine w_reg ?_
        refine rl_run F (run_addi (F.ev rfl) (F.ev rfl) (in_i64 (by omega) (by omega))) rfl ?_; clear F a; intro a F
        refine rl_run F (run_move (F.ev rfl)) rfl ?_; clear F a; intro a F
        refine rl_nil ?_
        refine q_tn ?_
        rw [map_snoc, show ks.length + 1 = (ks ++ [toP Xe7]).length by simp] at M
        exact ⟨_, by omega, i + 1, ks ++ [toP Xe7], rfl, F.to ⟨rfl, rfl, rfl, rfl, rfl, trivial⟩, (M.weaken (.cons _ (.cons _ (.cons_cons _ (.cons_cons _ (.cons_cons _ (.cons_cons _ (List.Sublist.refl _)))))))), by omega, by rw [U_take_used hXe7 (by omega), hks]⟩
      · intro hc
        have h13b := hc; clear hc
        have h13 : ¬ (Xe7.st = 1) := of_decide_eq_false h13b
        refine wp_skip ?_
        refine q_bn ?_
        refine q_tn ?_
        refine w_reg ?_
        refine rl_run F (run_addi (F.ev rfl) (F.ev rfl) (in_i64 (by omega) (by omega))) rfl ?_; clear F a; intro a F
        refine rl_run F (run_move (F.ev rfl)) rfl ?_; clear F a; intro a F
        refine rl_nil ?_
        refine q_tn ?_
        exact ⟨_, by omega, i + 1, ks, rfl, F.to ⟨rfl, rfl, rfl, rfl, rfl, trivial⟩, (M.weaken (.cons _ (.cons_cons _ (.cons_cons _ (.cons_cons _ (.cons_cons _ (List.Sublist.refl _))))))), by omega, by rw [U_take_not hXe7 (by omega), hks]⟩
    · intro hc
      have h14b := hc; clear hc
      have h14 : ¬ (((i : Nat) : Int) < ((s.length : Nat) : Int)) := of_decide_eq_false h14b
      refine wp_exit ?_
      refine q_te ?_
      refine q_te ?_
      refine q_bh ?_
      refine q_tn ?_
      refine wp_seq ?_
      refine w_reg ?_
      refine rl_run F (run_load1 (agf tok51 rfl) (F.ev rfl) (M.cellL (k := 0) rfl rfl)) rfl ?_; clear F a; intro a F
      refine rl_run F (run_ifaceS tok51.k (F.ev rfl)) rfl ?_; clear F a; intro a F
      refine rl_run F (run_makeFunc (vs := #[.pointer (some ⟨b4, 0, none⟩)]) (by simp only [List.map_toArray, List.map_cons, List.map_nil, F.ev (x := .tmp 3) rfl])) rfl ?_; clear F a; intro a F
      have hi' : i = s.length := by omega
      subst hi'
      rw [List.take_length] at hks
      replace M := M.perm (perm_front _ 1 _ rfl)
      change Mem w0 G (.row (.slice (some ⟨bv3, 0, none⟩) (ks.length) (ps.length)) (ks.length) ((ks.map PairD.key).map eu) 27 1 :: .blk b4 [.slice (some ⟨bv3, 0, none⟩) (ks.length) (ps.length)] 51 :: .blk b [.slice (ad) (s.length) (c), .int .i64 (((ps.length : Nat) : Int)), .int .i64 (tombs)] 55 :: .row (.slice (ad) (s.length) (c)) (s.length) (cs) 58 3 :: L) _ at M
      have hul : ks.length = ps.length := by rw [hks]; exact K.ulen
      rw [hul] at M F
      have hs := sort_keys (k := 0) (kb := 1) M (ks.map PairD.key).toArray (by simp [hul]) rfl rfl (by omega) (by omega)
      refine rl_callL F ent29 rfl rfl hs ?_; clear F M a hs; rintro _ _ w a M ⟨rfl, d', hd1, hd2, rfl⟩ F
      have hd3 := K.sortd (by rw [← hks]; exact hd1) hd2
      rw [hd3] at M
      change Mem w0 G (.row (.slice (some ⟨bv3, 0, none⟩) (ps.length) (ps.length)) (ps.length) ((ps.map PairD.key).map eu) 27 1 :: .blk b4 [.slice (some ⟨bv3, 0, none⟩) (ps.length) (ps.length)] 51 :: .blk b [.slice (ad) (s.length) (c), .int .i64 (((ps.length : Nat) : Int)), .int .i64 (tombs)] 55 :: .row (.slice (ad) (s.length) (c)) (s.length) (cs) 58 3 :: L) w at M
      refine rl_nil ?_
      refine q_tn ?_
      refine wp_seq ?_
      refine w_reg ?_
      refine rl_run F (run_load1 (agf tok51 rfl) (F.ev rfl) (M.cellL (k := 1) rfl rfl)) rfl ?_; clear F a; intro a F
      refine rl_run F (run_assign (F.ev rfl)) rfl ?_; clear F a; intro a F
      refine rl_nil ?_
      refine q_tn ?_
      refine wp_ret ?_
      refine fin1 F rfl rfl ?_
      replace M := M.perm (perm_front _ 3 _ rfl)
      replace M := M.perm (perm_front _ 3 _ rfl)
      replace M := M.perm (perm_front _ 2 _ rfl)
      change Mem w0 G (.row (.slice (some ⟨bv3, 0, none⟩) (ps.length) (ps.length)) (ps.length) ((ps.map PairD.key).map eu) 27 1 :: .blk b [.slice (ad) (s.length) (c), .int .i64 (((ps.length : Nat) : Int)), .int .i64 (tombs)] 55 :: .row (.slice (ad) (s.length) (c)) (s.length) (cs) 58 3 :: .blk b4 [.slice (some ⟨bv3, 0, none⟩) (ps.length) (ps.length)] 51 :: L) _ at M
      exact ⟨_, M.weaken (.cons_cons _ (.cons_cons _ (.cons_cons _ (.cons _ (List.Sublist.refl _))))), _, rfl, rfl⟩

end Go.Proofs.Ytnloilnlehgngaa
