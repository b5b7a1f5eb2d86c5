/- The walks, part C. -/
import Derived.Test.YtokeofoemjeleaaDoorWalkB
namespace Go.Proofs.YtokeofoemjeleaaDoor
open Go Go.Y Go.Proofs
set_option linter.unusedSimpArgs false
set_option linter.unusedVariables false
theorem putm_spec {w0 w : World} {G : Ghost} {L : List Res} {n : Nat} {b : Nat} {ad : Option Addr} {c : Nat} {many tombs : Int} {cs : List Value} {s : List SlotD} {key : Int} (M : Mem w0 G (.blk b [.slice ad n c, .int .i64 many, .int .i64 tombs] 93 :: .row (.slice ad n c) n cs 95 3 :: L) w) (hn : n = s.length) (E : Els rdSlot 3 G cs s) {ps : List PairD} {most : Nat} (K : KOK s many tombs ps most) {v : Int} (hkey : inKind .u64 key) (hk0 : 0 ≤ key) (hv : inKind .i64 v) :
    Calls Tryd.prog 29 #[.pointer (some ⟨b, 0, none⟩), .int .u64 key, .int .i64 v] w (RetL w0 G fun L' r => KmIs b G (putF ps key v).1 (max most (putF ps key v).1.length) L L' ∧ r = .int .i64 (putF ps key v).2) := by
  subst hn
  have hKm := K.many
  have hKl := K.load
  have hKn := K.len
  have hKt := K.tombs
  have hKc := K.cnt
  refine calls_start (vs := [_, _, _]) Tryd.func29 rfl (n := 106) rfl rfl ?_
  intro a F
  refine wp_seq ?_
  refine w_reg ?_
  refine rl_run F (run_assign (F.ev rfl)) rfl ?_; clear F a; intro a F
  refine rl_nil ?_
  refine q_tn ?_
  refine wp_seq ?_
  refine wp_block ?_
  refine wp_seq ?_
  refine w_reg ?_
  refine rl_run F (run_move (F.ev rfl)) rfl ?_; clear F a; intro a F
  refine rl_run F (run_eqnil tok62.k (F.ev rfl) (F.ev rfl)) rfl ?_; clear F a; intro a F
  refine rl_run F (run_assign (F.ev rfl)) rfl ?_; clear F a; intro a F
  refine rl_nil ?_
  refine q_tn ?_
  refine w_cond_f F rfl rfl ?_
  refine wp_seq ?_
  refine w_reg ?_
  refine rl_run F (run_move (F.ev rfl)) rfl ?_; clear F a; intro a F
  refine rl_run F (run_eqi (F.ev rfl) (F.ev rfl)) rfl ?_; clear F a; intro a F
  refine rl_run F (run_assign (F.ev rfl)) rfl ?_; clear F a; intro a F
  refine rl_nil ?_
  refine q_tn ?_
  refine w_cond F rfl ?_ ?_
  · intro hc
    have h1b := hc; clear hc
    have h1 : key = 0 := of_decide_eq_true h1b
    refine wp_seq ?_
    refine w_reg ?_
    refine rl_run F (run_assign (F.ev rfl)) rfl ?_; clear F a; intro a F
    refine rl_nil ?_
    refine q_tn ?_
    refine wp_ret ?_
    refine q_br ?_
    refine q_tr ?_
    refine fin1 F rfl rfl ?_
    have hpf : putF ps key v = (ps, 9) := by rw [‹key = 0›]; exact putF_zero
    rw [hpf]
    replace M := M.perm (perm_front _ 1 _ rfl)
    replace M := M.perm (perm_front _ 1 _ rfl)
    change Mem w0 G (.blk b [.slice (ad) (s.length) (c), .int .i64 (many), .int .i64 (tombs)] 93 :: .row (.slice (ad) (s.length) (c)) (s.length) (cs) 95 3 :: L) _ at M
    exact ⟨_, (M.weaken (.cons_cons _ (.cons_cons _ (List.Sublist.refl _)))), ⟨_, _, _, _, _, _, _, rfl, rfl, E, K.more (by omega)⟩, rfl⟩
  · intro hc
    have h2b := hc; clear hc
    have h2 : ¬ (key = 0) := of_decide_eq_false h2b
    refine wp_skip ?_
    refine q_bn ?_
    refine q_tn ?_
    refine wp_seq ?_
    refine wp_seq ?_
    refine w_reg ?_
    refine rl_run F (run_move (F.ev rfl)) rfl ?_; clear F a; intro a F
    refine rl_run F (run_nilCheck (F.ev rfl)) rfl ?_; clear F a; intro a F
    refine rl_run F (run_fieldAddr tok93.k rfl rfl (F.ev rfl)) rfl ?_; clear F a; intro a F
    refine rl_run F (run_load1 (agf tok91 rfl) (F.ev rfl) (M.cellL (k := 0) rfl rfl)) rfl ?_; clear F a; intro a F
    refine rl_run F (run_lenSl tok91.k (F.ev rfl)) rfl ?_; clear F a; intro a F
    refine rl_run F (run_gtr (F.ev rfl) (F.ev rfl)) rfl ?_; clear F a; intro a F
    refine rl_nil ?_
    refine q_tn ?_
    refine w_cond F rfl ?_ ?_
    · intro hc
      have h3b := hc; clear hc
      have h3 : 0 < ((s.length : Nat) : Int) := of_decide_eq_true h3b
      refine wp_seq ?_
      refine w_reg ?_
      refine rl_run F (run_move (F.ev rfl)) rfl ?_; clear F a; intro a F
      refine rl_run F (run_move (F.ev rfl)) rfl ?_; clear F a; intro a F
      replace M := M.perm (perm_front _ 1 _ rfl)
      replace M := M.perm (perm_front _ 1 _ rfl)
      change Mem w0 G (.blk b [.slice (ad) (s.length) (c), .int .i64 (many), .int .i64 (tombs)] 93 :: .row (.slice (ad) (s.length) (c)) (s.length) (cs) 95 3 :: L) _ at M
      refine rl_callS F ent43 rfl rfl (look_spec M rfl E (by omega) (by omega) (K.pi) (K.free (by omega))) ?_; clear F M a; rintro _ w a M ⟨pq4, fq4, rfl, hLq4⟩ F
      have hpq4 := hLq4.1
      refine rl_run F (run_move (F.ev rfl)) rfl ?_; clear F a; intro a F
      refine rl_run F (run_extract (v := .int .i64 (((pq4 : Nat) : Int))) (F.ev rfl) rfl) rfl ?_; clear F a; intro a F
      refine rl_run F (run_extract (v := .bool (fq4)) (F.ev rfl) rfl) rfl ?_; clear F a; intro a F
      refine rl_run F (run_assign (F.ev rfl)) rfl ?_; clear F a; intro a F
      refine rl_run F (run_assign (F.ev rfl)) rfl ?_; clear F a; intro a F
      refine rl_nil ?_
      refine q_tn ?_
      refine wp_seq ?_
      refine w_reg ?_
      refine rl_run F (run_move (F.ev rfl)) rfl ?_; clear F a; intro a F
      refine rl_nil ?_
      refine q_tn ?_
      refine w_cond F rfl ?_ ?_
      · intro hc
        have h5b := hc; clear hc
        have h5 : (fq4) = true := h5b
        refine wp_seq ?_
        refine w_reg ?_
        refine rl_run F (run_move (F.ev rfl)) rfl ?_; clear F a; intro a F
        refine rl_run F (run_nilCheck (F.ev rfl)) rfl ?_; clear F a; intro a F
        refine rl_run F (run_fieldAddr tok93.k rfl rfl (F.ev rfl)) rfl ?_; clear F a; intro a F
        refine rl_run F (run_load1 (agf tok91 rfl) (F.ev rfl) (M.cellL (k := 0) rfl rfl)) rfl ?_; clear F a; intro a F
        refine rl_run F (run_move (F.ev rfl)) rfl ?_; clear F a; intro a F
        refine rl_run F (run_move (F.ev rfl)) rfl ?_; clear F a; intro a F
        obtain ⟨Xe6, hXe6⟩ := get_of_lt (xs := s) (i := pq4) (by omega)
        obtain ⟨be6, _, Ie6, hme6, _, Ae6, ⟨rfl, hste6, hbe61, hbe62⟩⟩ := M.atRow (k := 1) rfl (by decide) E hXe6
        refine rl_run F (run_indexI tok91.k tok95 (F.ev rfl) (F.ev rfl) (by omega) Ie6) rfl ?_; clear F a; intro a F
        refine rl_run F (run_fieldAddr tok95.k rfl rfl (F.ev rfl)) rfl ?_; clear F a; intro a F
        refine rl_storeElF F M tok3 rfl (k := 1) rfl E Ie6 hXe6 (f := 2) (by decide) rfl rfl rfl rfl (X' := ⟨Xe6.st, Xe6.key, v⟩) (fun ch _ h => by obtain ⟨rfl, h1, h2, h3⟩ := h; exact ⟨rfl, h1, h2, hv⟩) ?_; clear F M a; intro csu7 w a M Eu7 F
        refine rl_nil ?_
        refine q_tn ?_
        refine wp_seq ?_
        refine w_reg ?_
        refine rl_run F (run_assign (F.ev rfl)) rfl ?_; clear F a; intro a F
        refine rl_nil ?_
        refine q_tn ?_
        refine wp_ret ?_
        refine q_tr ?_
        refine fin1 F rfl rfl ?_
        obtain ⟨K3, he3⟩ := K.put_old (by rw [← ‹fq4 = true›]; exact hLq4) (by omega) hv hXe6
        replace M := M.perm (perm_front _ 1 _ rfl)
        replace M := M.perm (perm_front _ 1 _ rfl)
        change Mem w0 G (.blk b [.slice (ad) (s.length) (c), .int .i64 (many), .int .i64 (tombs)] 93 :: .row (.slice (ad) (s.length) (c)) (s.length) (csu7) 95 3 :: L) _ at M
        exact ⟨_, (M.weaken (.cons_cons _ (.cons_cons _ (List.Sublist.refl _)))), ⟨_, _, _, _, _, _, _, rfl, by simp, Eu7, K3.more (by omega)⟩, by rw [he3]⟩
      · intro hc
        have h8b := hc; clear hc
        have h8 : (fq4) = false := h8b
        refine wp_skip ?_
        refine q_tn ?_
        refine wp_seq ?_
        refine wp_seq ?_
        have hmiss := K.miss (by rw [← ‹fq4 = false›]; exact hLq4)
        refine w_reg ?_
        refine rl_run F (run_move (F.ev rfl)) rfl ?_; clear F a; intro a F
        refine rl_run F (run_nilCheck (F.ev rfl)) rfl ?_; clear F a; intro a F
        refine rl_run F (run_fieldAddr tok93.k rfl rfl (F.ev rfl)) rfl ?_; clear F a; intro a F
        refine rl_run F (run_load1 (agf tok3 rfl) (F.ev rfl) (M.cellL (k := 0) rfl rfl)) rfl ?_; clear F a; intro a F
        refine rl_run F (run_eqi (F.ev rfl) (F.ev rfl)) rfl ?_; clear F a; intro a F
        refine rl_nil ?_
        refine q_tn ?_
        refine w_cond F rfl ?_ ?_
        · intro hc
          have h9b := hc; clear hc
          have h9 : many = 4096 := of_decide_eq_true h9b
          refine wp_seq ?_
          refine w_reg ?_
          refine rl_run F (run_assign (F.ev rfl)) rfl ?_; clear F a; intro a F
          refine rl_nil ?_
          refine q_tn ?_
          refine wp_ret ?_
          refine q_tr ?_
          refine fin1 F rfl rfl ?_
          have hpf : putF ps key v = (ps, 3) := putF_full K.sorted (by omega) hmiss (by omega)
          rw [hpf]
          replace M := M.perm (perm_front _ 1 _ rfl)
          replace M := M.perm (perm_front _ 1 _ rfl)
          change Mem w0 G (.blk b [.slice (ad) (s.length) (c), .int .i64 (many), .int .i64 (tombs)] 93 :: .row (.slice (ad) (s.length) (c)) (s.length) (cs) 95 3 :: L) _ at M
          exact ⟨_, (M.weaken (.cons_cons _ (.cons_cons _ (List.Sublist.refl _)))), ⟨_, _, _, _, _, _, _, rfl, rfl, E, K.more (by omega)⟩, rfl⟩
        · intro hc
          have h10b := hc; clear hc
          have h10 : ¬ (many = 4096) := of_decide_eq_false h10b
          refine wp_skip ?_
          refine q_tn ?_
          refine wp_seq ?_
          refine wp_seq ?_
          refine w_plan [(true, 0), (true, 1), (true, 2), (true, 3), (true, 4), (true, 5), (true, 6), (true, 7), (true, 8), (true, 9), (true, 10), (true, 11), (true, 12), (true, 13), (true, 14), (true, 15), (true, 16), (true, 17)] (Keep G [.blk b [.slice (ad) (s.length) (c), .int .i64 (many), .int .i64 (tombs)] 93]) rfl (by kernel_rfl) (fun c a d v w h => by cases d <;> exact h) ((M.drew _).keep (Gle.refl _) (by simp)) ?_
          replace M := M.drew (w.drawn + 1)
          refine pl_run F (fun w M => run_move (F.ev rfl)) rfl ?_; clear F a; intro a F
          refine pl_run F (fun w M => run_nilCheck (F.ev rfl)) rfl ?_; clear F a; intro a F
          refine pl_run F (fun w M => run_fieldAddr tok93.k rfl rfl (F.ev rfl)) rfl ?_; clear F a; intro a F
          refine pl_run F (fun w M => run_load1 (agf tok3 rfl) (F.ev rfl) (M.cellL (k := 0) rfl rfl)) rfl ?_; clear F a; intro a F
          refine pl_run F (fun w M => run_move (F.ev rfl)) rfl ?_; clear F a; intro a F
          refine pl_run F (fun w M => run_nilCheck (F.ev rfl)) rfl ?_; clear F a; intro a F
          refine pl_run F (fun w M => run_fieldAddr tok93.k rfl rfl (F.ev rfl)) rfl ?_; clear F a; intro a F
          refine pl_run F (fun w M => run_load1 (agf tok3 rfl) (F.ev rfl) (M.cellL (k := 0) rfl rfl)) rfl ?_; clear F a; intro a F
          refine pl_run F (fun w M => run_addi (F.ev rfl) (F.ev rfl) (in_i64 (by omega) (by omega))) rfl ?_; clear F a; intro a F
          refine pl_run F (fun w M => run_addi (F.ev rfl) (F.ev rfl) (in_i64 (by omega) (by omega))) rfl ?_; clear F a; intro a F
          refine pl_run F (fun w M => run_muli (F.ev rfl) (F.ev rfl) (in_i64 (by omega) (by omega))) rfl ?_; clear F a; intro a F
          refine pl_run F (fun w M => run_move (F.ev rfl)) rfl ?_; clear F a; intro a F
          refine pl_run F (fun w M => run_nilCheck (F.ev rfl)) rfl ?_; clear F a; intro a F
          refine pl_run F (fun w M => run_fieldAddr tok93.k rfl rfl (F.ev rfl)) rfl ?_; clear F a; intro a F
          refine pl_run F (fun w M => run_load1 (agf tok91 rfl) (F.ev rfl) (M.cellL (k := 0) rfl rfl)) rfl ?_; clear F a; intro a F
          refine pl_run F (fun w M => run_lenSl tok91.k (F.ev rfl)) rfl ?_; clear F a; intro a F
          refine pl_run F (fun w M => run_muli (F.ev rfl) (F.ev rfl) (in_i64 (by omega) (by omega))) rfl ?_; clear F a; intro a F
          refine pl_run F (fun w M => run_gtr (F.ev rfl) (F.ev rfl)) rfl ?_; clear F a; intro a F
          refine pl_nil ?_
          generalize ({ w with drawn := w.drawn + 1 } : World) = w at M ⊢
          refine q_tn ?_
          refine w_cond F rfl ?_ ?_
          · intro hc
            have h11b := hc; clear hc
            have h11 : 3 * (((s.length : Nat) : Int)) < 4 * ((many + tombs) + 1) := of_decide_eq_true h11b
            refine w_reg ?_
            refine rl_run F (run_move (F.ev rfl)) rfl ?_; clear F a; intro a F
            refine rl_run F (run_move (F.ev rfl)) rfl ?_; clear F a; intro a F
            refine rl_run F (run_nilCheck (F.ev rfl)) rfl ?_; clear F a; intro a F
            refine rl_run F (run_fieldAddr tok93.k rfl rfl (F.ev rfl)) rfl ?_; clear F a; intro a F
            refine rl_run F (run_load1 (agf tok3 rfl) (F.ev rfl) (M.cellL (k := 0) rfl rfl)) rfl ?_; clear F a; intro a F
            refine rl_run F (run_addi (F.ev rfl) (F.ev rfl) (in_i64 (by omega) (by omega))) rfl ?_; clear F a; intro a F
            replace M := M.perm (perm_front _ 1 _ rfl)
            replace M := M.perm (perm_front _ 1 _ rfl)
            change Mem w0 G (.blk b [.slice (ad) (s.length) (c), .int .i64 (many), .int .i64 (tombs)] 93 :: .row (.slice (ad) (s.length) (c)) (s.length) (cs) 95 3 :: L) _ at M
            refine rl_callL F ent44 rfl rfl (widen_spec M rfl E K (by omega) (by omega)) ?_; clear F M a; rintro _ _ w a M ⟨rfl, ad2, _, c2, cs2, t2, rfl, rfl, E2, K2, hw2⟩ F
            have hK2m := K2.many
            have hK2l := K2.load
            have hK2n := K2.len
            have hK2t := K2.tombs
            have hK2c := K2.cnt
            refine rl_nil ?_
            refine q_tn ?_
            refine wp_seq ?_
            refine w_reg ?_
            refine rl_run F (run_move (F.ev rfl)) rfl ?_; clear F a; intro a F
            refine rl_run F (run_move (F.ev rfl)) rfl ?_; clear F a; intro a F
            replace M := M.perm (perm_front _ 1 _ rfl)
            replace M := M.perm (perm_front _ 1 _ rfl)
            change Mem w0 G (.blk b [.slice (ad2) (t2.length) (c2), .int .i64 (many), .int .i64 (0)] 93 :: .row (.slice (ad2) (t2.length) (c2)) (t2.length) (cs2) 95 3 :: L) _ at M
            refine rl_callS F ent43 rfl rfl (look_spec M rfl E2 (by omega) (by omega) (K2.pi) (K2.free (by omega))) ?_; clear F M a; rintro _ w a M ⟨pq12, fq12, rfl, hLq12⟩ F
            have hpq12 := hLq12.1
            refine rl_run F (run_move (F.ev rfl)) rfl ?_; clear F a; intro a F
            refine rl_run F (run_extract (v := .int .i64 (((pq12 : Nat) : Int))) (F.ev rfl) rfl) rfl ?_; clear F a; intro a F
            refine rl_run F (run_extract (v := .bool (fq12)) (F.ev rfl) rfl) rfl ?_; clear F a; intro a F
            refine rl_run F (run_assign (F.ev rfl)) rfl ?_; clear F a; intro a F
            refine rl_run F (run_assign (F.ev rfl)) rfl ?_; clear F a; intro a F
            refine rl_nil ?_
            refine q_tn ?_
            refine wp_seq ?_
            refine wp_seq ?_
            refine w_reg ?_
            refine rl_run F (run_move (F.ev rfl)) rfl ?_; clear F a; intro a F
            refine rl_run F (run_nilCheck (F.ev rfl)) rfl ?_; clear F a; intro a F
            refine rl_run F (run_fieldAddr tok93.k rfl rfl (F.ev rfl)) rfl ?_; clear F a; intro a F
            refine rl_run F (run_load1 (agf tok91 rfl) (F.ev rfl) (M.cellL (k := 0) rfl rfl)) rfl ?_; clear F a; intro a F
            refine rl_run F (run_move (F.ev rfl)) rfl ?_; clear F a; intro a F
            obtain ⟨Xe13, hXe13⟩ := get_of_lt (xs := t2) (i := pq12) (by omega)
            obtain ⟨be13, _, Ie13, hme13, _, Ae13, ⟨rfl, hste13, hbe131, hbe132⟩⟩ := M.atRow (k := 1) rfl (by decide) E2 hXe13
            refine rl_run F (run_indexI tok91.k tok95 (F.ev rfl) (F.ev rfl) (by omega) Ie13) rfl ?_; clear F a; intro a F
            refine rl_run F (run_fieldAddr tok95.k rfl rfl (F.ev rfl)) rfl ?_; clear F a; intro a F
            refine rl_run F (run_load1 (agf tok5 rfl) (F.ev rfl) (cellE Ae13 0 rfl rfl)) rfl ?_; clear F a; intro a F
            refine rl_run F (run_eqi (F.ev rfl) (F.ev rfl)) rfl ?_; clear F a; intro a F
            refine rl_nil ?_
            refine q_tn ?_
            refine w_cond F rfl ?_ ?_
            · intro hc
              have h14b := hc; clear hc
              have h14 : Xe13.st = 2 := of_decide_eq_true h14b
              refine w_reg ?_
              refine rl_run F (run_move (F.ev rfl)) rfl ?_; clear F a; intro a F
              refine rl_run F (run_nilCheck (F.ev rfl)) rfl ?_; clear F a; intro a F
              refine rl_run F (run_fieldAddr tok93.k rfl rfl (F.ev rfl)) rfl ?_; clear F a; intro a F
              refine rl_run F (run_load1 (agf tok3 rfl) (F.ev rfl) (M.cellL (k := 0) rfl rfl)) rfl ?_; clear F a; intro a F
              refine rl_run F (run_subi (F.ev rfl) (F.ev rfl) (in_i64 (by omega) (by omega))) rfl ?_; clear F a; intro a F
              refine rl_run F (run_nilCheck (F.ev rfl)) rfl ?_; clear F a; intro a F
              refine rl_run F (run_fieldAddr tok93.k rfl rfl (F.ev rfl)) rfl ?_; clear F a; intro a F
              refine rl_store1 F M tok3 rfl (k := 0) rfl rfl rfl rfl rfl ?_; clear F M a; intro w a M F
              refine rl_nil ?_
              refine q_tn ?_
              refine wp_seq ?_
              refine w_reg ?_
              refine rl_run F (run_move (F.ev rfl)) rfl ?_; clear F a; intro a F
              refine rl_run F (run_nilCheck (F.ev rfl)) rfl ?_; clear F a; intro a F
              refine rl_run F (run_fieldAddr tok93.k rfl rfl (F.ev rfl)) rfl ?_; clear F a; intro a F
              refine rl_run F (run_load1 (agf tok91 rfl) (F.ev rfl) (M.cellL (k := 0) rfl rfl)) rfl ?_; clear F a; intro a F
              refine rl_run F (run_move (F.ev rfl)) rfl ?_; clear F a; intro a F
              refine rl_run F (run_move (F.ev rfl)) rfl ?_; clear F a; intro a F
              refine rl_run F (run_move (F.ev rfl)) rfl ?_; clear F a; intro a F
              refine rl_run F (run_buildS (cs := [.int .u8 (1), .int .u64 (key), .int .i64 (v)]) (ps := [(0, .int .u8 (1)), (1, .int .u64 (key)), (2, .int .i64 (v))]) tok95.k rfl tok95 (F.evp rfl) rfl) rfl ?_; clear F a; intro a F
              obtain ⟨be15, _, Ie15, hme15, _, Ae15, ⟨rfl, hste15, hbe151, hbe152⟩⟩ := M.atRow (k := 1) rfl (by decide) E2 hXe13
              refine rl_run F (run_indexI tok91.k tok95 (F.ev rfl) (F.ev rfl) (by omega) Ie15) rfl ?_; clear F a; intro a F
              refine rl_storeEl F M tok95 (k := 1) rfl rfl E2 Ie15 (lt_of_get hXe13) rfl rfl (us := [.int .u8 (1), .int .u64 (key), .int .i64 (v)]) rfl rfl (by simp [Value.oneCell']) (X' := ⟨1, key, v⟩) (⟨rfl, Or.inr (Or.inl rfl), hkey, hv⟩) ?_; clear F M a; intro csu16 w a M Eu16 F
              refine rl_nil ?_
              refine q_tn ?_
              refine wp_seq ?_
              refine w_reg ?_
              refine rl_run F (run_move (F.ev rfl)) rfl ?_; clear F a; intro a F
              refine rl_run F (run_nilCheck (F.ev rfl)) rfl ?_; clear F a; intro a F
              refine rl_run F (run_fieldAddr tok93.k rfl rfl (F.ev rfl)) rfl ?_; clear F a; intro a F
              refine rl_run F (run_load1 (agf tok3 rfl) (F.ev rfl) (M.cellL (k := 0) rfl rfl)) rfl ?_; clear F a; intro a F
              refine rl_run F (run_addi (F.ev rfl) (F.ev rfl) (in_i64 (by omega) (by omega))) rfl ?_; clear F a; intro a F
              refine rl_run F (run_nilCheck (F.ev rfl)) rfl ?_; clear F a; intro a F
              refine rl_run F (run_fieldAddr tok93.k rfl rfl (F.ev rfl)) rfl ?_; clear F a; intro a F
              refine rl_store1 F M tok3 rfl (k := 0) rfl rfl rfl rfl rfl ?_; clear F M a; intro w a M F
              refine rl_nil ?_
              refine q_tn ?_
              refine wp_seq ?_
              refine w_reg ?_
              refine rl_run F (run_assign (F.ev rfl)) rfl ?_; clear F a; intro a F
              refine rl_nil ?_
              refine q_tn ?_
              refine wp_ret ?_
              refine fin1 F rfl rfl ?_
              have hL3 := hLq12
              have hf3 : fq12 = false := by
                cases hfb : fq12 with
                | false => rfl
                | true => rw [hfb] at hL3; obtain ⟨x3, _, _, _, h3⟩ := K2.hit hL3; exact absurd rfl (hmiss _ h3)
              rw [hf3] at hL3
              obtain ⟨K3, he3, hl3⟩ := K2.put_new (v := v) hL3 (by omega) hkey hv (by omega) (by omega) hXe13
              rw [if_pos (by omega)] at K3
              replace M := M.perm (perm_front _ 1 _ rfl)
              replace M := M.perm (perm_front _ 1 _ rfl)
              change Mem w0 G (.blk b [.slice (ad2) (t2.length) (c2), .int .i64 (many + 1), .int .i64 (0 - 1)] 93 :: .row (.slice (ad2) (t2.length) (c2)) (t2.length) (csu16) 95 3 :: L) _ at M
              exact ⟨_, (M.weaken (.cons_cons _ (.cons_cons _ (List.Sublist.refl _)))), ⟨_, _, _, _, _, _, _, rfl, by simp, Eu16, K3.more (by omega)⟩, by rw [he3]⟩
            · intro hc
              have h17b := hc; clear hc
              have h17 : ¬ (Xe13.st = 2) := of_decide_eq_false h17b
              refine wp_skip ?_
              refine q_tn ?_
              refine wp_seq ?_
              refine w_reg ?_
              refine rl_run F (run_move (F.ev rfl)) rfl ?_; clear F a; intro a F
              refine rl_run F (run_nilCheck (F.ev rfl)) rfl ?_; clear F a; intro a F
              refine rl_run F (run_fieldAddr tok93.k rfl rfl (F.ev rfl)) rfl ?_; clear F a; intro a F
              refine rl_run F (run_load1 (agf tok91 rfl) (F.ev rfl) (M.cellL (k := 0) rfl rfl)) rfl ?_; clear F a; intro a F
              refine rl_run F (run_move (F.ev rfl)) rfl ?_; clear F a; intro a F
              refine rl_run F (run_move (F.ev rfl)) rfl ?_; clear F a; intro a F
              refine rl_run F (run_move (F.ev rfl)) rfl ?_; clear F a; intro a F
              refine rl_run F (run_buildS (cs := [.int .u8 (1), .int .u64 (key), .int .i64 (v)]) (ps := [(0, .int .u8 (1)), (1, .int .u64 (key)), (2, .int .i64 (v))]) tok95.k rfl tok95 (F.evp rfl) rfl) rfl ?_; clear F a; intro a F
              obtain ⟨be18, _, Ie18, hme18, _, Ae18, ⟨rfl, hste18, hbe181, hbe182⟩⟩ := M.atRow (k := 1) rfl (by decide) E2 hXe13
              refine rl_run F (run_indexI tok91.k tok95 (F.ev rfl) (F.ev rfl) (by omega) Ie18) rfl ?_; clear F a; intro a F
              refine rl_storeEl F M tok95 (k := 1) rfl rfl E2 Ie18 (lt_of_get hXe13) rfl rfl (us := [.int .u8 (1), .int .u64 (key), .int .i64 (v)]) rfl rfl (by simp [Value.oneCell']) (X' := ⟨1, key, v⟩) (⟨rfl, Or.inr (Or.inl rfl), hkey, hv⟩) ?_; clear F M a; intro csu19 w a M Eu19 F
              refine rl_nil ?_
              refine q_tn ?_
              refine wp_seq ?_
              refine w_reg ?_
              refine rl_run F (run_move (F.ev rfl)) rfl ?_; clear F a; intro a F
              refine rl_run F (run_nilCheck (F.ev rfl)) rfl ?_; clear F a; intro a F
              refine rl_run F (run_fieldAddr tok93.k rfl rfl (F.ev rfl)) rfl ?_; clear F a; intro a F
              refine rl_run F (run_load1 (agf tok3 rfl) (F.ev rfl) (M.cellL (k := 0) rfl rfl)) rfl ?_; clear F a; intro a F
              refine rl_run F (run_addi (F.ev rfl) (F.ev rfl) (in_i64 (by omega) (by omega))) rfl ?_; clear F a; intro a F
              refine rl_run F (run_nilCheck (F.ev rfl)) rfl ?_; clear F a; intro a F
              refine rl_run F (run_fieldAddr tok93.k rfl rfl (F.ev rfl)) rfl ?_; clear F a; intro a F
              refine rl_store1 F M tok3 rfl (k := 0) rfl rfl rfl rfl rfl ?_; clear F M a; intro w a M F
              refine rl_nil ?_
              refine q_tn ?_
              refine wp_seq ?_
              refine w_reg ?_
              refine rl_run F (run_assign (F.ev rfl)) rfl ?_; clear F a; intro a F
              refine rl_nil ?_
              refine q_tn ?_
              refine wp_ret ?_
              refine fin1 F rfl rfl ?_
              have hL3 := hLq12
              have hf3 : fq12 = false := by
                cases hfb : fq12 with
                | false => rfl
                | true => rw [hfb] at hL3; obtain ⟨x3, _, _, _, h3⟩ := K2.hit hL3; exact absurd rfl (hmiss _ h3)
              rw [hf3] at hL3
              obtain ⟨K3, he3, hl3⟩ := K2.put_new (v := v) hL3 (by omega) hkey hv (by omega) (by omega) hXe13
              rw [if_neg (by omega)] at K3
              replace M := M.perm (perm_front _ 1 _ rfl)
              replace M := M.perm (perm_front _ 1 _ rfl)
              change Mem w0 G (.blk b [.slice (ad2) (t2.length) (c2), .int .i64 (many + 1), .int .i64 (0)] 93 :: .row (.slice (ad2) (t2.length) (c2)) (t2.length) (csu19) 95 3 :: L) _ at M
              exact ⟨_, (M.weaken (.cons_cons _ (.cons_cons _ (List.Sublist.refl _)))), ⟨_, _, _, _, _, _, _, rfl, by simp, Eu19, K3.more (by omega)⟩, by rw [he3]⟩
          · intro hc
            have h20b := hc; clear hc
            have h20 : ¬ (3 * (((s.length : Nat) : Int)) < 4 * ((many + tombs) + 1)) := of_decide_eq_false h20b
            refine wp_skip ?_
            refine q_tn ?_
            refine wp_seq ?_
            refine w_reg ?_
            refine rl_run F (run_move (F.ev rfl)) rfl ?_; clear F a; intro a F
            refine rl_run F (run_move (F.ev rfl)) rfl ?_; clear F a; intro a F
            replace M := M.perm (perm_front _ 1 _ rfl)
            replace M := M.perm (perm_front _ 1 _ rfl)
            change Mem w0 G (.blk b [.slice (ad) (s.length) (c), .int .i64 (many), .int .i64 (tombs)] 93 :: .row (.slice (ad) (s.length) (c)) (s.length) (cs) 95 3 :: L) _ at M
            refine rl_callS F ent43 rfl rfl (look_spec M rfl E (by omega) (by omega) (K.pi) (K.free (by omega))) ?_; clear F M a; rintro _ w a M ⟨pq21, fq21, rfl, hLq21⟩ F
            have hpq21 := hLq21.1
            refine rl_run F (run_move (F.ev rfl)) rfl ?_; clear F a; intro a F
            refine rl_run F (run_extract (v := .int .i64 (((pq21 : Nat) : Int))) (F.ev rfl) rfl) rfl ?_; clear F a; intro a F
            refine rl_run F (run_extract (v := .bool (fq21)) (F.ev rfl) rfl) rfl ?_; clear F a; intro a F
            refine rl_run F (run_assign (F.ev rfl)) rfl ?_; clear F a; intro a F
            refine rl_run F (run_assign (F.ev rfl)) rfl ?_; clear F a; intro a F
            refine rl_nil ?_
            refine q_tn ?_
            refine wp_seq ?_
            refine wp_seq ?_
            refine w_reg ?_
            refine rl_run F (run_move (F.ev rfl)) rfl ?_; clear F a; intro a F
            refine rl_run F (run_nilCheck (F.ev rfl)) rfl ?_; clear F a; intro a F
            refine rl_run F (run_fieldAddr tok93.k rfl rfl (F.ev rfl)) rfl ?_; clear F a; intro a F
            refine rl_run F (run_load1 (agf tok91 rfl) (F.ev rfl) (M.cellL (k := 0) rfl rfl)) rfl ?_; clear F a; intro a F
            refine rl_run F (run_move (F.ev rfl)) rfl ?_; clear F a; intro a F
            obtain ⟨Xe22, hXe22⟩ := get_of_lt (xs := s) (i := pq21) (by omega)
            obtain ⟨be22, _, Ie22, hme22, _, Ae22, ⟨rfl, hste22, hbe221, hbe222⟩⟩ := M.atRow (k := 1) rfl (by decide) E hXe22
            refine rl_run F (run_indexI tok91.k tok95 (F.ev rfl) (F.ev rfl) (by omega) Ie22) rfl ?_; clear F a; intro a F
            refine rl_run F (run_fieldAddr tok95.k rfl rfl (F.ev rfl)) rfl ?_; clear F a; intro a F
            refine rl_run F (run_load1 (agf tok5 rfl) (F.ev rfl) (cellE Ae22 0 rfl rfl)) rfl ?_; clear F a; intro a F
            refine rl_run F (run_eqi (F.ev rfl) (F.ev rfl)) rfl ?_; clear F a; intro a F
            refine rl_nil ?_
            refine q_tn ?_
            refine w_cond F rfl ?_ ?_
            · intro hc
              have h23b := hc; clear hc
              have h23 : Xe22.st = 2 := of_decide_eq_true h23b
              refine w_reg ?_
              refine rl_run F (run_move (F.ev rfl)) rfl ?_; clear F a; intro a F
              refine rl_run F (run_nilCheck (F.ev rfl)) rfl ?_; clear F a; intro a F
              refine rl_run F (run_fieldAddr tok93.k rfl rfl (F.ev rfl)) rfl ?_; clear F a; intro a F
              refine rl_run F (run_load1 (agf tok3 rfl) (F.ev rfl) (M.cellL (k := 0) rfl rfl)) rfl ?_; clear F a; intro a F
              refine rl_run F (run_subi (F.ev rfl) (F.ev rfl) (in_i64 (by omega) (by omega))) rfl ?_; clear F a; intro a F
              refine rl_run F (run_nilCheck (F.ev rfl)) rfl ?_; clear F a; intro a F
              refine rl_run F (run_fieldAddr tok93.k rfl rfl (F.ev rfl)) rfl ?_; clear F a; intro a F
              refine rl_store1 F M tok3 rfl (k := 0) rfl rfl rfl rfl rfl ?_; clear F M a; intro w a M F
              refine rl_nil ?_
              refine q_tn ?_
              refine wp_seq ?_
              refine w_reg ?_
              refine rl_run F (run_move (F.ev rfl)) rfl ?_; clear F a; intro a F
              refine rl_run F (run_nilCheck (F.ev rfl)) rfl ?_; clear F a; intro a F
              refine rl_run F (run_fieldAddr tok93.k rfl rfl (F.ev rfl)) rfl ?_; clear F a; intro a F
              refine rl_run F (run_load1 (agf tok91 rfl) (F.ev rfl) (M.cellL (k := 0) rfl rfl)) rfl ?_; clear F a; intro a F
              refine rl_run F (run_move (F.ev rfl)) rfl ?_; clear F a; intro a F
              refine rl_run F (run_move (F.ev rfl)) rfl ?_; clear F a; intro a F
              refine rl_run F (run_move (F.ev rfl)) rfl ?_; clear F a; intro a F
              refine rl_run F (run_buildS (cs := [.int .u8 (1), .int .u64 (key), .int .i64 (v)]) (ps := [(0, .int .u8 (1)), (1, .int .u64 (key)), (2, .int .i64 (v))]) tok95.k rfl tok95 (F.evp rfl) rfl) rfl ?_; clear F a; intro a F
              obtain ⟨be24, _, Ie24, hme24, _, Ae24, ⟨rfl, hste24, hbe241, hbe242⟩⟩ := M.atRow (k := 1) rfl (by decide) E hXe22
              refine rl_run F (run_indexI tok91.k tok95 (F.ev rfl) (F.ev rfl) (by omega) Ie24) rfl ?_; clear F a; intro a F
              refine rl_storeEl F M tok95 (k := 1) rfl rfl E Ie24 (lt_of_get hXe22) rfl rfl (us := [.int .u8 (1), .int .u64 (key), .int .i64 (v)]) rfl rfl (by simp [Value.oneCell']) (X' := ⟨1, key, v⟩) (⟨rfl, Or.inr (Or.inl rfl), hkey, hv⟩) ?_; clear F M a; intro csu25 w a M Eu25 F
              refine rl_nil ?_
              refine q_tn ?_
              refine wp_seq ?_
              refine w_reg ?_
              refine rl_run F (run_move (F.ev rfl)) rfl ?_; clear F a; intro a F
              refine rl_run F (run_nilCheck (F.ev rfl)) rfl ?_; clear F a; intro a F
              refine rl_run F (run_fieldAddr tok93.k rfl rfl (F.ev rfl)) rfl ?_; clear F a; intro a F
              refine rl_run F (run_load1 (agf tok3 rfl) (F.ev rfl) (M.cellL (k := 0) rfl rfl)) rfl ?_; clear F a; intro a F
              refine rl_run F (run_addi (F.ev rfl) (F.ev rfl) (in_i64 (by omega) (by omega))) rfl ?_; clear F a; intro a F
              refine rl_run F (run_nilCheck (F.ev rfl)) rfl ?_; clear F a; intro a F
              refine rl_run F (run_fieldAddr tok93.k rfl rfl (F.ev rfl)) rfl ?_; clear F a; intro a F
              refine rl_store1 F M tok3 rfl (k := 0) rfl rfl rfl rfl rfl ?_; clear F M a; intro w a M F
              refine rl_nil ?_
              refine q_tn ?_
              refine wp_seq ?_
              refine w_reg ?_
              refine rl_run F (run_assign (F.ev rfl)) rfl ?_; clear F a; intro a F
              refine rl_nil ?_
              refine q_tn ?_
              refine wp_ret ?_
              refine fin1 F rfl rfl ?_
              have hL3 := hLq21
              have hf3 : fq21 = false := by
                cases hfb : fq21 with
                | false => rfl
                | true => rw [hfb] at hL3; obtain ⟨x3, _, _, _, h3⟩ := K.hit hL3; exact absurd rfl (hmiss _ h3)
              rw [hf3] at hL3
              obtain ⟨K3, he3, hl3⟩ := K.put_new (v := v) hL3 (by omega) hkey hv (by omega) (by omega) hXe22
              rw [if_pos (by omega)] at K3
              replace M := M.perm (perm_front _ 1 _ rfl)
              replace M := M.perm (perm_front _ 1 _ rfl)
              change Mem w0 G (.blk b [.slice (ad) (s.length) (c), .int .i64 (many + 1), .int .i64 (tombs - 1)] 93 :: .row (.slice (ad) (s.length) (c)) (s.length) (csu25) 95 3 :: L) _ at M
              exact ⟨_, (M.weaken (.cons_cons _ (.cons_cons _ (List.Sublist.refl _)))), ⟨_, _, _, _, _, _, _, rfl, by simp, Eu25, K3.more (by omega)⟩, by rw [he3]⟩
            · intro hc
              have h26b := hc; clear hc
              have h26 : ¬ (Xe22.st = 2) := of_decide_eq_false h26b
              refine wp_skip ?_
              refine q_tn ?_
              refine wp_seq ?_
              refine w_reg ?_
              refine rl_run F (run_move (F.ev rfl)) rfl ?_; clear F a; intro a F
              refine rl_run F (run_nilCheck (F.ev rfl)) rfl ?_; clear F a; intro a F
              refine rl_run F (run_fieldAddr tok93.k rfl rfl (F.ev rfl)) rfl ?_; clear F a; intro a F
              refine rl_run F (run_load1 (agf tok91 rfl) (F.ev rfl) (M.cellL (k := 0) rfl rfl)) rfl ?_; clear F a; intro a F
              refine rl_run F (run_move (F.ev rfl)) rfl ?_; clear F a; intro a F
              refine rl_run F (run_move (F.ev rfl)) rfl ?_; clear F a; intro a F
              refine rl_run F (run_move (F.ev rfl)) rfl ?_; clear F a; intro a F
              refine rl_run F (run_buildS (cs := [.int .u8 (1), .int .u64 (key), .int .i64 (v)]) (ps := [(0, .int .u8 (1)), (1, .int .u64 (key)), (2, .int .i64 (v))]) tok95.k rfl tok95 (F.evp rfl) rfl) rfl ?_; clear F a; intro a F
              obtain ⟨be27, _, Ie27, hme27, _, Ae27, ⟨rfl, hste27, hbe271, hbe272⟩⟩ := M.atRow (k := 1) rfl (by decide) E hXe22
              refine rl_run F (run_indexI tok91.k tok95 (F.ev rfl) (F.ev rfl) (by omega) Ie27) rfl ?_; clear F a; intro a F
              refine rl_storeEl F M tok95 (k := 1) rfl rfl E Ie27 (lt_of_get hXe22) rfl rfl (us := [.int .u8 (1), .int .u64 (key), .int .i64 (v)]) rfl rfl (by simp [Value.oneCell']) (X' := ⟨1, key, v⟩) (⟨rfl, Or.inr (Or.inl rfl), hkey, hv⟩) ?_; clear F M a; intro csu28 w a M Eu28 F
              refine rl_nil ?_
              refine q_tn ?_
              refine wp_seq ?_
              refine w_reg ?_
              refine rl_run F (run_move (F.ev rfl)) rfl ?_; clear F a; intro a F
              refine rl_run F (run_nilCheck (F.ev rfl)) rfl ?_; clear F a; intro a F
              refine rl_run F (run_fieldAddr tok93.k rfl rfl (F.ev rfl)) rfl ?_; clear F a; intro a F
              refine rl_run F (run_load1 (agf tok3 rfl) (F.ev rfl) (M.cellL (k := 0) rfl rfl)) rfl ?_; clear F a; intro a F
              refine rl_run F (run_addi (F.ev rfl) (F.ev rfl) (in_i64 (by omega) (by omega))) rfl ?_; clear F a; intro a F
              refine rl_run F (run_nilCheck (F.ev rfl)) rfl ?_; clear F a; intro a F
              refine rl_run F (run_fieldAddr tok93.k rfl rfl (F.ev rfl)) rfl ?_; clear F a; intro a F
              refine rl_store1 F M tok3 rfl (k := 0) rfl rfl rfl rfl rfl ?_; clear F M a; intro w a M F
              refine rl_nil ?_
              refine q_tn ?_
              refine wp_seq ?_
              refine w_reg ?_
              refine rl_run F (run_assign (F.ev rfl)) rfl ?_; clear F a; intro a F
              refine rl_nil ?_
              refine q_tn ?_
              refine wp_ret ?_
              refine fin1 F rfl rfl ?_
              have hL3 := hLq21
              have hf3 : fq21 = false := by
                cases hfb : fq21 with
                | false => rfl
                | true => rw [hfb] at hL3; obtain ⟨x3, _, _, _, h3⟩ := K.hit hL3; exact absurd rfl (hmiss _ h3)
              rw [hf3] at hL3
              obtain ⟨K3, he3, hl3⟩ := K.put_new (v := v) hL3 (by omega) hkey hv (by omega) (by omega) hXe22
              rw [if_neg (by omega)] at K3
              replace M := M.perm (perm_front _ 1 _ rfl)
              replace M := M.perm (perm_front _ 1 _ rfl)
              change Mem w0 G (.blk b [.slice (ad) (s.length) (c), .int .i64 (many + 1), .int .i64 (tombs)] 93 :: .row (.slice (ad) (s.length) (c)) (s.length) (csu28) 95 3 :: L) _ at M
              exact ⟨_, (M.weaken (.cons_cons _ (.cons_cons _ (List.Sublist.refl _)))), ⟨_, _, _, _, _, _, _, rfl, by simp, Eu28, K3.more (by omega)⟩, by rw [he3]⟩
    · intro hc
      have h29b := hc; clear hc
      have h29 : ¬ (0 < ((s.length : Nat) : Int)) := of_decide_eq_false h29b
      refine wp_skip ?_
      refine q_tn ?_
      refine wp_seq ?_
      refine wp_seq ?_
      have hps := (K.none (by omega)).1
      have hmiss : ∀ q ∈ ps, q.key ≠ key := by rw [hps]; simp
      refine w_reg ?_
      refine rl_run F (run_move (F.ev rfl)) rfl ?_; clear F a; intro a F
      refine rl_run F (run_nilCheck (F.ev rfl)) rfl ?_; clear F a; intro a F
      refine rl_run F (run_fieldAddr tok93.k rfl rfl (F.ev rfl)) rfl ?_; clear F a; intro a F
      refine rl_run F (run_load1 (agf tok3 rfl) (F.ev rfl) (M.cellL (k := 0) rfl rfl)) rfl ?_; clear F a; intro a F
      refine rl_run F (run_eqi (F.ev rfl) (F.ev rfl)) rfl ?_; clear F a; intro a F
      refine rl_nil ?_
      refine q_tn ?_
      refine w_cond F rfl ?_ ?_
      · intro hc
        have h30b := hc; clear hc
        have h30 : many = 4096 := of_decide_eq_true h30b
        refine wp_seq ?_
        refine w_reg ?_
        refine rl_run F (run_assign (F.ev rfl)) rfl ?_; clear F a; intro a F
        refine rl_nil ?_
        refine q_tn ?_
        refine wp_ret ?_
        refine q_tr ?_
        refine fin1 F rfl rfl ?_
        have hpf : putF ps key v = (ps, 3) := putF_full K.sorted (by omega) hmiss (by omega)
        rw [hpf]
        replace M := M.perm (perm_front _ 1 _ rfl)
        replace M := M.perm (perm_front _ 1 _ rfl)
        change Mem w0 G (.blk b [.slice (ad) (s.length) (c), .int .i64 (many), .int .i64 (tombs)] 93 :: .row (.slice (ad) (s.length) (c)) (s.length) (cs) 95 3 :: L) _ at M
        exact ⟨_, (M.weaken (.cons_cons _ (.cons_cons _ (List.Sublist.refl _)))), ⟨_, _, _, _, _, _, _, rfl, rfl, E, K.more (by omega)⟩, rfl⟩
      · intro hc
        have h31b := hc; clear hc
        have h31 : ¬ (many = 4096) := of_decide_eq_false h31b
        refine wp_skip ?_
        refine q_tn ?_
        refine wp_seq ?_
        refine wp_seq ?_
        refine w_plan [(true, 0), (true, 1), (true, 2), (true, 3), (true, 4), (true, 5), (true, 6), (true, 7), (true, 8), (true, 9), (true, 10), (true, 11), (true, 12), (true, 13), (true, 14), (true, 15), (true, 16), (true, 17)] (Keep G [.blk b [.slice (ad) (s.length) (c), .int .i64 (many), .int .i64 (tombs)] 93]) rfl (by kernel_rfl) (fun c a d v w h => by cases d <;> exact h) ((M.drew _).keep (Gle.refl _) (by simp)) ?_
        replace M := M.drew (w.drawn + 1)
        refine pl_run F (fun w M => run_move (F.ev rfl)) rfl ?_; clear F a; intro a F
        refine pl_run F (fun w M => run_nilCheck (F.ev rfl)) rfl ?_; clear F a; intro a F
        refine pl_run F (fun w M => run_fieldAddr tok93.k rfl rfl (F.ev rfl)) rfl ?_; clear F a; intro a F
        refine pl_run F (fun w M => run_load1 (agf tok3 rfl) (F.ev rfl) (M.cellL (k := 0) rfl rfl)) rfl ?_; clear F a; intro a F
        refine pl_run F (fun w M => run_move (F.ev rfl)) rfl ?_; clear F a; intro a F
        refine pl_run F (fun w M => run_nilCheck (F.ev rfl)) rfl ?_; clear F a; intro a F
        refine pl_run F (fun w M => run_fieldAddr tok93.k rfl rfl (F.ev rfl)) rfl ?_; clear F a; intro a F
        refine pl_run F (fun w M => run_load1 (agf tok3 rfl) (F.ev rfl) (M.cellL (k := 0) rfl rfl)) rfl ?_; clear F a; intro a F
        refine pl_run F (fun w M => run_addi (F.ev rfl) (F.ev rfl) (in_i64 (by omega) (by omega))) rfl ?_; clear F a; intro a F
        refine pl_run F (fun w M => run_addi (F.ev rfl) (F.ev rfl) (in_i64 (by omega) (by omega))) rfl ?_; clear F a; intro a F
        refine pl_run F (fun w M => run_muli (F.ev rfl) (F.ev rfl) (in_i64 (by omega) (by omega))) rfl ?_; clear F a; intro a F
        refine pl_run F (fun w M => run_move (F.ev rfl)) rfl ?_; clear F a; intro a F
        refine pl_run F (fun w M => run_nilCheck (F.ev rfl)) rfl ?_; clear F a; intro a F
        refine pl_run F (fun w M => run_fieldAddr tok93.k rfl rfl (F.ev rfl)) rfl ?_; clear F a; intro a F
        refine pl_run F (fun w M => run_load1 (agf tok91 rfl) (F.ev rfl) (M.cellL (k := 0) rfl rfl)) rfl ?_; clear F a; intro a F
        refine pl_run F (fun w M => run_lenSl tok91.k (F.ev rfl)) rfl ?_; clear F a; intro a F
        refine pl_run F (fun w M => run_muli (F.ev rfl) (F.ev rfl) (in_i64 (by omega) (by omega))) rfl ?_; clear F a; intro a F
        refine pl_run F (fun w M => run_gtr (F.ev rfl) (F.ev rfl)) rfl ?_; clear F a; intro a F
        refine pl_nil ?_
        generalize ({ w with drawn := w.drawn + 1 } : World) = w at M ⊢
        refine q_tn ?_
        refine w_cond F rfl ?_ ?_
        · intro hc
          have h32b := hc; clear hc
          have h32 : 3 * (((s.length : Nat) : Int)) < 4 * ((many + tombs) + 1) := of_decide_eq_true h32b
          refine w_reg ?_
          refine rl_run F (run_move (F.ev rfl)) rfl ?_; clear F a; intro a F
          refine rl_run F (run_move (F.ev rfl)) rfl ?_; clear F a; intro a F
          refine rl_run F (run_nilCheck (F.ev rfl)) rfl ?_; clear F a; intro a F
          refine rl_run F (run_fieldAddr tok93.k rfl rfl (F.ev rfl)) rfl ?_; clear F a; intro a F
          refine rl_run F (run_load1 (agf tok3 rfl) (F.ev rfl) (M.cellL (k := 0) rfl rfl)) rfl ?_; clear F a; intro a F
          refine rl_run F (run_addi (F.ev rfl) (F.ev rfl) (in_i64 (by omega) (by omega))) rfl ?_; clear F a; intro a F
          replace M := M.perm (perm_front _ 1 _ rfl)
          replace M := M.perm (perm_front _ 1 _ rfl)
          change Mem w0 G (.blk b [.slice (ad) (s.length) (c), .int .i64 (many), .int .i64 (tombs)] 93 :: .row (.slice (ad) (s.length) (c)) (s.length) (cs) 95 3 :: L) _ at M
          refine rl_callL F ent44 rfl rfl (widen_spec M rfl E K (by omega) (by omega)) ?_; clear F M a; rintro _ _ w a M ⟨rfl, ad2, _, c2, cs2, t2, rfl, rfl, E2, K2, hw2⟩ F
          have hK2m := K2.many
          have hK2l := K2.load
          have hK2n := K2.len
          have hK2t := K2.tombs
          have hK2c := K2.cnt
          refine rl_nil ?_
          refine q_tn ?_
          refine wp_seq ?_
          refine w_reg ?_
          refine rl_run F (run_move (F.ev rfl)) rfl ?_; clear F a; intro a F
          refine rl_run F (run_move (F.ev rfl)) rfl ?_; clear F a; intro a F
          replace M := M.perm (perm_front _ 1 _ rfl)
          replace M := M.perm (perm_front _ 1 _ rfl)
          change Mem w0 G (.blk b [.slice (ad2) (t2.length) (c2), .int .i64 (many), .int .i64 (0)] 93 :: .row (.slice (ad2) (t2.length) (c2)) (t2.length) (cs2) 95 3 :: L) _ at M
          refine rl_callS F ent43 rfl rfl (look_spec M rfl E2 (by omega) (by omega) (K2.pi) (K2.free (by omega))) ?_; clear F M a; rintro _ w a M ⟨pq33, fq33, rfl, hLq33⟩ F
          have hpq33 := hLq33.1
          refine rl_run F (run_move (F.ev rfl)) rfl ?_; clear F a; intro a F
          refine rl_run F (run_extract (v := .int .i64 (((pq33 : Nat) : Int))) (F.ev rfl) rfl) rfl ?_; clear F a; intro a F
          refine rl_run F (run_extract (v := .bool (fq33)) (F.ev rfl) rfl) rfl ?_; clear F a; intro a F
          refine rl_run F (run_assign (F.ev rfl)) rfl ?_; clear F a; intro a F
          refine rl_run F (run_assign (F.ev rfl)) rfl ?_; clear F a; intro a F
          refine rl_nil ?_
          refine q_tn ?_
          refine wp_seq ?_
          refine wp_seq ?_
          refine w_reg ?_
          refine rl_run F (run_move (F.ev rfl)) rfl ?_; clear F a; intro a F
          refine rl_run F (run_nilCheck (F.ev rfl)) rfl ?_; clear F a; intro a F
          refine rl_run F (run_fieldAddr tok93.k rfl rfl (F.ev rfl)) rfl ?_; clear F a; intro a F
          refine rl_run F (run_load1 (agf tok91 rfl) (F.ev rfl) (M.cellL (k := 0) rfl rfl)) rfl ?_; clear F a; intro a F
          refine rl_run F (run_move (F.ev rfl)) rfl ?_; clear F a; intro a F
          obtain ⟨Xe34, hXe34⟩ := get_of_lt (xs := t2) (i := pq33) (by omega)
          obtain ⟨be34, _, Ie34, hme34, _, Ae34, ⟨rfl, hste34, hbe341, hbe342⟩⟩ := M.atRow (k := 1) rfl (by decide) E2 hXe34
          refine rl_run F (run_indexI tok91.k tok95 (F.ev rfl) (F.ev rfl) (by omega) Ie34) rfl ?_; clear F a; intro a F
          refine rl_run F (run_fieldAddr tok95.k rfl rfl (F.ev rfl)) rfl ?_; clear F a; intro a F
          refine rl_run F (run_load1 (agf tok5 rfl) (F.ev rfl) (cellE Ae34 0 rfl rfl)) rfl ?_; clear F a; intro a F
          refine rl_run F (run_eqi (F.ev rfl) (F.ev rfl)) rfl ?_; clear F a; intro a F
          refine rl_nil ?_
          refine q_tn ?_
          refine w_cond F rfl ?_ ?_
          · intro hc
            have h35b := hc; clear hc
            have h35 : Xe34.st = 2 := of_decide_eq_true h35b
            refine w_reg ?_
            refine rl_run F (run_move (F.ev rfl)) rfl ?_; clear F a; intro a F
            refine rl_run F (run_nilCheck (F.ev rfl)) rfl ?_; clear F a; intro a F
            refine rl_run F (run_fieldAddr tok93.k rfl rfl (F.ev rfl)) rfl ?_; clear F a; intro a F
            refine rl_run F (run_load1 (agf tok3 rfl) (F.ev rfl) (M.cellL (k := 0) rfl rfl)) rfl ?_; clear F a; intro a F
            refine rl_run F (run_subi (F.ev rfl) (F.ev rfl) (in_i64 (by omega) (by omega))) rfl ?_; clear F a; intro a F
            refine rl_run F (run_nilCheck (F.ev rfl)) rfl ?_; clear F a; intro a F
            refine rl_run F (run_fieldAddr tok93.k rfl rfl (F.ev rfl)) rfl ?_; clear F a; intro a F
            refine rl_store1 F M tok3 rfl (k := 0) rfl rfl rfl rfl rfl ?_; clear F M a; intro w a M F
            refine rl_nil ?_
            refine q_tn ?_
            refine wp_seq ?_
            refine w_reg ?_
            refine rl_run F (run_move (F.ev rfl)) rfl ?_; clear F a; intro a F
            refine rl_run F (run_nilCheck (F.ev rfl)) rfl ?_; clear F a; intro a F
            refine rl_run F (run_fieldAddr tok93.k rfl rfl (F.ev rfl)) rfl ?_; clear F a; intro a F
            refine rl_run F (run_load1 (agf tok91 rfl) (F.ev rfl) (M.cellL (k := 0) rfl rfl)) rfl ?_; clear F a; intro a F
            refine rl_run F (run_move (F.ev rfl)) rfl ?_; clear F a; intro a F
            refine rl_run F (run_move (F.ev rfl)) rfl ?_; clear F a; intro a F
            refine rl_run F (run_move (F.ev rfl)) rfl ?_; clear F a; intro a F
            refine rl_run F (run_buildS (cs := [.int .u8 (1), .int .u64 (key), .int .i64 (v)]) (ps := [(0, .int .u8 (1)), (1, .int .u64 (key)), (2, .int .i64 (v))]) tok95.k rfl tok95 (F.evp rfl) rfl) rfl ?_; clear F a; intro a F
            obtain ⟨be36, _, Ie36, hme36, _, Ae36, ⟨rfl, hste36, hbe361, hbe362⟩⟩ := M.atRow (k := 1) rfl (by decide) E2 hXe34
            refine rl_run F (run_indexI tok91.k tok95 (F.ev rfl) (F.ev rfl) (by omega) Ie36) rfl ?_; clear F a; intro a F
            refine rl_storeEl F M tok95 (k := 1) rfl rfl E2 Ie36 (lt_of_get hXe34) rfl rfl (us := [.int .u8 (1), .int .u64 (key), .int .i64 (v)]) rfl rfl (by simp [Value.oneCell']) (X' := ⟨1, key, v⟩) (⟨rfl, Or.inr (Or.inl rfl), hkey, hv⟩) ?_; clear F M a; intro csu37 w a M Eu37 F
            refine rl_nil ?_
            refine q_tn ?_
            refine wp_seq ?_
            refine w_reg ?_
            refine rl_run F (run_move (F.ev rfl)) rfl ?_; clear F a; intro a F
            refine rl_run F (run_nilCheck (F.ev rfl)) rfl ?_; clear F a; intro a F
            refine rl_run F (run_fieldAddr tok93.k rfl rfl (F.ev rfl)) rfl ?_; clear F a; intro a F
            refine rl_run F (run_load1 (agf tok3 rfl) (F.ev rfl) (M.cellL (k := 0) rfl rfl)) rfl ?_; clear F a; intro a F
            refine rl_run F (run_addi (F.ev rfl) (F.ev rfl) (in_i64 (by omega) (by omega))) rfl ?_; clear F a; intro a F
            refine rl_run F (run_nilCheck (F.ev rfl)) rfl ?_; clear F a; intro a F
            refine rl_run F (run_fieldAddr tok93.k rfl rfl (F.ev rfl)) rfl ?_; clear F a; intro a F
            refine rl_store1 F M tok3 rfl (k := 0) rfl rfl rfl rfl rfl ?_; clear F M a; intro w a M F
            refine rl_nil ?_
            refine q_tn ?_
            refine wp_seq ?_
            refine w_reg ?_
            refine rl_run F (run_assign (F.ev rfl)) rfl ?_; clear F a; intro a F
            refine rl_nil ?_
            refine q_tn ?_
            refine wp_ret ?_
            refine fin1 F rfl rfl ?_
            have hL3 := hLq33
            have hf3 : fq33 = false := by
              cases hfb : fq33 with
              | false => rfl
              | true => rw [hfb] at hL3; obtain ⟨x3, _, _, _, h3⟩ := K2.hit hL3; exact absurd rfl (hmiss _ h3)
            rw [hf3] at hL3
            obtain ⟨K3, he3, hl3⟩ := K2.put_new (v := v) hL3 (by omega) hkey hv (by omega) (by omega) hXe34
            rw [if_pos (by omega)] at K3
            replace M := M.perm (perm_front _ 1 _ rfl)
            replace M := M.perm (perm_front _ 1 _ rfl)
            change Mem w0 G (.blk b [.slice (ad2) (t2.length) (c2), .int .i64 (many + 1), .int .i64 (0 - 1)] 93 :: .row (.slice (ad2) (t2.length) (c2)) (t2.length) (csu37) 95 3 :: L) _ at M
            exact ⟨_, (M.weaken (.cons_cons _ (.cons_cons _ (List.Sublist.refl _)))), ⟨_, _, _, _, _, _, _, rfl, by simp, Eu37, K3.more (by omega)⟩, by rw [he3]⟩
          · intro hc
            have h38b := hc; clear hc
            have h38 : ¬ (Xe34.st = 2) := of_decide_eq_false h38b
            refine wp_skip ?_
            refine q_tn ?_
            refine wp_seq ?_
            refine w_reg ?_
            refine rl_run F (run_move (F.ev rfl)) rfl ?_; clear F a; intro a F
            refine rl_run F (run_nilCheck (F.ev rfl)) rfl ?_; clear F a; intro a F
            refine rl_run F (run_fieldAddr tok93.k rfl rfl (F.ev rfl)) rfl ?_; clear F a; intro a F
            refine rl_run F (run_load1 (agf tok91 rfl) (F.ev rfl) (M.cellL (k := 0) rfl rfl)) rfl ?_; clear F a; intro a F
            refine rl_run F (run_move (F.ev rfl)) rfl ?_; clear F a; intro a F
            refine rl_run F (run_move (F.ev rfl)) rfl ?_; clear F a; intro a F
            refine rl_run F (run_move (F.ev rfl)) rfl ?_; clear F a; intro a F
            refine rl_run F (run_buildS (cs := [.int .u8 (1), .int .u64 (key), .int .i64 (v)]) (ps := [(0, .int .u8 (1)), (1, .int .u64 (key)), (2, .int .i64 (v))]) tok95.k rfl tok95 (F.evp rfl) rfl) rfl ?_; clear F a; intro a F
            obtain ⟨be39, _, Ie39, hme39, _, Ae39, ⟨rfl, hste39, hbe391, hbe392⟩⟩ := M.atRow (k := 1) rfl (by decide) E2 hXe34
            refine rl_run F (run_indexI tok91.k tok95 (F.ev rfl) (F.ev rfl) (by omega) Ie39) rfl ?_; clear F a; intro a F
            refine rl_storeEl F M tok95 (k := 1) rfl rfl E2 Ie39 (lt_of_get hXe34) rfl rfl (us := [.int .u8 (1), .int .u64 (key), .int .i64 (v)]) rfl rfl (by simp [Value.oneCell']) (X' := ⟨1, key, v⟩) (⟨rfl, Or.inr (Or.inl rfl), hkey, hv⟩) ?_; clear F M a; intro csu40 w a M Eu40 F
            refine rl_nil ?_
            refine q_tn ?_
            refine wp_seq ?_
            refine w_reg ?_
            refine rl_run F (run_move (F.ev rfl)) rfl ?_; clear F a; intro a F
            refine rl_run F (run_nilCheck (F.ev rfl)) rfl ?_; clear F a; intro a F
            refine rl_run F (run_fieldAddr tok93.k rfl rfl (F.ev rfl)) rfl ?_; clear F a; intro a F
            refine rl_run F (run_load1 (agf tok3 rfl) (F.ev rfl) (M.cellL (k := 0) rfl rfl)) rfl ?_; clear F a; intro a F
            refine rl_run F (run_addi (F.ev rfl) (F.ev rfl) (in_i64 (by omega) (by omega))) rfl ?_; clear F a; intro a F
            refine rl_run F (run_nilCheck (F.ev rfl)) rfl ?_; clear F a; intro a F
            refine rl_run F (run_fieldAddr tok93.k rfl rfl (F.ev rfl)) rfl ?_; clear F a; intro a F
            refine rl_store1 F M tok3 rfl (k := 0) rfl rfl rfl rfl rfl ?_; clear F M a; intro w a M F
            refine rl_nil ?_
            refine q_tn ?_
            refine wp_seq ?_
            refine w_reg ?_
            refine rl_run F (run_assign (F.ev rfl)) rfl ?_; clear F a; intro a F
            refine rl_nil ?_
            refine q_tn ?_
            refine wp_ret ?_
            refine fin1 F rfl rfl ?_
            have hL3 := hLq33
            have hf3 : fq33 = false := by
              cases hfb : fq33 with
              | false => rfl
              | true => rw [hfb] at hL3; obtain ⟨x3, _, _, _, h3⟩ := K2.hit hL3; exact absurd rfl (hmiss _ h3)
            rw [hf3] at hL3
            obtain ⟨K3, he3, hl3⟩ := K2.put_new (v := v) hL3 (by omega) hkey hv (by omega) (by omega) hXe34
            rw [if_neg (by omega)] at K3
            replace M := M.perm (perm_front _ 1 _ rfl)
            replace M := M.perm (perm_front _ 1 _ rfl)
            change Mem w0 G (.blk b [.slice (ad2) (t2.length) (c2), .int .i64 (many + 1), .int .i64 (0)] 93 :: .row (.slice (ad2) (t2.length) (c2)) (t2.length) (csu40) 95 3 :: L) _ at M
            exact ⟨_, (M.weaken (.cons_cons _ (.cons_cons _ (List.Sublist.refl _)))), ⟨_, _, _, _, _, _, _, rfl, by simp, Eu40, K3.more (by omega)⟩, by rw [he3]⟩
        · intro hc
          have h41b := hc; clear hc
          have h41 : ¬ (3 * (((s.length : Nat) : Int)) < 4 * ((many + tombs) + 1)) := of_decide_eq_false h41b
          refine wp_skip ?_
          refine q_tn ?_
          refine wp_seq ?_
          refine w_reg ?_
          refine rl_run F (run_move (F.ev rfl)) rfl ?_; clear F a; intro a F
          refine rl_run F (run_move (F.ev rfl)) rfl ?_; clear F a; intro a F
          replace M := M.perm (perm_front _ 1 _ rfl)
          replace M := M.perm (perm_front _ 1 _ rfl)
          change Mem w0 G (.blk b [.slice (ad) (s.length) (c), .int .i64 (many), .int .i64 (tombs)] 93 :: .row (.slice (ad) (s.length) (c)) (s.length) (cs) 95 3 :: L) _ at M
          refine rl_callS F ent43 rfl rfl (look_spec M rfl E (by omega) (by omega) (K.pi) (K.free (by omega))) ?_; clear F M a; rintro _ w a M ⟨pq42, fq42, rfl, hLq42⟩ F
          have hpq42 := hLq42.1
          refine rl_run F (run_move (F.ev rfl)) rfl ?_; clear F a; intro a F
          refine rl_run F (run_extract (v := .int .i64 (((pq42 : Nat) : Int))) (F.ev rfl) rfl) rfl ?_; clear F a; intro a F
          refine rl_run F (run_extract (v := .bool (fq42)) (F.ev rfl) rfl) rfl ?_; clear F a; intro a F
          refine rl_run F (run_assign (F.ev rfl)) rfl ?_; clear F a; intro a F
          refine rl_run F (run_assign (F.ev rfl)) rfl ?_; clear F a; intro a F
          refine rl_nil ?_
          refine q_tn ?_
          refine wp_seq ?_
          refine wp_seq ?_
          refine w_reg ?_
          refine rl_run F (run_move (F.ev rfl)) rfl ?_; clear F a; intro a F
          refine rl_run F (run_nilCheck (F.ev rfl)) rfl ?_; clear F a; intro a F
          refine rl_run F (run_fieldAddr tok93.k rfl rfl (F.ev rfl)) rfl ?_; clear F a; intro a F
          refine rl_run F (run_load1 (agf tok91 rfl) (F.ev rfl) (M.cellL (k := 0) rfl rfl)) rfl ?_; clear F a; intro a F
          refine rl_run F (run_move (F.ev rfl)) rfl ?_; clear F a; intro a F
          obtain ⟨Xe43, hXe43⟩ := get_of_lt (xs := s) (i := pq42) (by omega)
          obtain ⟨be43, _, Ie43, hme43, _, Ae43, ⟨rfl, hste43, hbe431, hbe432⟩⟩ := M.atRow (k := 1) rfl (by decide) E hXe43
          refine rl_run F (run_indexI tok91.k tok95 (F.ev rfl) (F.ev rfl) (by omega) Ie43) rfl ?_; clear F a; intro a F
          refine rl_run F (run_fieldAddr tok95.k rfl rfl (F.ev rfl)) rfl ?_; clear F a; intro a F
          refine rl_run F (run_load1 (agf tok5 rfl) (F.ev rfl) (cellE Ae43 0 rfl rfl)) rfl ?_; clear F a; intro a F
          refine rl_run F (run_eqi (F.ev rfl) (F.ev rfl)) rfl ?_; clear F a; intro a F
          refine rl_nil ?_
          refine q_tn ?_
          refine w_cond F rfl ?_ ?_
          · intro hc
            have h44b := hc; clear hc
            have h44 : Xe43.st = 2 := of_decide_eq_true h44b
            refine w_reg ?_
            refine rl_run F (run_move (F.ev rfl)) rfl ?_; clear F a; intro a F
            refine rl_run F (run_nilCheck (F.ev rfl)) rfl ?_; clear F a; intro a F
            refine rl_run F (run_fieldAddr tok93.k rfl rfl (F.ev rfl)) rfl ?_; clear F a; intro a F
            refine rl_run F (run_load1 (agf tok3 rfl) (F.ev rfl) (M.cellL (k := 0) rfl rfl)) rfl ?_; clear F a; intro a F
            refine rl_run F (run_subi (F.ev rfl) (F.ev rfl) (in_i64 (by omega) (by omega))) rfl ?_; clear F a; intro a F
            refine rl_run F (run_nilCheck (F.ev rfl)) rfl ?_; clear F a; intro a F
            refine rl_run F (run_fieldAddr tok93.k rfl rfl (F.ev rfl)) rfl ?_; clear F a; intro a F
            refine rl_store1 F M tok3 rfl (k := 0) rfl rfl rfl rfl rfl ?_; clear F M a; intro w a M F
            refine rl_nil ?_
            refine q_tn ?_
            refine wp_seq ?_
            refine w_reg ?_
            refine rl_run F (run_move (F.ev rfl)) rfl ?_; clear F a; intro a F
            refine rl_run F (run_nilCheck (F.ev rfl)) rfl ?_; clear F a; intro a F
            refine rl_run F (run_fieldAddr tok93.k rfl rfl (F.ev rfl)) rfl ?_; clear F a; intro a F
            refine rl_run F (run_load1 (agf tok91 rfl) (F.ev rfl) (M.cellL (k := 0) rfl rfl)) rfl ?_; clear F a; intro a F
            refine rl_run F (run_move (F.ev rfl)) rfl ?_; clear F a; intro a F
            refine rl_run F (run_move (F.ev rfl)) rfl ?_; clear F a; intro a F
            refine rl_run F (run_move (F.ev rfl)) rfl ?_; clear F a; intro a F
            refine rl_run F (run_buildS (cs := [.int .u8 (1), .int .u64 (key), .int .i64 (v)]) (ps := [(0, .int .u8 (1)), (1, .int .u64 (key)), (2, .int .i64 (v))]) tok95.k rfl tok95 (F.evp rfl) rfl) rfl ?_; clear F a; intro a F
            obtain ⟨be45, _, Ie45, hme45, _, Ae45, ⟨rfl, hste45, hbe451, hbe452⟩⟩ := M.atRow (k := 1) rfl (by decide) E hXe43
            refine rl_run F (run_indexI tok91.k tok95 (F.ev rfl) (F.ev rfl) (by omega) Ie45) rfl ?_; clear F a; intro a F
            refine rl_storeEl F M tok95 (k := 1) rfl rfl E Ie45 (lt_of_get hXe43) rfl rfl (us := [.int .u8 (1), .int .u64 (key), .int .i64 (v)]) rfl rfl (by simp [Value.oneCell']) (X' := ⟨1, key, v⟩) (⟨rfl, Or.inr (Or.inl rfl), hkey, hv⟩) ?_; clear F M a; intro csu46 w a M Eu46 F
            refine rl_nil ?_
            refine q_tn ?_
            refine wp_seq ?_
            refine w_reg ?_
            refine rl_run F (run_move (F.ev rfl)) rfl ?_; clear F a; intro a F
            refine rl_run F (run_nilCheck (F.ev rfl)) rfl ?_; clear F a; intro a F
            refine rl_run F (run_fieldAddr tok93.k rfl rfl (F.ev rfl)) rfl ?_; clear F a; intro a F
            refine rl_run F (run_load1 (agf tok3 rfl) (F.ev rfl) (M.cellL (k := 0) rfl rfl)) rfl ?_; clear F a; intro a F
            refine rl_run F (run_addi (F.ev rfl) (F.ev rfl) (in_i64 (by omega) (by omega))) rfl ?_; clear F a; intro a F
            refine rl_run F (run_nilCheck (F.ev rfl)) rfl ?_; clear F a; intro a F
            refine rl_run F (run_fieldAddr tok93.k rfl rfl (F.ev rfl)) rfl ?_; clear F a; intro a F
            refine rl_store1 F M tok3 rfl (k := 0) rfl rfl rfl rfl rfl ?_; clear F M a; intro w a M F
            refine rl_nil ?_
            refine q_tn ?_
            refine wp_seq ?_
            refine w_reg ?_
            refine rl_run F (run_assign (F.ev rfl)) rfl ?_; clear F a; intro a F
            refine rl_nil ?_
            refine q_tn ?_
            refine wp_ret ?_
            refine fin1 F rfl rfl ?_
            have hL3 := hLq42
            have hf3 : fq42 = false := by
              cases hfb : fq42 with
              | false => rfl
              | true => rw [hfb] at hL3; obtain ⟨x3, _, _, _, h3⟩ := K.hit hL3; exact absurd rfl (hmiss _ h3)
            rw [hf3] at hL3
            obtain ⟨K3, he3, hl3⟩ := K.put_new (v := v) hL3 (by omega) hkey hv (by omega) (by omega) hXe43
            rw [if_pos (by omega)] at K3
            replace M := M.perm (perm_front _ 1 _ rfl)
            replace M := M.perm (perm_front _ 1 _ rfl)
            change Mem w0 G (.blk b [.slice (ad) (s.length) (c), .int .i64 (many + 1), .int .i64 (tombs - 1)] 93 :: .row (.slice (ad) (s.length) (c)) (s.length) (csu46) 95 3 :: L) _ at M
            exact ⟨_, (M.weaken (.cons_cons _ (.cons_cons _ (List.Sublist.refl _)))), ⟨_, _, _, _, _, _, _, rfl, by simp, Eu46, K3.more (by omega)⟩, by rw [he3]⟩
          · intro hc
            have h47b := hc; clear hc
            have h47 : ¬ (Xe43.st = 2) := of_decide_eq_false h47b
            refine wp_skip ?_
            refine q_tn ?_
            refine wp_seq ?_
            refine w_reg ?_
            refine rl_run F (run_move (F.ev rfl)) rfl ?_; clear F a; intro a F
            refine rl_run F (run_nilCheck (F.ev rfl)) rfl ?_; clear F a; intro a F
            refine rl_run F (run_fieldAddr tok93.k rfl rfl (F.ev rfl)) rfl ?_; clear F a; intro a F
            refine rl_run F (run_load1 (agf tok91 rfl) (F.ev rfl) (M.cellL (k := 0) rfl rfl)) rfl ?_; clear F a; intro a F
            refine rl_run F (run_move (F.ev rfl)) rfl ?_; clear F a; intro a F
            refine rl_run F (run_move (F.ev rfl)) rfl ?_; clear F a; intro a F
            refine rl_run F (run_move (F.ev rfl)) rfl ?_; clear F a; intro a F
            refine rl_run F (run_buildS (cs := [.int .u8 (1), .int .u64 (key), .int .i64 (v)]) (ps := [(0, .int .u8 (1)), (1, .int .u64 (key)), (2, .int .i64 (v))]) tok95.k rfl tok95 (F.evp rfl) rfl) rfl ?_; clear F a; intro a F
            obtain ⟨be48, _, Ie48, hme48, _, Ae48, ⟨rfl, hste48, hbe481, hbe482⟩⟩ := M.atRow (k := 1) rfl (by decide) E hXe43
            refine rl_run F (run_indexI tok91.k tok95 (F.ev rfl) (F.ev rfl) (by omega) Ie48) rfl ?_; clear F a; intro a F
            refine rl_storeEl F M tok95 (k := 1) rfl rfl E Ie48 (lt_of_get hXe43) rfl rfl (us := [.int .u8 (1), .int .u64 (key), .int .i64 (v)]) rfl rfl (by simp [Value.oneCell']) (X' := ⟨1, key, v⟩) (⟨rfl, Or.inr (Or.inl rfl), hkey, hv⟩) ?_; clear F M a; intro csu49 w a M Eu49 F
            refine rl_nil ?_
            refine q_tn ?_
            refine wp_seq ?_
            refine w_reg ?_
            refine rl_run F (run_move (F.ev rfl)) rfl ?_; clear F a; intro a F
            refine rl_run F (run_nilCheck (F.ev rfl)) rfl ?_; clear F a; intro a F
            refine rl_run F (run_fieldAddr tok93.k rfl rfl (F.ev rfl)) rfl ?_; clear F a; intro a F
            refine rl_run F (run_load1 (agf tok3 rfl) (F.ev rfl) (M.cellL (k := 0) rfl rfl)) rfl ?_; clear F a; intro a F
            refine rl_run F (run_addi (F.ev rfl) (F.ev rfl) (in_i64 (by omega) (by omega))) rfl ?_; clear F a; intro a F
            refine rl_run F (run_nilCheck (F.ev rfl)) rfl ?_; clear F a; intro a F
            refine rl_run F (run_fieldAddr tok93.k rfl rfl (F.ev rfl)) rfl ?_; clear F a; intro a F
            refine rl_store1 F M tok3 rfl (k := 0) rfl rfl rfl rfl rfl ?_; clear F M a; intro w a M F
            refine rl_nil ?_
            refine q_tn ?_
            refine wp_seq ?_
            refine w_reg ?_
            refine rl_run F (run_assign (F.ev rfl)) rfl ?_; clear F a; intro a F
            refine rl_nil ?_
            refine q_tn ?_
            refine wp_ret ?_
            refine fin1 F rfl rfl ?_
            have hL3 := hLq42
            have hf3 : fq42 = false := by
              cases hfb : fq42 with
              | false => rfl
              | true => rw [hfb] at hL3; obtain ⟨x3, _, _, _, h3⟩ := K.hit hL3; exact absurd rfl (hmiss _ h3)
            rw [hf3] at hL3
            obtain ⟨K3, he3, hl3⟩ := K.put_new (v := v) hL3 (by omega) hkey hv (by omega) (by omega) hXe43
            rw [if_neg (by omega)] at K3
            replace M := M.perm (perm_front _ 1 _ rfl)
            replace M := M.perm (perm_front _ 1 _ rfl)
            change Mem w0 G (.blk b [.slice (ad) (s.length) (c), .int .i64 (many + 1), .int .i64 (tombs)] 93 :: .row (.slice (ad) (s.length) (c)) (s.length) (csu49) 95 3 :: L) _ at M
            exact ⟨_, (M.weaken (.cons_cons _ (.cons_cons _ (List.Sublist.refl _)))), ⟨_, _, _, _, _, _, _, rfl, by simp, Eu49, K3.more (by omega)⟩, by rw [he3]⟩

theorem get_nil {w0 w : World} {G : Ghost} {L : List Res} (M : Mem w0 G L w) {key : Int} : Calls Tryd.prog 30 #[.pointer none, .int .u64 key] w (RetS w0 G L fun r => r = .tuple #[.int .i64 0, .bool false]) := by
  refine calls_start (vs := [_, _]) Tryd.func30 rfl (n := 26) rfl rfl ?_
  intro a F
  refine wp_seq ?_
  refine w_reg ?_
  refine rl_run F (run_assign (F.ev rfl)) rfl ?_; clear F a; intro a F
  refine rl_run F (run_assign (F.ev rfl)) rfl ?_; clear F a; intro a F
  refine rl_nil ?_
  refine q_tn ?_
  refine wp_seq ?_
  refine wp_seq ?_
  refine w_reg ?_
  refine rl_run F (run_move (F.ev rfl)) rfl ?_; clear F a; intro a F
  refine rl_callS F ent45 rfl rfl (len_nil M) ?_; clear F M a; rintro _ w a M rfl F
  refine rl_run F (run_eqi (F.ev rfl) (F.ev rfl)) rfl ?_; clear F a; intro a F
  refine rl_nil ?_
  refine q_tn ?_
  refine w_cond_t F rfl (decide_eq_true (by rfl)) ?_
  refine wp_seq ?_
  refine w_reg ?_
  refine rl_run F (run_assign (F.ev rfl)) rfl ?_; clear F a; intro a F
  refine rl_run F (run_assign (F.ev rfl)) rfl ?_; clear F a; intro a F
  refine rl_nil ?_
  refine q_tn ?_
  refine wp_ret ?_
  refine q_tr ?_
  refine fin2 F rfl rfl rfl ?_
  exact ⟨M, rfl⟩

theorem putm_nil {w0 w : World} {G : Ghost} {L : List Res} (M : Mem w0 G L w) {key v : Int} : Calls Tryd.prog 29 #[.pointer none, .int .u64 key, .int .i64 v] w (RetS w0 G L fun r => r = .int .i64 2) := by
  refine calls_start (vs := [_, _, _]) Tryd.func29 rfl (n := 106) rfl rfl ?_
  intro a F
  refine wp_seq ?_
  refine w_reg ?_
  refine rl_run F (run_assign (F.ev rfl)) rfl ?_; clear F a; intro a F
  refine rl_nil ?_
  refine q_tn ?_
  refine wp_seq ?_
  refine wp_block ?_
  refine wp_seq ?_
  refine w_reg ?_
  refine rl_run F (run_move (F.ev rfl)) rfl ?_; clear F a; intro a F
  refine rl_run F (run_eqnil tok62.k (F.ev rfl) (F.ev rfl)) rfl ?_; clear F a; intro a F
  refine rl_run F (run_assign (F.ev rfl)) rfl ?_; clear F a; intro a F
  refine rl_nil ?_
  refine q_tn ?_
  refine w_cond_t F rfl rfl ?_
  refine wp_seq ?_
  refine w_reg ?_
  refine rl_run F (run_assign (F.ev rfl)) rfl ?_; clear F a; intro a F
  refine rl_nil ?_
  refine q_tn ?_
  refine wp_ret ?_
  refine q_br ?_
  refine q_tr ?_
  refine fin1 F rfl rfl ?_
  exact ⟨M, rfl⟩

end Go.Proofs.YtokeofoemjeleaaDoor
