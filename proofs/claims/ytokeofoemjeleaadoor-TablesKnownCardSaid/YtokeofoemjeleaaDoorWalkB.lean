/- The walks, part B. -/
import Derived.Test.YtokeofoemjeleaaDoorWalkA
namespace Go.Proofs.YtokeofoemjeleaaDoor
open Go Go.Y Go.Proofs
set_option linter.unusedSimpArgs false
set_option linter.unusedVariables false
theorem get_spec {w0 w : World} {G : Ghost} {L : List Res} {n : Nat} {b : Nat} {ad : Option Addr} {c : Nat} {many tombs : Int} {cs : List Value} {s : List SlotD} {key : Int} (M : Mem w0 G (.blk b [.slice ad n c, .int .i64 many, .int .i64 tombs] 93 :: .row (.slice ad n c) n cs 95 3 :: L) w) (hn : n = s.length) (E : Els rdSlot 3 G cs s) {ps : List PairD} {most : Nat} (K : KOK s many tombs ps most) :
    Calls Tryd.prog 30 #[.pointer (some ⟨b, 0, none⟩), .int .u64 key] w (RetS w0 G (.blk b [.slice ad n c, .int .i64 many, .int .i64 tombs] 93 :: .row (.slice ad n c) n cs 95 3 :: L) fun v => v = .tuple #[.int .i64 (getF ps key).1, .bool (getF ps key).2]) := by
  subst hn
  have hKm := K.many
  have hKl := K.load
  have hKn := K.len
  have hKt := K.tombs
  have hKc := K.cnt
  refine calls_start (vs := [_, _]) Tryd.func30 rfl (n := 26) rfl rfl ?_
  intro a F
  refine wp_seq ?_
  refine w_reg ?_
  refine rl_run F (run_assign (F.ev rfl)) rfl ?_; clear F a; intro a F
  refine rl_run F (run_assign (F.ev rfl)) rfl ?_; clear F a; intro a F
  refine rl_nil ?_
  refine q_tn ?_
  refine wp_seq ?_
  refine wp_seq ?_
  refine w_reg ?_
  refine rl_run F (run_move (F.ev rfl)) rfl ?_; clear F a; intro a F
  refine rl_callS F ent45 rfl rfl (len_spec M (k := 0) rfl) ?_; clear F M a; rintro _ w a M rfl F
  refine rl_run F (run_eqi (F.ev rfl) (F.ev rfl)) rfl ?_; clear F a; intro a F
  refine rl_nil ?_
  refine q_tn ?_
  refine w_cond F rfl ?_ ?_
  · intro hc
    have h1b := hc; clear hc
    have h1 : many = 0 := of_decide_eq_true h1b
    refine wp_seq ?_
    refine w_reg ?_
    refine rl_run F (run_assign (F.ev rfl)) rfl ?_; clear F a; intro a F
    refine rl_run F (run_assign (F.ev rfl)) rfl ?_; clear F a; intro a F
    refine rl_nil ?_
    refine q_tn ?_
    refine wp_ret ?_
    refine q_tr ?_
    refine fin2 F rfl rfl rfl ?_
    exact ⟨(M.weaken (.cons_cons _ (.cons_cons _ (List.Sublist.refl _)))), by rw [List.eq_nil_of_length_eq_zero (l := ps) (by omega)]; rfl⟩
  · intro hc
    have h2b := hc; clear hc
    have h2 : ¬ (many = 0) := of_decide_eq_false h2b
    refine wp_skip ?_
    refine q_tn ?_
    refine wp_seq ?_
    refine w_reg ?_
    refine rl_run F (run_move (F.ev rfl)) rfl ?_; clear F a; intro a F
    refine rl_run F (run_move (F.ev rfl)) rfl ?_; clear F a; intro a F
    replace M := M.perm (perm_front _ 1 _ rfl)
    replace M := M.perm (perm_front _ 1 _ rfl)
    change Mem w0 G (.blk b [.slice (ad) (s.length) (c), .int .i64 (many), .int .i64 (tombs)] 93 :: .row (.slice (ad) (s.length) (c)) (s.length) (cs) 95 3 :: L) _ at M
    refine rl_callS F ent43 rfl rfl (look_spec M rfl E (by omega) (by omega) (K.pi) (K.free (by omega))) ?_; clear F M a; rintro _ w a M ⟨pq3, fq3, rfl, hLq3⟩ F
    have hpq3 := hLq3.1
    refine rl_run F (run_move (F.ev rfl)) rfl ?_; clear F a; intro a F
    refine rl_run F (run_extract (v := .int .i64 (((pq3 : Nat) : Int))) (F.ev rfl) rfl) rfl ?_; clear F a; intro a F
    refine rl_run F (run_extract (v := .bool (fq3)) (F.ev rfl) rfl) rfl ?_; clear F a; intro a F
    refine rl_run F (run_assign (F.ev rfl)) rfl ?_; clear F a; intro a F
    refine rl_run F (run_assign (F.ev rfl)) rfl ?_; clear F a; intro a F
    refine rl_nil ?_
    refine q_tn ?_
    refine wp_seq ?_
    refine wp_seq ?_
    refine w_reg ?_
    refine rl_run F (run_move (F.ev rfl)) rfl ?_; clear F a; intro a F
    refine rl_run F (run_not (F.ev rfl)) rfl ?_; clear F a; intro a F
    refine rl_nil ?_
    refine q_tn ?_
    refine w_cond F rfl ?_ ?_
    · intro hc
      have h4b := hc; clear hc
      have h4 : (fq3) = false := (of_not_t h4b)
      have h4c : (fq3) = false := (of_not_t h4b)
      refine wp_seq ?_
      refine w_reg ?_
      refine rl_run F (run_assign (F.ev rfl)) rfl ?_; clear F a; intro a F
      refine rl_run F (run_assign (F.ev rfl)) rfl ?_; clear F a; intro a F
      refine rl_nil ?_
      refine q_tn ?_
      refine wp_ret ?_
      refine q_tr ?_
      refine fin2 F rfl rfl rfl ?_
      exact ⟨(M.weaken (.cons_cons _ (.cons_cons _ (List.Sublist.refl _)))), by rw [getF_miss K.sorted (K.miss (by rw [← ‹fq3 = false›]; exact hLq3))]⟩
    · intro hc
      have h5b := hc; clear hc
      have h5 : (fq3) = true := (of_not_f h5b)
      have h5c : (fq3) = true := (of_not_f h5b)
      refine wp_skip ?_
      refine q_tn ?_
      refine wp_seq ?_
      obtain ⟨X, hX, hX1, hX2, hX3⟩ := K.hit (by rw [← ‹fq3 = true›]; exact hLq3)
      refine w_reg ?_
      refine rl_run F (run_move (F.ev rfl)) rfl ?_; clear F a; intro a F
      refine rl_run F (run_nilCheck (F.ev rfl)) rfl ?_; clear F a; intro a F
      refine rl_run F (run_fieldAddr tok93.k rfl rfl (F.ev rfl)) rfl ?_; clear F a; intro a F
      refine rl_run F (run_load1 (agf tok91 rfl) (F.ev rfl) (M.cellL (k := 0) rfl rfl)) rfl ?_; clear F a; intro a F
      refine rl_run F (run_move (F.ev rfl)) rfl ?_; clear F a; intro a F
      obtain ⟨be6, _, Ie6, hme6, _, Ae6, ⟨rfl, hste6, hbe61, hbe62⟩⟩ := M.atRow (k := 1) rfl (by decide) E hX
      refine rl_run F (run_indexI tok91.k tok95 (F.ev rfl) (F.ev rfl) (by omega) Ie6) rfl ?_; clear F a; intro a F
      refine rl_run F (run_fieldAddr tok95.k rfl rfl (F.ev rfl)) rfl ?_; clear F a; intro a F
      refine rl_run F (run_load1 (agf tok3 rfl) (F.ev rfl) (cellE Ae6 2 rfl rfl)) rfl ?_; clear F a; intro a F
      refine rl_run F (run_assign (F.ev rfl)) rfl ?_; clear F a; intro a F
      refine rl_run F (run_assign (F.ev rfl)) rfl ?_; clear F a; intro a F
      refine rl_nil ?_
      refine q_tn ?_
      refine wp_ret ?_
      refine fin2 F rfl rfl rfl ?_
      exact ⟨(M.weaken (.cons_cons _ (.cons_cons _ (List.Sublist.refl _)))), by rw [getF_hit K.sorted hX3]⟩

theorem widen_spec {w0 w : World} {G : Ghost} {L : List Res} {n : Nat} {b : Nat} {ad : Option Addr} {c : Nat} {many tombs : Int} {cs : List Value} {s : List SlotD}  (M : Mem w0 G (.blk b [.slice ad n c, .int .i64 many, .int .i64 tombs] 93 :: .row (.slice ad n c) n cs 95 3 :: L) w) (hn : n = s.length) (E : Els rdSlot 3 G cs s) {ps : List PairD} {most : Nat} (K : KOK s many tombs ps most) (hc : ps.length < 4096) {k : Int} (hk : k = ((ps.length + 1 : Nat) : Int)) :
    Calls Tryd.prog 44 #[.pointer (some ⟨b, 0, none⟩), .int .i64 k] w (RetL w0 G fun L' v => v = .tuple #[] ∧ ∃ ad n c cs t, L' = (.blk b [.slice ad n c, .int .i64 many, .int .i64 0] 93 :: .row (.slice ad n c) n cs 95 3 :: L) ∧ n = t.length ∧ Els rdSlot 3 G cs t ∧ KOK t many 0 ps (max most (ps.length + 1)) ∧ 2 * (ps.length + 1) ≤ t.length) := by
  subst hn
  have hKm := K.many
  have hKl := K.load
  have hKn := K.len
  have hKt := K.tombs
  have hKc := K.cnt
  refine calls_start (vs := [_, _]) Tryd.func44 rfl (n := 52) rfl rfl ?_
  intro a F
  refine wp_seq ?_
  refine w_reg ?_
  refine rl_run F (run_assign (F.ev rfl)) rfl ?_; clear F a; intro a F
  refine rl_nil ?_
  refine q_tn ?_
  refine wp_seq ?_
  refine wp_block ?_
  refine w_loopN (fun m a' w' => ∃ (n : Nat), m = 2 * (ps.length + 1) - n ∧ Fits 52 a' [(0, .pointer (some ⟨b, 0, none⟩)), (1, .int .i64 (k)), (4, .int .i64 (((n : Nat) : Int)))] ∧ Mem w0 G (.blk b [.slice (ad) (s.length) (c), .int .i64 (many), .int .i64 (tombs)] 93 :: .row (.slice (ad) (s.length) (c)) (s.length) (cs) 95 3 :: L) w' ∧ (∃ e, 3 ≤ e ∧ n = 2 ^ e) ∧ (8 ≤ n) ∧ (n = 8 ∨ n < 4 * (ps.length + 1))) _ ⟨8, rfl, F.to ⟨rfl, rfl, rfl, trivial⟩, M, ⟨3, by omega, rfl⟩, by omega, Or.inl rfl⟩ ?_
  clear F M
  rintro m a w ⟨n, rfl, F, M, hp, hn8, hn4⟩
  refine wp_seq ?_
  refine wp_seq ?_
  refine w_reg ?_
  refine rl_run F (run_move (F.ev rfl)) rfl ?_; clear F a; intro a F
  refine rl_run F (run_move (F.ev rfl)) rfl ?_; clear F a; intro a F
  refine rl_run F (run_muli (F.ev rfl) (F.ev rfl) (in_i64 (by omega) (by omega))) rfl ?_; clear F a; intro a F
  refine rl_run F (run_lss (F.ev rfl) (F.ev rfl)) rfl ?_; clear F a; intro a F
  refine rl_nil ?_
  refine q_tn ?_
  refine w_cond F rfl ?_ ?_
  · intro hc
    have h1b := hc; clear hc
    have h1 : ((n : Nat) : Int) < 2 * k := of_decide_eq_true h1b
    refine wp_skip ?_
    refine q_tn ?_
    refine wp_block ?_
    refine w_reg ?_
    refine rl_run F (run_move (F.ev rfl)) rfl ?_; clear F a; intro a F
    refine rl_run F (run_muli (F.ev rfl) (F.ev rfl) (in_i64 (by omega) (by omega))) rfl ?_; clear F a; intro a F
    refine rl_run F (run_assign (F.ev rfl)) rfl ?_; clear F a; intro a F
    refine rl_nil ?_
    refine q_bn ?_
    refine q_tn ?_
    rw [show (((n : Nat) : Int)) * 2 = ((n * 2 : Nat) : Int) by omega] at F
    exact ⟨_, by omega, n * 2, rfl, F.to ⟨rfl, rfl, rfl, trivial⟩, M, by obtain ⟨e, h1, h2⟩ := hp; exact ⟨e + 1, by omega, by rw [h2, Nat.pow_succ]⟩, by omega, by omega⟩
  · intro hc
    have h2b := hc; clear hc
    have h2 : ¬ (((n : Nat) : Int) < 2 * k) := of_decide_eq_false h2b
    refine wp_exit ?_
    refine q_te ?_
    refine q_te ?_
    refine q_bh ?_
    refine q_tn ?_
    refine wp_seq ?_
    refine w_reg ?_
    refine rl_run F (run_move (F.ev rfl)) rfl ?_; clear F a; intro a F
    refine rl_run F (run_nilCheck (F.ev rfl)) rfl ?_; clear F a; intro a F
    refine rl_run F (run_fieldAddr tok93.k rfl rfl (F.ev rfl)) rfl ?_; clear F a; intro a F
    refine rl_run F (run_load1 (agf tok91 rfl) (F.ev rfl) (M.cellL (k := 0) rfl rfl)) rfl ?_; clear F a; intro a F
    refine rl_run F (run_assign (F.ev rfl)) rfl ?_; clear F a; intro a F
    refine rl_nil ?_
    refine q_tn ?_
    refine wp_seq ?_
    refine w_reg ?_
    refine rl_run F (run_move (F.ev rfl)) rfl ?_; clear F a; intro a F
    refine rl_run F (run_move (F.ev rfl)) rfl ?_; clear F a; intro a F
    refine rl_make (rd := rdSlot) (Z := z0) F M tok91.k tok95 rfl (by decide) rfl rfl (l := n) (by omega) rfl (by omega) (by show 24 * _ ≤ _; omega) (by omega) (by simp [ti95, Value.cells, Value.oneCell']) (⟨rfl, Or.inl rfl, ⟨by decide, by decide⟩, ⟨by decide, by decide⟩⟩) rfl ?_; clear F M a; intro v3 csv3 w a M Ev3 F
    obtain ⟨av3, cv3, rfl, hlev3, hcmv3, hlv3⟩ := M.row_shape (k := 0) rfl
    refine rl_run F (run_nilCheck (F.ev rfl)) rfl ?_; clear F a; intro a F
    refine rl_run F (run_fieldAddr tok93.k rfl rfl (F.ev rfl)) rfl ?_; clear F a; intro a F
    refine rl_store1 F M tok91 rfl (k := 1) rfl rfl rfl rfl rfl ?_; clear F M a; intro w a M F
    refine rl_nil ?_
    refine q_tn ?_
    refine wp_seq ?_
    refine w_reg ?_
    refine rl_run F (run_move (F.ev rfl)) rfl ?_; clear F a; intro a F
    refine rl_run F (run_nilCheck (F.ev rfl)) rfl ?_; clear F a; intro a F
    refine rl_run F (run_fieldAddr tok93.k rfl rfl (F.ev rfl)) rfl ?_; clear F a; intro a F
    refine rl_store1 F M tok3 rfl (k := 1) rfl rfl rfl rfl rfl ?_; clear F M a; intro w a M F
    refine rl_nil ?_
    refine q_tn ?_
    refine wp_seq ?_
    refine w_reg ?_
    refine rl_run F (run_move (F.ev rfl)) rfl ?_; clear F a; intro a F
    refine rl_run F (run_lenSl tok91.k (F.ev rfl)) rfl ?_; clear F a; intro a F
    refine rl_run F (run_move (F.ev rfl)) rfl ?_; clear F a; intro a F
    refine rl_nil ?_
    refine q_tn ?_
    refine wp_block ?_
    refine w_loopN (fun m a' w' => ∃ (i : Nat), ∃ (t : List SlotD), ∃ (cst : List Value), m = s.length - i ∧ Fits 52 a' [(0, .pointer (some ⟨b, 0, none⟩)), (28, .slice (ad) (s.length) (c)), (29, .int .i64 (((s.length : Nat) : Int))), (30, .int .i64 (((i : Nat) : Int)))] ∧ Mem w0 G (.row (.slice (av3) (n) (cv3)) (n) (cst) 95 3 :: .blk b [.slice (av3) (n) (cv3), .int .i64 (many), .int .i64 (0)] 93 :: .row (.slice (ad) (s.length) (c)) (s.length) (cs) 95 3 :: L) w' ∧ (Els rdSlot 3 G cst t) ∧ (WInv s n i t) ∧ (i ≤ s.length)) _ ⟨0, List.replicate n z0, csv3, rfl, F.to ⟨rfl, rfl, rfl, rfl, trivial⟩, M, Ev3, WInv.start s n, Nat.zero_le _⟩ ?_
    clear F M
    rintro m a w ⟨i, t, cst, rfl, F, M, Et, W, hi⟩
    refine wp_seq ?_
    refine w_reg ?_
    refine rl_run F (run_lss (F.ev rfl) (F.ev rfl)) rfl ?_; clear F a; intro a F
    refine rl_nil ?_
    refine q_tn ?_
    refine wp_seq ?_
    refine w_cond F rfl ?_ ?_
    · intro hc
      have h4b := hc; clear hc
      have h4 : ((i : Nat) : Int) < ((s.length : Nat) : Int) := of_decide_eq_true h4b
      refine wp_skip ?_
      refine q_tn ?_
      refine wp_seq ?_
      refine wp_block ?_
      refine wp_seq ?_
      refine w_reg ?_
      obtain ⟨Xe5, hXe5⟩ := get_of_lt (xs := s) (i := i) (by omega)
      obtain ⟨be5, _, Ie5, hme5, _, Ae5, ⟨rfl, hste5, hbe51, hbe52⟩⟩ := M.atRow (k := 2) rfl (by decide) E hXe5
      refine rl_run F (run_indexI tok91.k tok95 (F.ev rfl) (F.ev rfl) (by omega) Ie5) rfl ?_; clear F a; intro a F
      refine rl_run F (run_loadA tok95 rfl (F.ev rfl) (cs := [.int .u8 (Xe5.st), .int .u64 (Xe5.key), .int .i64 (Xe5.v)]) rfl (cellsE Ae5 0 (by omega) rfl)) rfl ?_; clear F a; intro a F
      refine rl_alloc F M tok95 rfl rfl ?_; clear F M a; intro b6 w a M F
      refine rl_storeA F M tok95 (k := 0) rfl rfl rfl (us := [.int .u8 (Xe5.st), .int .u64 (Xe5.key), .int .i64 (Xe5.v)]) rfl rfl (by simp [Value.oneCell']) (by simp) ?_; clear F M a; intro w a M F
      refine rl_nil ?_
      refine q_tn ?_
      refine wp_seq ?_
      refine w_reg ?_
      refine rl_run F (run_fieldAddr tok95.k rfl rfl (F.ev rfl)) rfl ?_; clear F a; intro a F
      refine rl_run F (run_load1 (agf tok5 rfl) (F.ev rfl) (M.cellL (k := 0) rfl rfl)) rfl ?_; clear F a; intro a F
      refine rl_run F (run_eqi (F.ev rfl) (F.ev rfl)) rfl ?_; clear F a; intro a F
      refine rl_nil ?_
      refine q_tn ?_
      refine w_cond F rfl ?_ ?_
      · intro hc
        have h8b := hc; clear hc
        have h8 : Xe5.st = 1 := of_decide_eq_true h8b
        refine wp_seq ?_
        have hWl := W.len
        refine w_reg ?_
        refine rl_run F (run_move (F.ev rfl)) rfl ?_; clear F a; intro a F
        refine rl_run F (run_fieldAddr tok95.k rfl rfl (F.ev rfl)) rfl ?_; clear F a; intro a F
        refine rl_run F (run_load1 (agf tok37 rfl) (F.ev rfl) (M.cellL (k := 0) rfl rfl)) rfl ?_; clear F a; intro a F
        replace M := M.perm (perm_front _ 1 _ rfl)
        replace M := M.perm (perm_front _ 2 _ rfl)
        change Mem w0 G (.blk b [.slice (av3) (n) (cv3), .int .i64 (many), .int .i64 (0)] 93 :: .row (.slice (av3) (n) (cv3)) (n) (cst) 95 3 :: .blk b6 [.int .u8 (Xe5.st), .int .u64 (Xe5.key), .int .i64 (Xe5.v)] 95 :: .row (.slice (ad) (s.length) (c)) (s.length) (cs) 95 3 :: L) _ at M
        refine rl_callS F ent43 rfl rfl (look_spec M W.len.symm Et (by omega) (by omega) (W.pi) (W.free K (by omega))) ?_; clear F M a; rintro _ w a M ⟨pq9, fq9, rfl, hLq9⟩ F
        have hpq9 := hLq9.1
        refine rl_run F (run_move (F.ev rfl)) rfl ?_; clear F a; intro a F
        refine rl_run F (run_extract (v := .int .i64 (((pq9 : Nat) : Int))) (F.ev rfl) rfl) rfl ?_; clear F a; intro a F
        refine rl_run F (run_extract (v := .bool (fq9)) (F.ev rfl) rfl) rfl ?_; clear F a; intro a F
        refine rl_run F (run_assign (F.ev rfl)) rfl ?_; clear F a; intro a F
        refine rl_run F (run_assign (F.ev rfl)) rfl ?_; clear F a; intro a F
        refine rl_nil ?_
        refine q_tn ?_
        refine w_plan [(true, 0), (true, 1), (true, 2), (true, 3), (true, 4), (true, 5), (true, 6), (false, 7)] (Keep G [.blk b [.slice (av3) (n) (cv3), .int .i64 (many), .int .i64 (0)] 93, .blk b6 [.int .u8 (Xe5.st), .int .u64 (Xe5.key), .int .i64 (Xe5.v)] 95]) rfl (by kernel_rfl) (fun c a d v w h => by cases d <;> exact h) ((M.drew _).keep (Gle.refl _) (by simp)) ?_
        replace M := M.drew (w.drawn + 1)
        refine pl_run F (fun w M => run_move (F.ev rfl)) rfl ?_; clear F a; intro a F
        refine pl_run F (fun w M => run_nilCheck (F.ev rfl)) rfl ?_; clear F a; intro a F
        refine pl_run F (fun w M => run_fieldAddr tok93.k rfl rfl (F.ev rfl)) rfl ?_; clear F a; intro a F
        refine pl_run F (fun w M => run_load1 (agf tok91 rfl) (F.ev rfl) (M.cellL (k := 0) rfl rfl)) rfl ?_; clear F a; intro a F
        refine pl_run F (fun w M => run_move (F.ev rfl)) rfl ?_; clear F a; intro a F
        refine pl_run F (fun w M => run_loadA tok95 rfl (F.ev rfl) (cs := [.int .u8 (Xe5.st), .int .u64 (Xe5.key), .int .i64 (Xe5.v)]) rfl (M.cellsL (k := 1) rfl rfl)) rfl ?_; clear F a; intro a F
        obtain ⟨Xe10, hXe10⟩ := get_of_lt (xs := t) (i := pq9) (by omega)
        obtain ⟨be10, _, Ie10, hme10, _, Ae10, ⟨rfl, hste10, hbe101, hbe102⟩⟩ := M.atRow (k := 1) rfl (by decide) Et hXe10
        refine pl_run F (fun w M => run_indexI tok91.k tok95 (F.ev rfl) (F.ev rfl) (by omega) Ie10) rfl ?_; clear F a; intro a F
        refine pl_act ?_ rfl
        refine rl_storeEl F M tok95 (k := 1) rfl rfl Et Ie10 (lt_of_get hXe10) rfl rfl (us := [.int .u8 (Xe5.st), .int .u64 (Xe5.key), .int .i64 (Xe5.v)]) rfl rfl (by simp [Value.oneCell']) (X' := Xe5) (⟨rfl, hste5, hbe51, hbe52⟩) ?_; clear F M a; intro csu11 w a M Eu11 F
        refine rl_nil ?_
        refine ⟨Keep G [.blk b [.slice (av3) (n) (cv3), .int .i64 (many), .int .i64 (0)] 93, .blk b6 [.int .u8 (Xe5.st), .int .u64 (Xe5.key), .int .i64 (Xe5.v)] 95], M.keep (Gle.refl _) (by simp), fun w h => h.mono (Gle.refl _) (by simp), ?_⟩
        refine pl_nil ?_
        refine q_bn ?_
        refine q_tn ?_
        refine w_reg ?_
        refine rl_run F (run_addi (F.ev rfl) (F.ev rfl) (in_i64 (by omega) (by omega))) rfl ?_; clear F a; intro a F
        refine rl_run F (run_move (F.ev rfl)) rfl ?_; clear F a; intro a F
        refine rl_nil ?_
        refine q_tn ?_
        replace M := M.perm (perm_front _ 3 _ rfl)
        replace M := M.perm (perm_front _ 1 _ rfl)
        replace M := M.perm (perm_front _ 2 _ rfl)
        change Mem w0 G (.row (.slice (av3) (n) (cv3)) (n) (csu11) 95 3 :: .blk b [.slice (av3) (n) (cv3), .int .i64 (many), .int .i64 (0)] 93 :: .row (.slice (ad) (s.length) (c)) (s.length) (cs) 95 3 :: .blk b6 [.int .u8 (Xe5.st), .int .u64 (Xe5.key), .int .i64 (Xe5.v)] 95 :: L) _ at M
        exact ⟨_, by omega, i + 1, (t).set (pq9) Xe5, csu11, rfl, F.to ⟨rfl, rfl, rfl, rfl, trivial⟩, (M.weaken (.cons_cons _ (.cons_cons _ (.cons_cons _ (.cons _ (List.Sublist.refl _)))))), Eu11, W.add K hXe5 (by omega) hLq9, by omega⟩
      · intro hc
        have h12b := hc; clear hc
        have h12 : ¬ (Xe5.st = 1) := of_decide_eq_false h12b
        refine wp_skip ?_
        refine q_bn ?_
        refine q_tn ?_
        refine w_reg ?_
        refine rl_run F (run_addi (F.ev rfl) (F.ev rfl) (in_i64 (by omega) (by omega))) rfl ?_; clear F a; intro a F
        refine rl_run F (run_move (F.ev rfl)) rfl ?_; clear F a; intro a F
        refine rl_nil ?_
        refine q_tn ?_
        exact ⟨_, by omega, i + 1, t, cst, rfl, F.to ⟨rfl, rfl, rfl, rfl, trivial⟩, (M.weaken (.cons _ (.cons_cons _ (.cons_cons _ (.cons_cons _ (List.Sublist.refl _)))))), Et, W.skip hXe5 (by omega), by omega⟩
    · intro hc
      have h13b := hc; clear hc
      have h13 : ¬ (((i : Nat) : Int) < ((s.length : Nat) : Int)) := of_decide_eq_false h13b
      refine wp_exit ?_
      refine q_te ?_
      refine q_te ?_
      refine q_bh ?_
      refine fin0n F rfl ?_
      obtain ⟨e, he, hne⟩ := hp
      have hi' : i = s.length := by omega
      subst hi'
      have K' := KOK.widened W K he hne (by omega) (by omega) hc
      replace M := M.perm (perm_front _ 1 _ rfl)
      change Mem w0 G (.blk b [.slice (av3) (n) (cv3), .int .i64 (many), .int .i64 (0)] 93 :: .row (.slice (av3) (n) (cv3)) (n) (cst) 95 3 :: .row (.slice (ad) (s.length) (c)) (s.length) (cs) 95 3 :: L) _ at M
      exact ⟨_, (M.weaken (.cons_cons _ (.cons_cons _ (.cons _ (List.Sublist.refl _))))), rfl, _, _, _, _, _, rfl, W.len.symm, Et, K', by rw [W.len]; omega⟩

end Go.Proofs.YtokeofoemjeleaaDoor
