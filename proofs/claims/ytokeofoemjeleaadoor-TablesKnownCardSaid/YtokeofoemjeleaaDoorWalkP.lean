/- The walks, part P. -/
import Derived.Test.YtokeofoemjeleaaDoorWalkY
namespace Go.Proofs.YtokeofoemjeleaaDoor
open Go Go.Y Go.Proofs
set_option linter.unusedSimpArgs false
set_option linter.unusedVariables false
theorem parse_spec {w0 w : World} {G : Ghost} {L : List Res} (M : Mem w0 G L w) (HG : Globs 0 1 4 5 G) {s : List UInt8} (hs : s.length ≤ 9223372036854775807) :
    Calls Tryd.prog 18 #[.string (str s)] w (Ret w0 G L fun G' v => ∃ a', v = .tuple #[.slice a' (parseF s).1.length (parseF s).1.length, .int .i64 ((parseF s).2.1 : Nat), .int .i64 (parseF s).2.2] ∧ RdSl rdPair 2 G' (.slice a' (parseF s).1.length (parseF s).1.length) (parseF s).1) := by
  refine calls_start (vs := [_]) Tryd.func18 rfl (n := 57) rfl rfl ?_
  intro a F
  refine wp_seq ?_
  refine w_reg ?_
  refine rl_run F (run_assign (F.ev rfl)) rfl ?_; clear F a; intro a F
  refine rl_run F (run_assign (F.ev rfl)) rfl ?_; clear F a; intro a F
  refine rl_run F (run_assign (F.ev rfl)) rfl ?_; clear F a; intro a F
  refine rl_nil ?_
  refine q_tn ?_
  refine w_scope0 (l := 0) ?_
  refine wp_seq ?_
  refine wp_seq ?_
  refine w_reg ?_
  refine rl_run F (run_move (F.ev rfl)) rfl ?_; clear F a; intro a F
  refine rl_run F (run_lenStr tok9.k (F.ev rfl)) rfl ?_; clear F a; intro a F
  refine rl_run F (run_gtr (F.ev rfl) (F.ev rfl)) rfl ?_; clear F a; intro a F
  refine rl_nil ?_
  refine q_tn ?_
  refine w_cond F rfl ?_ ?_
  · intro hc
    have h1b := hc; clear hc
    have h1 : 1048576 < (((s).length : Nat) : Int) := of_decide_eq_true h1b
    refine wp_seq ?_
    refine w_reg ?_
    refine rl_run F (run_assign (F.ev rfl)) rfl ?_; clear F a; intro a F
    refine rl_run F (run_assign (F.ev rfl)) rfl ?_; clear F a; intro a F
    refine rl_run F (run_assign (F.ev rfl)) rfl ?_; clear F a; intro a F
    refine rl_nil ?_
    refine q_tn ?_
    refine wp_ret ?_
    refine q_tr ?_
    refine q_jr ?_
    refine fin3 F rfl rfl rfl rfl ?_
    have hp : parseF s = ([], 0, 3) := pf_big (by omega)
    exact ⟨G, (Gle.refl _), M.weaken (List.Sublist.refl _), none, by rw [hp]; rfl, by rw [hp]; exact RdSl.nil⟩
  · intro hc
    have h2b := hc; clear hc
    have h2 : ¬ (1048576 < (((s).length : Nat) : Int)) := of_decide_eq_false h2b
    refine wp_skip ?_
    refine q_tn ?_
    refine wp_seq ?_
    refine w_reg ?_
    refine rl_callL F ent28 rfl rfl (new_spec M) ?_; clear F M a; rintro _ _ w a M ⟨bm3, rfl, adm3, nm3, cm3, manym3, tombsm3, csm3, sm3, rfl, hnm3, Em3, Km3⟩ F
    have hmm3 : manym3 = 0 := Km3.many
    have hzm3 : nm3 = 0 := by rw [hnm3]; exact Km3.small.2 rfl
    refine rl_run F (run_assign (F.ev rfl)) rfl ?_; clear F a; intro a F
    refine rl_nil ?_
    refine q_tn ?_
    refine wp_seq ?_
    refine wp_label ?_
    refine q_tn ?_
    refine wp_seq ?_
    refine wp_block ?_
    have M := M.nilrow 39 2
    refine w_loopN (fun m a' w' => ∃ (r : List UInt8), ∃ (fu : Nat), ∃ (l : List PairD), ∃ (ln : Nat), ∃ (ps : List PairD), ∃ (ao : Option Addr), ∃ (no : Nat), ∃ (co : Nat), ∃ (cso : List Value), ∃ (adm : Option Addr), ∃ (nm : Nat), ∃ (cm : Nat), ∃ (manym : Int), ∃ (tombsm : Int), ∃ (csm : List Value), ∃ (sm : List SlotD), m = r.length ∧ Fits 57 a' [(4, .int .i64 (0)), (5, .pointer (some ⟨bm3, 0, none⟩)), (0, .string (str (r))), (2, .slice (ao) (no) (co)), (3, .int .i64 (((ln : Nat) : Int)))] ∧ Mem w0 G (.row (.slice (ao) (no) (co)) (no) (cso) 39 2 :: .blk bm3 [.slice (adm) (nm) (cm), .int .i64 (manym), .int .i64 (tombsm)] 93 :: .row (.slice (adm) (nm) (cm)) (nm) (csm) 95 3 :: L) w' ∧ (parseF s = parseGo (fu + 1) l ln r) ∧ (r.length ≤ fu) ∧ (Seen ps l) ∧ (l.length ≤ 256) ∧ (ln + r.length ≤ 1048576) ∧ (no = (l).length) ∧ (Els rdPair 2 G cso (l)) ∧ (nm = sm.length) ∧ (Els rdSlot 3 G csm sm) ∧ (KOK sm manym tombsm (ps) (4096))) _ ⟨s, s.length, [], 0, [], (none), (0), (0), ([]), (adm3), (nm3), (cm3), (manym3), (tombsm3), (csm3), (sm3), rfl, F.to ⟨rfl, rfl, rfl, rfl, rfl, trivial⟩, M, pf_go (by omega), Nat.le_refl _, Seen.nil, Nat.zero_le _, by omega, rfl, Els.nil, hnm3, Em3, Km3.more (by omega)⟩ ?_
    clear F M
    rintro m a w ⟨r, fu, l, ln, ps, ao, no, co, cso, adm, nm, cm, manym, tombsm, csm, sm, rfl, F, M, hpg, hfu, hS, hl256, hlnr, hno, Eo, hnm, Em, Km⟩
    refine wp_seq ?_
    refine wp_seq ?_
    refine w_reg ?_
    refine rl_run F (run_move (F.ev rfl)) rfl ?_; clear F a; intro a F
    refine rl_run F (run_strNe (F.ev rfl) (F.ev rfl)) rfl ?_; clear F a; intro a F
    refine rl_nil ?_
    refine q_tn ?_
    refine w_cond F rfl ?_ ?_
    · intro hc
      have h4b := hc; clear hc
      have h4 : ¬ (r = ([] : List UInt8)) := of_decide_eq_false (of_not_t h4b)
      have h4c : (decide (r = ([] : List UInt8))) = false := (of_not_t h4b)
      refine wp_skip ?_
      refine q_tn ?_
      refine wp_block ?_
      refine wp_seq ?_
      refine w_reg ?_
      refine rl_run F (run_move (F.ev rfl)) rfl ?_; clear F a; intro a F
      refine rl_run F (run_addi (F.ev rfl) (F.ev rfl) (in_i64 (by omega) (by omega))) rfl ?_; clear F a; intro a F
      refine rl_run F (run_assign (F.ev rfl)) rfl ?_; clear F a; intro a F
      refine rl_nil ?_
      refine q_tn ?_
      refine wp_seq ?_
      have hcl := cut_lens 10 r
      refine w_reg ?_
      refine rl_run F (run_move (F.ev rfl)) rfl ?_; clear F a; intro a F
      refine rl_callS F ent37 rfl rfl (cut_spec (s := r) (sep := ([10] : List UInt8)) M HG (by omega)) ?_; clear F M a; rintro _ w a M rfl F
      refine rl_run F (run_move (F.ev rfl)) rfl ?_; clear F a; intro a F
      refine rl_run F (run_extract (v := .string (str ((Lib.cut r ([10] : List UInt8)).1))) (F.ev rfl) rfl) rfl ?_; clear F a; intro a F
      refine rl_run F (run_extract (v := .string (str ((Lib.cut r ([10] : List UInt8)).2.1))) (F.ev rfl) rfl) rfl ?_; clear F a; intro a F
      refine rl_run F (run_extract (v := .bool ((Lib.cut r ([10] : List UInt8)).2.2)) (F.ev rfl) rfl) rfl ?_; clear F a; intro a F
      refine rl_run F (run_assign (F.ev rfl)) rfl ?_; clear F a; intro a F
      refine rl_run F (run_assign (F.ev rfl)) rfl ?_; clear F a; intro a F
      refine rl_run F (run_assign (F.ev rfl)) rfl ?_; clear F a; intro a F
      refine rl_nil ?_
      refine q_tn ?_
      refine wp_seq ?_
      refine w_reg ?_
      refine rl_run F (run_move (F.ev rfl)) rfl ?_; clear F a; intro a F
      refine rl_callS F ent38 rfl rfl (parse1_spec (s := (Lib.cut r ([10] : List UInt8)).1) M HG (by omega)) ?_; clear F M a; rintro _ w a M ⟨hk5, bk5, rfl, hikk5, hv0k5, hv1k5, hlk5⟩ F
      refine rl_run F (run_move (F.ev rfl)) rfl ?_; clear F a; intro a F
      refine rl_run F (run_extract (v := .agg #[.int .u64 (hk5.key), .int .i64 (hk5.v)]) (F.ev rfl) rfl) rfl ?_; clear F a; intro a F
      refine rl_run F (run_extract (v := .bool (bk5)) (F.ev rfl) rfl) rfl ?_; clear F a; intro a F
      refine rl_alloc F M tok39 rfl rfl ?_; clear F M a; intro b6 w a M F
      refine rl_storeA F M tok39 (k := 0) rfl rfl rfl (us := [.int .u64 (hk5.key), .int .i64 (hk5.v)]) rfl rfl (by simp [Value.oneCell']) (by simp) ?_; clear F M a; intro w a M F
      refine rl_run F (run_assign (F.ev rfl)) rfl ?_; clear F a; intro a F
      refine rl_nil ?_
      refine q_tn ?_
      refine wp_seq ?_
      refine wp_block ?_
      refine wp_seq ?_
      refine w_reg ?_
      refine rl_run F (run_move (F.ev rfl)) rfl ?_; clear F a; intro a F
      refine rl_run F (run_not (F.ev rfl)) rfl ?_; clear F a; intro a F
      refine rl_run F (run_move (F.ev rfl)) rfl ?_; clear F a; intro a F
      rcases Bool.eq_false_or_eq_true (!((Lib.cut r ([10] : List UInt8)).2.2)) with hc | hc
      · skip
        have h8b := hc; clear hc
        have h8 : ((Lib.cut r ([10] : List UInt8)).2.2) = false := (of_not_t h8b)
        have h8c : ((Lib.cut r ([10] : List UInt8)).2.2) = false := (of_not_t h8b)
        refine rl_guard_f F rfl rfl rfl (not_t h8c) ?_; clear F a; intro a F
        refine rl_guard_f F rfl rfl rfl (not_t h8c) ?_; clear F a; intro a F
        refine rl_run F (run_pick_t (F.ev rfl) (not_t h8c) (F.ev rfl)) rfl ?_; clear F a; intro a F
        refine rl_run F (run_assign (F.ev rfl)) rfl ?_; clear F a; intro a F
        refine rl_nil ?_
        refine q_tn ?_
        refine w_cond_t F rfl rfl ?_
        refine w_reg ?_
        refine rl_run F (run_assign (F.ev rfl)) rfl ?_; clear F a; intro a F
        refine rl_nil ?_
        refine q_bn ?_
        refine q_tn ?_
        refine wp_seq ?_
        refine wp_seq ?_
        refine w_reg ?_
        refine rl_run F (run_move (F.ev rfl)) rfl ?_; clear F a; intro a F
        refine rl_run F (run_nei (F.ev rfl) (F.ev rfl)) rfl ?_; clear F a; intro a F
        refine rl_nil ?_
        refine q_tn ?_
        refine w_cond_t F rfl (not_t (decide_eq_false (by decide))) ?_
        refine wp_exit ?_
        refine q_te ?_
        refine q_be rfl ?_
        refine q_te ?_
        refine q_bh ?_
        refine q_tn ?_
        refine wp_seq ?_
        refine wp_seq ?_
        refine w_reg ?_
        refine rl_run F (run_move (F.ev rfl)) rfl ?_; clear F a; intro a F
        refine rl_run F (run_nei (F.ev rfl) (F.ev rfl)) rfl ?_; clear F a; intro a F
        refine rl_nil ?_
        refine q_tn ?_
        refine w_cond_t F rfl (not_t (decide_eq_false (by decide))) ?_
        refine wp_seq ?_
        refine w_reg ?_
        refine rl_run F (run_move (F.ev rfl)) rfl ?_; clear F a; intro a F
        refine rl_run F (run_move (F.ev rfl)) rfl ?_; clear F a; intro a F
        refine rl_run F (run_assign (F.ev rfl)) rfl ?_; clear F a; intro a F
        refine rl_run F (run_assign (F.ev rfl)) rfl ?_; clear F a; intro a F
        refine rl_run F (run_assign (F.ev rfl)) rfl ?_; clear F a; intro a F
        refine rl_nil ?_
        refine q_tn ?_
        refine wp_ret ?_
        refine q_tr ?_
        refine q_jr ?_
        refine fin3 F rfl rfl rfl rfl ?_
        have hp : parseF s = ([], ln + 1, 5) := by first | exact pgc_cut hpg (by assumption) (by assumption) | exact pgc_line hpg (by assumption) hlk5 (by assumption)
        exact ⟨G, (Gle.refl _), M.weaken (.cons _ (.cons _ (.cons _ (.cons _ (List.Sublist.refl _))))), none, by rw [hp]; rfl, by rw [hp]; exact RdSl.nil⟩
      · skip
        have h9b := hc; clear hc
        have h9 : ((Lib.cut r ([10] : List UInt8)).2.2) = true := (of_not_f h9b)
        have h9c : ((Lib.cut r ([10] : List UInt8)).2.2) = true := (of_not_f h9b)
        refine rl_guard_t F rfl rfl rfl (not_f h9c) ?_
        refine rl_run F (run_move (F.ev rfl)) rfl ?_; clear F a; intro a F
        refine rl_guard_t F rfl rfl rfl (not_f h9c) ?_
        refine rl_run F (run_not (F.ev rfl)) rfl ?_; clear F a; intro a F
        refine rl_run F (run_pick_f (F.ev rfl) (not_f h9c) (F.ev rfl)) rfl ?_; clear F a; intro a F
        refine rl_run F (run_assign (F.ev rfl)) rfl ?_; clear F a; intro a F
        refine rl_nil ?_
        refine q_tn ?_
        refine w_cond F rfl ?_ ?_
        · intro hc
          have h10b := hc; clear hc
          have h10 : (bk5) = false := (of_not_t h10b)
          have h10c : (bk5) = false := (of_not_t h10b)
          refine w_reg ?_
          refine rl_run F (run_assign (F.ev rfl)) rfl ?_; clear F a; intro a F
          refine rl_nil ?_
          refine q_bn ?_
          refine q_tn ?_
          refine wp_seq ?_
          refine wp_seq ?_
          refine w_reg ?_
          refine rl_run F (run_move (F.ev rfl)) rfl ?_; clear F a; intro a F
          refine rl_run F (run_nei (F.ev rfl) (F.ev rfl)) rfl ?_; clear F a; intro a F
          refine rl_nil ?_
          refine q_tn ?_
          refine w_cond_t F rfl (not_t (decide_eq_false (by decide))) ?_
          refine wp_exit ?_
          refine q_te ?_
          refine q_be rfl ?_
          refine q_te ?_
          refine q_bh ?_
          refine q_tn ?_
          refine wp_seq ?_
          refine wp_seq ?_
          refine w_reg ?_
          refine rl_run F (run_move (F.ev rfl)) rfl ?_; clear F a; intro a F
          refine rl_run F (run_nei (F.ev rfl) (F.ev rfl)) rfl ?_; clear F a; intro a F
          refine rl_nil ?_
          refine q_tn ?_
          refine w_cond_t F rfl (not_t (decide_eq_false (by decide))) ?_
          refine wp_seq ?_
          refine w_reg ?_
          refine rl_run F (run_move (F.ev rfl)) rfl ?_; clear F a; intro a F
          refine rl_run F (run_move (F.ev rfl)) rfl ?_; clear F a; intro a F
          refine rl_run F (run_assign (F.ev rfl)) rfl ?_; clear F a; intro a F
          refine rl_run F (run_assign (F.ev rfl)) rfl ?_; clear F a; intro a F
          refine rl_run F (run_assign (F.ev rfl)) rfl ?_; clear F a; intro a F
          refine rl_nil ?_
          refine q_tn ?_
          refine wp_ret ?_
          refine q_tr ?_
          refine q_jr ?_
          refine fin3 F rfl rfl rfl rfl ?_
          have hp : parseF s = ([], ln + 1, 5) := by first | exact pgc_cut hpg (by assumption) (by assumption) | exact pgc_line hpg (by assumption) hlk5 (by assumption)
          exact ⟨G, (Gle.refl _), M.weaken (.cons _ (.cons _ (.cons _ (.cons _ (List.Sublist.refl _))))), none, by rw [hp]; rfl, by rw [hp]; exact RdSl.nil⟩
        · intro hc
          have h11b := hc; clear hc
          have h11 : (bk5) = true := (of_not_f h11b)
          have h11c : (bk5) = true := (of_not_f h11b)
          refine wp_seq ?_
          refine w_reg ?_
          refine rl_run F (run_move (F.ev rfl)) rfl ?_; clear F a; intro a F
          refine rl_run F (run_lenSl tok22.k (F.ev rfl)) rfl ?_; clear F a; intro a F
          refine rl_run F (run_eqi (F.ev rfl) (F.ev rfl)) rfl ?_; clear F a; intro a F
          refine rl_run F (run_assign (F.ev rfl)) rfl ?_; clear F a; intro a F
          refine rl_nil ?_
          refine q_tn ?_
          refine w_cond F rfl ?_ ?_
          · intro hc
            have h12b := hc; clear hc
            have h12 : ((no : Nat) : Int) = 256 := of_decide_eq_true h12b
            refine w_reg ?_
            refine rl_run F (run_assign (F.ev rfl)) rfl ?_; clear F a; intro a F
            refine rl_nil ?_
            refine q_bn ?_
            refine q_tn ?_
            refine wp_seq ?_
            refine wp_seq ?_
            refine w_reg ?_
            refine rl_run F (run_move (F.ev rfl)) rfl ?_; clear F a; intro a F
            refine rl_run F (run_nei (F.ev rfl) (F.ev rfl)) rfl ?_; clear F a; intro a F
            refine rl_nil ?_
            refine q_tn ?_
            refine w_cond_t F rfl (not_t (decide_eq_false (by decide))) ?_
            refine wp_exit ?_
            refine q_te ?_
            refine q_be rfl ?_
            refine q_te ?_
            refine q_bh ?_
            refine q_tn ?_
            refine wp_seq ?_
            refine wp_seq ?_
            refine w_reg ?_
            refine rl_run F (run_move (F.ev rfl)) rfl ?_; clear F a; intro a F
            refine rl_run F (run_nei (F.ev rfl) (F.ev rfl)) rfl ?_; clear F a; intro a F
            refine rl_nil ?_
            refine q_tn ?_
            refine w_cond_t F rfl (not_t (decide_eq_false (by decide))) ?_
            refine wp_seq ?_
            refine w_reg ?_
            refine rl_run F (run_move (F.ev rfl)) rfl ?_; clear F a; intro a F
            refine rl_run F (run_move (F.ev rfl)) rfl ?_; clear F a; intro a F
            refine rl_run F (run_assign (F.ev rfl)) rfl ?_; clear F a; intro a F
            refine rl_run F (run_assign (F.ev rfl)) rfl ?_; clear F a; intro a F
            refine rl_run F (run_assign (F.ev rfl)) rfl ?_; clear F a; intro a F
            refine rl_nil ?_
            refine q_tn ?_
            refine wp_ret ?_
            refine q_tr ?_
            refine q_jr ?_
            refine fin3 F rfl rfl rfl rfl ?_
            have hp : parseF s = ([], ln + 1, 3) := by exact pgc_full hpg (by assumption) (by assumption) hlk5 (by assumption) (by omega)
            exact ⟨G, (Gle.refl _), M.weaken (.cons _ (.cons _ (.cons _ (.cons _ (List.Sublist.refl _))))), none, by rw [hp]; rfl, by rw [hp]; exact RdSl.nil⟩
          · intro hc
            have h13b := hc; clear hc
            have h13 : ¬ (((no : Nat) : Int) = 256) := of_decide_eq_false h13b
            refine w_reg ?_
            refine rl_run F (run_loadA tok39 rfl (F.ev rfl) (cs := [.int .u64 (hk5.key), .int .i64 (hk5.v)]) rfl (M.cellsL (k := 0) rfl rfl)) rfl ?_; clear F a; intro a F
            refine rl_run F (run_move (F.ev rfl)) rfl ?_; clear F a; intro a F
            replace M := M.perm (perm_front _ 3 _ rfl)
            replace M := M.perm (perm_front _ 3 _ rfl)
            change Mem w0 G (.blk bm3 [.slice (adm) (nm) (cm), .int .i64 (manym), .int .i64 (tombsm)] 93 :: .row (.slice (adm) (nm) (cm)) (nm) (csm) 95 3 :: .blk b6 [.int .u64 (hk5.key), .int .i64 (hk5.v)] 39 :: .row (.slice (ao) (no) (co)) (no) (cso) 39 2 :: L) _ at M
            refine rl_callL F ent39 rfl rfl (one_spec (h := hk5) (least := 1) M hnm Em Km (by (have h1 := hS.len; omega)) hikk5) ?_; clear F M a; rintro _ _ w a M ⟨rfl, adm14, nm14, cm14, manym14, tombsm14, csm14, sm14, rfl, hnm14, Em14, Km14⟩ F
            refine rl_run F (run_assign (F.ev rfl)) rfl ?_; clear F a; intro a F
            refine rl_nil ?_
            refine q_bn ?_
            refine q_tn ?_
            refine wp_seq ?_
            refine wp_seq ?_
            refine w_reg ?_
            refine rl_run F (run_move (F.ev rfl)) rfl ?_; clear F a; intro a F
            refine rl_run F (run_nei (F.ev rfl) (F.ev rfl)) rfl ?_; clear F a; intro a F
            refine rl_nil ?_
            refine q_tn ?_
            refine w_cond F rfl ?_ ?_
            · intro hc
              have h15b := hc; clear hc
              have h15 : ¬ (oneF ps hk5 1 = 0) := of_decide_eq_false (of_not_t h15b)
              have h15c : (decide (oneF ps hk5 1 = 0)) = false := (of_not_t h15b)
              refine wp_exit ?_
              refine q_te ?_
              refine q_be rfl ?_
              refine q_te ?_
              refine q_bh ?_
              refine q_tn ?_
              refine wp_seq ?_
              refine wp_seq ?_
              refine w_reg ?_
              refine rl_run F (run_move (F.ev rfl)) rfl ?_; clear F a; intro a F
              refine rl_run F (run_nei (F.ev rfl) (F.ev rfl)) rfl ?_; clear F a; intro a F
              refine rl_nil ?_
              refine q_tn ?_
              refine w_cond_t F rfl (not_t (decide_eq_false h15)) ?_
              refine wp_seq ?_
              refine w_reg ?_
              refine rl_run F (run_move (F.ev rfl)) rfl ?_; clear F a; intro a F
              refine rl_run F (run_move (F.ev rfl)) rfl ?_; clear F a; intro a F
              refine rl_run F (run_assign (F.ev rfl)) rfl ?_; clear F a; intro a F
              refine rl_run F (run_assign (F.ev rfl)) rfl ?_; clear F a; intro a F
              refine rl_run F (run_assign (F.ev rfl)) rfl ?_; clear F a; intro a F
              refine rl_nil ?_
              refine q_tn ?_
              refine wp_ret ?_
              refine q_tr ?_
              refine q_jr ?_
              refine fin3 F rfl rfl rfl rfl ?_
              have hp : parseF s = ([], ln + 1, oneF ps hk5 1) := by exact pgc_fault hpg (by assumption) (by assumption) hlk5 (by assumption) (by omega) hS (by omega)
              exact ⟨G, (Gle.refl _), M.weaken (.cons _ (.cons _ (.cons _ (.cons _ (List.Sublist.refl _))))), none, by rw [hp]; rfl, by rw [hp]; exact RdSl.nil⟩
            · intro hc
              have h16b := hc; clear hc
              have h16 : oneF ps hk5 1 = 0 := of_decide_eq_true (of_not_f h16b)
              have h16c : (decide (oneF ps hk5 1 = 0)) = true := (of_not_f h16b)
              refine wp_skip ?_
              refine q_tn ?_
              refine wp_seq ?_
              refine w_reg ?_
              refine rl_run F (run_move (F.ev rfl)) rfl ?_; clear F a; intro a F
              refine rl_run F (run_loadA tok39 rfl (F.ev rfl) (cs := [.int .u64 (hk5.key), .int .i64 (hk5.v)]) rfl (M.cellsL (k := 2) rfl rfl)) rfl ?_; clear F a; intro a F
              refine rl_buildSlice1 F M tok22.k tok39 rfl rfl (cs := [.int .u64 (hk5.key), .int .i64 (hk5.v)]) rfl rfl (by simp [Value.oneCell']) (by decide) rfl ?_; clear F M a; intro v17 w a M F
              obtain ⟨av17, cv17, rfl, hlev17, hcmv17, hlv17⟩ := M.row_shape (k := 0) rfl
              have E18 : Els rdPair 2 G [.int .u64 (hk5.key), .int .i64 (hk5.v)] [(hk5 : PairD)] := Els.one ⟨rfl, hikk5, (show inKind .i64 hk5.v from in_i64 (by omega) (by omega))⟩ rfl
              refine rl_append_row F M (k := 4) (k2 := 0) rfl rfl tok22.k tok39 rfl rfl (by decide) rfl rfl (by show _ * 16 ≤ _; (try simp only [List.length_drop, List.length_take, List.length_append, List.length_cons, List.length_nil]); omega) (by (try simp only [List.length_drop, List.length_take, List.length_append, List.length_cons, List.length_nil]); omega) rfl ?_; clear F M a; intro v19 w a M F
              have Ev19 := Els.append Eo E18
              obtain ⟨av19, cv19, rfl, hlev19, hcmv19, hlv19⟩ := M.row_shape (k := 4) rfl
              refine rl_run F (run_assign (F.ev rfl)) rfl ?_; clear F a; intro a F
              refine rl_nil ?_
              refine q_tn ?_
              refine w_reg ?_
              refine rl_run F (run_move (F.ev rfl)) rfl ?_; clear F a; intro a F
              refine rl_run F (run_assign (F.ev rfl)) rfl ?_; clear F a; intro a F
              refine rl_nil ?_
              refine q_bn ?_
              refine q_tn ?_
              replace M := M.perm (perm_front _ 2 _ rfl)
              replace M := M.perm (perm_front _ 2 _ rfl)
              replace M := M.perm (perm_front _ 4 _ rfl)
              change Mem w0 G (.row (.slice (av19) (no + 1) (cv19)) (no + 1) (cso ++ ([.int .u64 (hk5.key), .int .i64 (hk5.v)])) 39 2 :: .blk bm3 [.slice (adm14) (nm14) (cm14), .int .i64 (manym14), .int .i64 (tombsm14)] 93 :: .row (.slice (adm14) (nm14) (cm14)) (nm14) (csm14) 95 3 :: .row (.slice (av17) (1) (cv17)) (1) ([.int .u64 (hk5.key), .int .i64 (hk5.v)]) 39 2 :: .blk b6 [.int .u64 (hk5.key), .int .i64 (hk5.v)] 39 :: L) _ at M
              have hz : oneF ps hk5 1 = 0 := by omega
              rw [if_pos hz] at Km14
              have hnx := pgc_next hpg (by assumption) (by assumption) hlk5 (by assumption) (by omega) hS hz hfu
              rw [hz] at F
              exact ⟨_, (by have := hnx.2.2; omega), (Lib.cut r [10]).2.1, fu - 1, l ++ [hk5], ln + 1, (putF ps hk5.key 0).1, (av19), (no + 1), (cv19), (cso ++ ([.int .u64 (hk5.key), .int .i64 (hk5.v)])), (adm14), (nm14), (cm14), (manym14), (tombsm14), (csm14), (sm14), rfl, F.to ⟨rfl, rfl, rfl, rfl, rfl, trivial⟩, (M.weaken (.cons_cons _ (.cons_cons _ (.cons_cons _ (.cons _ (.cons _ (List.Sublist.refl _))))))), hnx.1, hnx.2.1, hS.nextS hz (by omega), by rw [List.length_append]; simp only [List.length_cons, List.length_nil]; omega, by omega, by simp [hno], Ev19, hnm14, Em14, Km14⟩
    · intro hc
      have h20b := hc; clear hc
      have h20 : r = ([] : List UInt8) := of_decide_eq_true (of_not_f h20b)
      have h20c : (decide (r = ([] : List UInt8))) = true := (of_not_f h20b)
      refine wp_exit ?_
      refine q_te ?_
      refine q_te ?_
      refine q_bh ?_
      refine q_tn ?_
      refine wp_seq ?_
      refine wp_seq ?_
      refine w_reg ?_
      refine rl_run F (run_move (F.ev rfl)) rfl ?_; clear F a; intro a F
      refine rl_run F (run_nei (F.ev rfl) (F.ev rfl)) rfl ?_; clear F a; intro a F
      refine rl_nil ?_
      refine q_tn ?_
      refine w_cond_f F rfl (not_f (decide_eq_true (by decide))) ?_
      refine wp_skip ?_
      refine q_tn ?_
      refine wp_seq ?_
      refine w_reg ?_
      refine rl_run F (run_move (F.ev rfl)) rfl ?_; clear F a; intro a F
      have sh21 := M.row_bound (k := 0) rfl
      refine rl_callS F ent31 rfl rfl (clip_spec M sh21.1 sh21.2) ?_; clear F M a; rintro _ w a M rfl F
      refine rl_run F (run_assign (F.ev rfl)) rfl ?_; clear F a; intro a F
      refine rl_run F (run_assign (F.ev rfl)) rfl ?_; clear F a; intro a F
      refine rl_run F (run_assign (F.ev rfl)) rfl ?_; clear F a; intro a F
      refine rl_nil ?_
      refine q_tn ?_
      refine wp_ret ?_
      refine q_jr ?_
      refine fin3 F rfl rfl rfl rfl ?_
      have hp : parseF s = (l, 0, 0) := pg_end hpg (by assumption)
      obtain ⟨hnz22, Gz22, az22, cz22, hGz22, hez22, Sz22, M⟩ := M.freeze_row mono_rdPair (k := 0) rfl Eo (by decide)
      clear hez22 az22 cz22
      exact ⟨Gz22, hGz22, M.weaken (.cons _ (.cons _ (List.Sublist.refl _))), _, by rw [hp, ← hnz22]; rfl, by have h := Sz22.clip; rw [hnz22] at h; rw [hp]; exact h⟩

end Go.Proofs.YtokeofoemjeleaaDoor
