/- The walks, part E. -/
import Derived.Test.YtlnehkjmmegkhaaGreatWalkD
namespace Go.Proofs.YtlnehkjmmegkhaaGreat
open Go Go.Y Go.Proofs
set_option linter.unusedSimpArgs false
set_option linter.unusedVariables false
/-- What the function that is called for each part does: it takes a state further. -/
structure FEff (w0 : World) (ff : FuncId) (caps : List Value) {σ : Type} (Rs : σ → List Res) (stp : σ → PT → σ) : Prop where
  ent : Ent Tryz.prog ff
  run : ∀ {w : World} {G : Ghost} {L : List Res} {nb no : Nat} {s : σ} {x : PT} {ta ka : Option Addr} {tc kc : Nat}, Mem w0 G (Rs s ++ L) w → inKind .u8 x.kind → (x.tag.length ≤ 9223372036854775807 ∧ x.key.length ≤ 9223372036854775807 ∧ x.text.length ≤ 9223372036854775807) → RdSl rdSlot 3 G (.slice ta x.as.length tc) x.as → RdSl rdP 6 G (.slice ka x.kids.length kc) x.kids → At G nb no [.int .u8 (x.kind), .string (str (x.tag)), .string (str (x.key)), .slice (ta) (x.as.length) (tc), .string (str (x.text)), .slice (ka) (x.kids.length) (kc)] → AloneP x →
    Calls Tryz.prog ff (.pointer (some ⟨nb, no, none⟩) :: caps).toArray w (RetL w0 G fun L' v => v = .tuple #[] ∧ L' = Rs (stp s x) ++ L)
def WalkP (w0 : World) (ff : FuncId) (caps : List Value) {σ : Type} (Rs : σ → List Res) (stp : σ → PT → σ) (x : PT) : Prop := ∀ (w : World) (G : Ghost) (L : List Res) (cb fb eb nb no c lev : Nat) (s : σ) (ta ka : Option Addr) (tc kc : Nat), Mem w0 G (.blk cb [.int .i64 ((c : Nat) : Int)] 3 :: .blk fb [.func (.func ff) #[] caps.toArray] 107 :: .blk eb [.func (.func 94) #[] #[.pointer (some ⟨cb, 0, none⟩), .pointer (some ⟨fb, 0, none⟩), .pointer (some ⟨eb, 0, none⟩)]] 133 :: (Rs s ++ L)) w →
    inKind .u8 x.kind → (x.tag.length ≤ 9223372036854775807 ∧ x.key.length ≤ 9223372036854775807 ∧ x.text.length ≤ 9223372036854775807) → RdSl rdSlot 3 G (.slice ta x.as.length tc) x.as → RdSl rdP 6 G (.slice ka x.kids.length kc) x.kids → At G nb no [.int .u8 (x.kind), .string (str (x.tag)), .string (str (x.key)), .slice (ta) (x.as.length) (tc), .string (str (x.text)), .slice (ka) (x.kids.length) (kc)] → c ≤ 64 → 1 ≤ lev → lev ≤ 7 → Calls Tryz.prog 94 #[.pointer (some ⟨nb, no, none⟩), .int .i64 (lev : Int), .pointer (some ⟨cb, 0, none⟩), .pointer (some ⟨fb, 0, none⟩), .pointer (some ⟨eb, 0, none⟩)] w (RetL w0 G fun L' v => ∃ (bb : Bool) (c' : Nat) (s' : σ), v = .bool bb ∧ L' = (.blk cb [.int .i64 ((c' : Nat) : Int)] 3 :: .blk fb [.func (.func ff) #[] caps.toArray] 107 :: .blk eb [.func (.func 94) #[] #[.pointer (some ⟨cb, 0, none⟩), .pointer (some ⟨fb, 0, none⟩), .pointer (some ⟨eb, 0, none⟩)]] 133 :: (Rs s' ++ L)) ∧ (bb = true ↔ Tr.Ok AloneP (7 - lev) x ∧ c + x.size ≤ 64) ∧ (bb = true → c' = c + x.size ∧ s' = visit stp s x))
theorem tw_step {w0 : World} {ff : FuncId} {caps : List Value} {σ : Type} {Rs : σ → List Res} {stp : σ → PT → σ} (hF : FEff w0 ff caps Rs stp) {x : PT} (ih : ∀ y ∈ x.kids, WalkP w0 ff caps Rs stp y) {w : World} {G : Ghost} {L : List Res} {cb fb eb nb no c lev : Nat} {s : σ} {ta ka : Option Addr} {tc kc : Nat} (M : Mem w0 G (.blk cb [.int .i64 ((c : Nat) : Int)] 3 :: .blk fb [.func (.func ff) #[] caps.toArray] 107 :: .blk eb [.func (.func 94) #[] #[.pointer (some ⟨cb, 0, none⟩), .pointer (some ⟨fb, 0, none⟩), .pointer (some ⟨eb, 0, none⟩)]] 133 :: (Rs s ++ L)) w) (hk : inKind .u8 x.kind) (hl : (x.tag.length ≤ 9223372036854775807 ∧ x.key.length ≤ 9223372036854775807 ∧ x.text.length ≤ 9223372036854775807))
    (SA : RdSl rdSlot 3 G (.slice ta x.as.length tc) x.as) (SK : RdSl rdP 6 G (.slice ka x.kids.length kc) x.kids) (A : At G nb no [.int .u8 (x.kind), .string (str (x.tag)), .string (str (x.key)), .slice (ta) (x.as.length) (tc), .string (str (x.text)), .slice (ka) (x.kids.length) (kc)]) (hc : c ≤ 64) (hl1 : 1 ≤ lev) (hl2 : lev ≤ 7) :
    Calls Tryz.prog 94 #[.pointer (some ⟨nb, no, none⟩), .int .i64 (lev : Int), .pointer (some ⟨cb, 0, none⟩), .pointer (some ⟨fb, 0, none⟩), .pointer (some ⟨eb, 0, none⟩)] w (RetL w0 G fun L' v => ∃ (bb : Bool) (c' : Nat) (s' : σ), v = .bool bb ∧ L' = (.blk cb [.int .i64 ((c' : Nat) : Int)] 3 :: .blk fb [.func (.func ff) #[] caps.toArray] 107 :: .blk eb [.func (.func 94) #[] #[.pointer (some ⟨cb, 0, none⟩), .pointer (some ⟨fb, 0, none⟩), .pointer (some ⟨eb, 0, none⟩)]] 133 :: (Rs s' ++ L)) ∧ (bb = true ↔ Tr.Ok AloneP (7 - lev) x ∧ c + x.size ≤ 64) ∧ (bb = true → c' = c + x.size ∧ s' = visit stp s x)) := by
  refine calls_start (vs := [_, _, _, _, _]) Tryz.func94 rfl (n := 45) rfl rfl ?_
  intro a F
  refine wp_seq <| w_reg <| rl_run F (run_assign (F.ev rfl)) rfl ?_; clear F a; intro a F
  refine rl_nil <| q_tn <| wp_seq <| w_reg <| rl_run F (run_load1 (agf tok3 rfl) (F.ev rfl) (M.cellL (k := 0) rfl rfl)) rfl ?_; clear F a; intro a F
  refine rl_run F (run_addi (F.ev rfl) (F.ev rfl) (in_i64 (by omega) (by omega))) rfl ?_; clear F a; intro a F
  refine rl_store1 F M tok3 rfl (k := 0) rfl rfl rfl rfl rfl ?_; clear F M a; intro w a M F
  refine rl_nil <| q_tn ?_
  iterate 2 (refine wp_seq ?_)
  refine w_reg <| rl_run F (run_move (F.ev rfl)) rfl ?_; clear F a; intro a F
  refine rl_run F (run_gtr (F.ev rfl) (F.ev rfl)) rfl ?_; clear F a; intro a F
  refine rl_run F (run_move (F.ev rfl)) rfl ?_; clear F a; intro a F
  rcases Bool.eq_false_or_eq_true (decide (6 < (lev : Int))) with hc | hc
  · skip
    have h1b := hc; clear hc
    have h1 : 6 < (lev : Int) := of_decide_eq_true h1b
    iterate 2 (refine rl_guard_f F rfl rfl rfl h1b ?_; clear F a; intro a F)
    refine rl_run F (run_pick_t (F.ev rfl) h1b (F.ev rfl)) rfl ?_; clear F a; intro a F
    refine rl_run F (run_move (F.ev rfl)) rfl ?_; clear F a; intro a F
    iterate 3 (refine rl_guard_f F rfl rfl rfl rfl ?_; clear F a; intro a F)
    refine rl_run F (run_pick_t (F.ev rfl) rfl (F.ev rfl)) rfl ?_; clear F a; intro a F
    refine rl_nil <| q_tn <| w_cond_t F rfl rfl ?_
    refine wp_seq <| w_reg <| rl_run F (run_assign (F.ev rfl)) rfl ?_; clear F a; intro a F
    refine rl_nil <| q_tn <| wp_ret <| q_tr <| fin1 F rfl rfl ?_
    replace M := M.perm (perm_front _ 2 _ rfl)
    replace M := M.perm (perm_front _ 2 _ rfl)
    replace M := M.perm (perm_front _ 2 _ rfl)
    change Mem w0 G (.blk cb [.int .i64 ((((c : Nat) : Int)) + 1)] 3 :: .blk fb [.func (.func ff) #[] caps.toArray] 107 :: .blk eb [.func (.func 94) #[] #[.pointer (some ⟨cb, 0, none⟩), .pointer (some ⟨fb, 0, none⟩), .pointer (some ⟨eb, 0, none⟩)]] 133 :: (Rs s ++ L)) _ at M
    exact ⟨_, M, false, _, _, rfl, rfl, ⟨fun h_ => (by cases h_), fun h_ => absurd h_ (meas_no0 (by clear F M; grind))⟩, fun h_ => (by cases h_)⟩
  · skip
    have h2b := hc; clear hc
    have h2 : ¬ (6 < (lev : Int)) := of_decide_eq_false h2b
    refine rl_guard_t F rfl rfl rfl h2b ?_
    refine rl_run F (run_load1 (agf tok3 rfl) (F.ev rfl) (M.cellL (k := 0) rfl rfl)) rfl ?_; clear F a; intro a F
    refine rl_guard_t F rfl rfl rfl h2b ?_
    refine rl_run F (run_gtr (F.ev rfl) (F.ev rfl)) rfl ?_; clear F a; intro a F
    refine rl_run F (run_pick_f (F.ev rfl) h2b (F.ev rfl)) rfl ?_; clear F a; intro a F
    refine rl_run F (run_move (F.ev rfl)) rfl ?_; clear F a; intro a F
    rcases Bool.eq_false_or_eq_true (decide (64 < (((c : Nat) : Int)) + 1)) with hc | hc
    · skip
      have h3b := hc; clear hc
      have h3 : 64 < (((c : Nat) : Int)) + 1 := of_decide_eq_true h3b
      iterate 3 (refine rl_guard_f F rfl rfl rfl h3b ?_; clear F a; intro a F)
      refine rl_run F (run_pick_t (F.ev rfl) h3b (F.ev rfl)) rfl ?_; clear F a; intro a F
      refine rl_nil <| q_tn <| w_cond_t F rfl rfl ?_
      refine wp_seq <| w_reg <| rl_run F (run_assign (F.ev rfl)) rfl ?_; clear F a; intro a F
      refine rl_nil <| q_tn <| wp_ret <| q_tr <| fin1 F rfl rfl ?_
      replace M := M.perm (perm_front _ 2 _ rfl)
      replace M := M.perm (perm_front _ 2 _ rfl)
      replace M := M.perm (perm_front _ 2 _ rfl)
      change Mem w0 G (.blk cb [.int .i64 ((((c : Nat) : Int)) + 1)] 3 :: .blk fb [.func (.func ff) #[] caps.toArray] 107 :: .blk eb [.func (.func 94) #[] #[.pointer (some ⟨cb, 0, none⟩), .pointer (some ⟨fb, 0, none⟩), .pointer (some ⟨eb, 0, none⟩)]] 133 :: (Rs s ++ L)) _ at M
      exact ⟨_, M, false, _, _, rfl, rfl, ⟨fun h_ => (by cases h_), fun h_ => absurd h_ (meas_no0 (by clear F M; grind))⟩, fun h_ => (by cases h_)⟩
    · skip
      have h4b := hc; clear hc
      have h4 : ¬ (64 < (((c : Nat) : Int)) + 1) := of_decide_eq_false h4b
      refine rl_guard_t F rfl rfl rfl h4b ?_
      refine rl_run F (run_move (F.ev rfl)) rfl ?_; clear F a; intro a F
      refine rl_guard_t F rfl rfl rfl h4b ?_
      refine rl_callS F ent95 rfl rfl (talone_spec (x := x) M hk hl SA SK A) ?_; clear F M a; rintro _ w a M ⟨b5, rfl, hb5⟩ F
      refine rl_guard_t F rfl rfl rfl h4b ?_
      refine rl_run F (run_not (F.ev rfl)) rfl ?_; clear F a; intro a F
      refine rl_run F (run_pick_f (F.ev rfl) h4b (F.ev rfl)) rfl ?_; clear F a; intro a F
      refine rl_nil <| q_tn <| w_cond F rfl ?_ ?_
      · intro hc
        have h6b := hc; clear hc
        have h6 : (b5) = false := (of_not_t h6b)
        have h6c : (b5) = false := (of_not_t h6b)
        refine wp_seq <| w_reg <| rl_run F (run_assign (F.ev rfl)) rfl ?_; clear F a; intro a F
        refine rl_nil <| q_tn <| wp_ret <| q_tr <| fin1 F rfl rfl ?_
        replace M := M.perm (perm_front _ 2 _ rfl)
        replace M := M.perm (perm_front _ 2 _ rfl)
        replace M := M.perm (perm_front _ 2 _ rfl)
        change Mem w0 G (.blk cb [.int .i64 ((((c : Nat) : Int)) + 1)] 3 :: .blk fb [.func (.func ff) #[] caps.toArray] 107 :: .blk eb [.func (.func 94) #[] #[.pointer (some ⟨cb, 0, none⟩), .pointer (some ⟨fb, 0, none⟩), .pointer (some ⟨eb, 0, none⟩)]] 133 :: (Rs s ++ L)) _ at M
        exact ⟨_, M, false, _, _, rfl, rfl, ⟨fun h_ => (by cases h_), fun h_ => absurd h_ (meas_no0 (by clear F M; grind))⟩, fun h_ => (by cases h_)⟩
      · intro hc
        have h7b := hc; clear hc
        have h7 : (b5) = true := (of_not_f h7b)
        have h7c : (b5) = true := (of_not_f h7b)
        refine wp_skip <| q_tn <| wp_seq ?_
        have hAl : AloneP x := by clear F M; grind
        have hl6 : lev ≤ 6 := by omega
        have hkl := aloneP_len hAl
        refine w_reg <| rl_run F (run_load1 (agf tok107 rfl) (F.ev rfl) (M.cellL (k := 1) rfl rfl)) rfl ?_; clear F a; intro a F
        refine rl_run F (run_move (F.ev rfl)) rfl ?_; clear F a; intro a F
        replace M := M.perm (perm_front _ 2 _ rfl)
        replace M := M.perm (perm_front _ 2 _ rfl)
        replace M := M.perm (perm_front _ 2 _ rfl)
        change Mem w0 G (.blk cb [.int .i64 ((((c : Nat) : Int)) + 1)] 3 :: .blk fb [.func (.func ff) #[] caps.toArray] 107 :: .blk eb [.func (.func 94) #[] #[.pointer (some ⟨cb, 0, none⟩), .pointer (some ⟨fb, 0, none⟩), .pointer (some ⟨eb, 0, none⟩)]] 133 :: (Rs s ++ L)) _ at M
        replace M := M.perm (perm_mid3 _ _)
        refine rl_callvL F hF.ent (caps := caps) rfl rfl rfl (hF.run (s := s) (x := x) M hk hl SA SK A hAl) ?_; clear F M a; rintro _ _ w a M ⟨rfl, rfl⟩ F
        replace M := M.perm (perm_mid3 _ _).symm
        refine rl_nil <| q_tn ?_
        iterate 2 (refine wp_seq ?_)
        refine w_reg <| rl_run F (run_move (F.ev rfl)) rfl ?_; clear F a; intro a F
        refine rl_run F (run_nilCheck (F.ev rfl)) rfl ?_; clear F a; intro a F
        refine rl_run F (run_fieldAddr tok46.k rfl rfl (F.ev rfl)) rfl ?_; clear F a; intro a F
        refine rl_run F (run_load1 (agf tok44 rfl) (F.ev rfl) (M.cellA A 5 rfl rfl)) rfl ?_; clear F a; intro a F
        refine rl_run F (run_lenSl tok44.k (F.ev rfl)) rfl ?_; clear F a; intro a F
        refine rl_run F (run_move (F.ev rfl)) rfl ?_; clear F a; intro a F
        refine rl_nil <| q_tn <| wp_block <| w_loopN (fun m a' w' => ∃ (i : Nat), ∃ (ci : Nat), ∃ (si : σ), m = x.kids.length - i ∧ Fits 45 a' [(0, .pointer (some ⟨nb, no, none⟩)), (1, .int .i64 ((lev : Int))), (2, .pointer (some ⟨cb, 0, none⟩)), (3, .pointer (some ⟨fb, 0, none⟩)), (4, .pointer (some ⟨eb, 0, none⟩)), (28, .slice (ka) (x.kids.length) (kc)), (29, .int .i64 (((x.kids.length : Nat) : Int))), (30, .int .i64 (((i : Nat) : Int)))] ∧ Mem w0 G (.blk cb [.int .i64 (((ci : Nat) : Int))] 3 :: .blk fb [.func (.func ff) #[] caps.toArray] 107 :: .blk eb [.func (.func 94) #[] #[.pointer (some ⟨cb, 0, none⟩), .pointer (some ⟨fb, 0, none⟩), .pointer (some ⟨eb, 0, none⟩)]] 133 :: (Rs si ++ L)) w' ∧ (i ≤ x.kids.length) ∧ (ci = c + 1 + Tr.sizes (x.kids.take i) ∧ ci ≤ 64) ∧ (si = visits stp (stp s x) (x.kids.take i)) ∧ (∀ (m : Nat) (y : PT), m < i → x.kids[m]? = some y → Tr.Ok AloneP (7 - (lev + 1)) y)) _ ⟨0, c + 1, (stp s x), rfl, F.to ⟨rfl, rfl, rfl, rfl, rfl, rfl, rfl, rfl, trivial⟩, M, Nat.zero_le _, ⟨by simp [Tr.sizes], by omega⟩, by simp [visits], fun m y h => by omega⟩ ?_
        clear F M
        rintro m a w ⟨i, ci, si, rfl, F, M, hi, hci, hsi, hO⟩
        refine wp_seq <| w_reg <| rl_run F (run_lss (F.ev rfl) (F.ev rfl)) rfl ?_; clear F a; intro a F
        refine rl_nil <| q_tn <| wp_seq <| w_cond F rfl ?_ ?_
        · intro hc
          have h8b := hc; clear hc
          have h8 : ((i : Nat) : Int) < ((x.kids.length : Nat) : Int) := of_decide_eq_true h8b
          refine wp_skip <| q_tn <| wp_seq <| wp_block <| wp_seq <| w_reg <| rl_run F (run_move (F.ev rfl)) rfl ?_; clear F a; intro a F
          refine rl_run F (run_assign (F.ev rfl)) rfl ?_; clear F a; intro a F
          refine rl_nil <| q_tn <| wp_seq <| w_plan2 [(.pure, 0), (.free, 1), (.free, 2), (.free, 3), (.pure, 4), (.free, 5), (.free, 6), (.free, 7), (.free, 8), (.keep, 9), (.free, 10)] [] (Keep G [.blk eb [.func (.func 94) #[] #[.pointer (some ⟨cb, 0, none⟩), .pointer (some ⟨fb, 0, none⟩), .pointer (some ⟨eb, 0, none⟩)]] 133]) rfl (by kernel_rfl) (fun c a d v w h => by cases d <;> exact h) ((M.drew _).keep (Gle.refl _) (by simp)) ?_
          replace M := M.drew (w.drawn + 1)
          refine pk_pure F (fun w M => run_load1 (agf tok133 rfl) (F.ev rfl) (M.cellL (k := 0) rfl rfl)) rfl ?_; clear F a; intro a F
          refine pk_free F (fun w _ => run_move (F.ev rfl)) rfl ?_; clear F a; intro a F
          refine pk_free F (fun w _ => run_nilCheck (F.ev rfl)) rfl ?_; clear F a; intro a F
          refine pk_free F (fun w _ => run_fieldAddr tok46.k rfl rfl (F.ev rfl)) rfl ?_; clear F a; intro a F
          refine pk_pure F (fun w M => run_load1 (agf tok44 rfl) (F.ev rfl) (M.cellA A 5 rfl rfl)) rfl ?_; clear F a; intro a F
          refine pk_free F (fun w _ => run_move (F.ev rfl)) rfl ?_; clear F a; intro a F
          obtain ⟨Xe9, hXe9⟩ := get_of_lt (xs := x.kids) (i := i) (by omega)
          obtain ⟨be9, oe9, _, Ie9, _, Ae9, hTe9⟩ := SK.at hXe9
          obtain ⟨tae9, tce9, kae9, kce9, rfl, hke9, hle9, SAe9, SKe9⟩ := rdT_open hTe9
          refine pk_free F (fun w _ => run_indexI tok44.k tok46 (F.ev rfl) (F.ev rfl) (by omega) Ie9) rfl ?_; clear F a; intro a F
          refine pk_free F (fun w _ => run_move (F.ev rfl)) rfl ?_; clear F a; intro a F
          refine pk_free F (fun w _ => run_addi (F.ev rfl) (F.ev rfl) (in_i64 (by omega) (by omega))) rfl ?_; clear F a; intro a F
          refine pk_keep ?_ rfl
          replace M := M.perm (perm_front _ 2 _ rfl)
          replace M := M.perm (perm_front _ 2 _ rfl)
          replace M := M.perm (perm_front _ 2 _ rfl)
          change Mem w0 G (.blk cb [.int .i64 (((ci : Nat) : Int))] 3 :: .blk fb [.func (.func ff) #[] caps.toArray] 107 :: .blk eb [.func (.func 94) #[] #[.pointer (some ⟨cb, 0, none⟩), .pointer (some ⟨fb, 0, none⟩), .pointer (some ⟨eb, 0, none⟩)]] 133 :: (Rs si ++ L)) _ at M
          refine rl_callvL F ent94 (caps := [.pointer (some ⟨cb, 0, none⟩), .pointer (some ⟨fb, 0, none⟩), .pointer (some ⟨eb, 0, none⟩)]) rfl rfl rfl (ih Xe9 (List.mem_of_getElem? hXe9) _ _ L _ _ _ _ _ ci (lev + 1) si _ _ _ _ M hke9 hle9 SAe9 SKe9 Ae9 (by omega) (by omega) (by omega)) ?_; clear F M a; rintro _ _ w a M ⟨b10, cb10, sb10, rfl, rfl, hb10, eb10⟩ F
          refine rl_nil <| ⟨Keep G [.blk eb [.func (.func 94) #[] #[.pointer (some ⟨cb, 0, none⟩), .pointer (some ⟨fb, 0, none⟩), .pointer (some ⟨eb, 0, none⟩)]] 133], M.keep (Gle.refl _) (by simp), fun w h => h.mono (Gle.refl _) (by simp), ?_⟩
          refine pk_free F (fun w _ => run_not (F.ev rfl)) rfl ?_; clear F a; intro a F
          refine pk_nil <| q_tn <| w_cond F rfl ?_ ?_
          · intro hc
            have h11b := hc; clear hc
            have h11 : (b10) = false := (of_not_t h11b)
            have h11c : (b10) = false := (of_not_t h11b)
            refine wp_seq <| w_reg <| rl_run F (run_assign (F.ev rfl)) rfl ?_; clear F a; intro a F
            refine rl_nil <| q_tn <| wp_ret <| q_br ?_
            iterate 2 (refine q_tr ?_)
            refine q_br <| q_tr <| fin1 F rfl rfl ?_
            replace M := M.perm (perm_front _ 2 _ rfl)
            replace M := M.perm (perm_front _ 2 _ rfl)
            replace M := M.perm (perm_front _ 2 _ rfl)
            change Mem w0 G (.blk cb [.int .i64 (((cb10 : Nat) : Int))] 3 :: .blk fb [.func (.func ff) #[] caps.toArray] 107 :: .blk eb [.func (.func 94) #[] #[.pointer (some ⟨cb, 0, none⟩), .pointer (some ⟨fb, 0, none⟩), .pointer (some ⟨eb, 0, none⟩)]] 133 :: (Rs sb10 ++ L)) _ at M
            exact ⟨_, M, false, _, _, rfl, rfl, ⟨fun h_ => (by cases h_), fun h_ => absurd h_ (meas_no_kid hXe9 hl6 (by rw [← hci.1]; exact fun h_ => by have h9 := hb10.2 h_; simp_all))⟩, fun h_ => (by cases h_)⟩
          · intro hc
            have h12b := hc; clear hc
            have h12 : (b10) = true := (of_not_f h12b)
            have h12c : (b10) = true := (of_not_f h12b)
            refine wp_skip <| q_bn <| q_tn <| w_reg <| rl_run F (run_addi (F.ev rfl) (F.ev rfl) (in_i64 (by omega) (by omega))) rfl ?_; clear F a; intro a F
            refine rl_run F (run_move (F.ev rfl)) rfl ?_; clear F a; intro a F
            refine rl_nil <| q_tn ?_
            have hq := hb10.1 (by assumption)
            obtain ⟨hc2, hd2⟩ := eb10 (by assumption)
            have hs2 := Tr.sizes_snoc hXe9
            exact ⟨_, by omega, i + 1, cb10, sb10, rfl, F.to ⟨rfl, rfl, rfl, rfl, rfl, rfl, rfl, rfl, trivial⟩, M, by omega, by omega, by rw [visits_snoc stp hXe9, ← hsi]; exact hd2, ok_step hO hXe9 hq.1⟩
        · intro hc
          have h13b := hc; clear hc
          have h13 : ¬ (((i : Nat) : Int) < ((x.kids.length : Nat) : Int)) := of_decide_eq_false h13b
          refine wp_exit ?_
          iterate 2 (refine q_te ?_)
          refine q_bh <| q_tn <| wp_seq <| w_reg <| rl_run F (run_assign (F.ev rfl)) rfl ?_; clear F a; intro a F
          refine rl_nil <| q_tn <| wp_ret <| fin1 F rfl rfl ?_
          replace M := M.perm (perm_front _ 2 _ rfl)
          replace M := M.perm (perm_front _ 2 _ rfl)
          replace M := M.perm (perm_front _ 2 _ rfl)
          change Mem w0 G (.blk cb [.int .i64 (((ci : Nat) : Int))] 3 :: .blk fb [.func (.func ff) #[] caps.toArray] 107 :: .blk eb [.func (.func 94) #[] #[.pointer (some ⟨cb, 0, none⟩), .pointer (some ⟨fb, 0, none⟩), .pointer (some ⟨eb, 0, none⟩)]] 133 :: (Rs si ++ L)) _ at M
          have hf := sizes_full (x := x) (i := i) (by omega)
          rw [List.take_of_length_le (by omega)] at hsi
          exact ⟨_, M, true, _, _, rfl, rfl, ⟨fun _ => ⟨meas_yes hl6 hAl (by omega) hO, by omega⟩, fun _ => rfl⟩, fun _ => ⟨by omega, by rw [visit_eq]; exact hsi⟩⟩
theorem tw_all {w0 : World} {ff : FuncId} {caps : List Value} {σ : Type} {Rs : σ → List Res} {stp : σ → PT → σ} (hF : FEff w0 ff caps Rs stp) (x : PT) : WalkP w0 ff caps Rs stp x := by
  induction x using Tr.ind with
  | _ x ih => intro w G L cb fb eb nb no c lev s ta ka tc kc M hk hl SA SK A hc hl1 hl2; exact tw_step hF ih M hk hl SA SK A hc hl1 hl2
theorem twalk_spec {w0 : World} {ff : FuncId} {caps : List Value} {σ : Type} {Rs : σ → List Res} {stp : σ → PT → σ} (hF : FEff w0 ff caps Rs stp) {x : PT} {w : World} {G : Ghost} {L : List Res} {nb no : Nat} {s : σ} {ta ka : Option Addr} {tc kc : Nat} (M : Mem w0 G (Rs s ++ L) w) (hk : inKind .u8 x.kind) (hl : (x.tag.length ≤ 9223372036854775807 ∧ x.key.length ≤ 9223372036854775807 ∧ x.text.length ≤ 9223372036854775807))
    (SA : RdSl rdSlot 3 G (.slice ta x.as.length tc) x.as) (SK : RdSl rdP 6 G (.slice ka x.kids.length kc) x.kids) (A : At G nb no [.int .u8 (x.kind), .string (str (x.tag)), .string (str (x.key)), .slice (ta) (x.as.length) (tc), .string (str (x.text)), .slice (ka) (x.kids.length) (kc)]) :
    Calls Tryz.prog 64 #[.pointer (some ⟨nb, no, none⟩), .func (.func ff) #[] caps.toArray] w (RetL w0 G fun L' v => ∃ (k : Nat) (s' : σ), v = .int .i64 (k : Int) ∧ L' = (Rs s' ++ L) ∧ k = cntP x ∧ (ValidP x → s' = visit stp s x)) := by
  refine calls_start (vs := [_, _]) Tryz.func64 rfl (n := 18) rfl rfl ?_
  intro a F
  refine wp_seq <| w_reg <| rl_box F M rfl (cs := [.func (.func ff) #[] caps.toArray]) rfl rfl ?_; clear F M a; intro b1 w a M F
  refine rl_run F (run_assign (F.ev rfl)) rfl ?_; clear F a; intro a F
  refine rl_nil <| q_tn ?_
  iterate 2 (refine wp_seq ?_)
  refine w_reg <| rl_run F (run_move (F.ev rfl)) rfl ?_; clear F a; intro a F
  refine rl_run F (run_nilCheck (F.ev rfl)) rfl ?_; clear F a; intro a F
  refine rl_run F (run_fieldAddr tok46.k rfl rfl (F.ev rfl)) rfl ?_; clear F a; intro a F
  refine rl_run F (run_load1 (agf tok5 rfl) (F.ev rfl) (M.cellA A 0 rfl rfl)) rfl ?_; clear F a; intro a F
  refine rl_run F (run_nei (F.ev rfl) (F.ev rfl)) rfl ?_; clear F a; intro a F
  refine rl_nil <| q_tn <| w_cond F rfl ?_ ?_
  · intro hc
    have h2b := hc; clear hc
    have h2 : ¬ (x.kind = 1) := of_decide_eq_false (of_not_t h2b)
    have h2c : (decide (x.kind = 1)) = false := (of_not_t h2b)
    refine wp_seq <| w_reg <| rl_run F (run_assign (F.ev rfl)) rfl ?_; clear F a; intro a F
    refine rl_nil <| q_tn <| wp_ret <| q_tr <| fin1 F rfl rfl ?_
    have hV : ¬ ValidP x := fun h_ => by have := h_.1; omega
    exact ⟨_, M.weaken (.cons _ (List.Sublist.refl _)), 0, s, rfl, rfl, (cntP_no hV).symm, fun h_ => absurd h_ hV⟩
  · intro hc
    have h3b := hc; clear hc
    have h3 : x.kind = 1 := of_decide_eq_true (of_not_f h3b)
    have h3c : (decide (x.kind = 1)) = true := (of_not_f h3b)
    refine wp_skip <| q_tn <| wp_seq <| w_reg <| rl_alloc F M tok3 rfl rfl ?_; clear F M a; intro b4 w a M F
    refine rl_store1 F M tok3 rfl (k := 0) rfl rfl rfl rfl rfl ?_; clear F M a; intro w a M F
    refine rl_nil <| q_tn <| wp_seq <| w_reg <| rl_alloc F M tok133 rfl rfl ?_; clear F M a; intro b6 w a M F
    refine rl_nil <| q_tn <| wp_seq <| w_reg <| rl_run F (run_makeFunc (vs := #[.pointer (some ⟨b4, 0, none⟩), .pointer (some ⟨b1, 0, none⟩), .pointer (some ⟨b6, 0, none⟩)]) (by simp only [List.map_toArray, List.map_cons, List.map_nil, F.ev (x := .tmp 5) rfl, F.ev (x := .tmp 3) rfl, F.ev (x := .tmp 6) rfl])) rfl ?_; clear F a; intro a F
    refine rl_store1 F M tok133 rfl (k := 0) rfl rfl rfl rfl rfl ?_; clear F M a; intro w a M F
    refine rl_nil <| q_tn ?_
    iterate 2 (refine wp_seq ?_)
    refine w_reg <| rl_run F (run_load1 (agf tok133 rfl) (F.ev rfl) (M.cellL (k := 0) rfl rfl)) rfl ?_; clear F a; intro a F
    refine rl_run F (run_move (F.ev rfl)) rfl ?_; clear F a; intro a F
    replace M := M.perm (perm_front _ 2 _ rfl)
    replace M := M.perm (perm_front _ 2 _ rfl)
    change Mem w0 G (.blk b4 [.int .i64 (0)] 3 :: .blk b1 [.func (.func ff) #[] caps.toArray] 107 :: .blk b6 [.func (.func 94) #[] #[.pointer (some ⟨b4, 0, none⟩), .pointer (some ⟨b1, 0, none⟩), .pointer (some ⟨b6, 0, none⟩)]] 133 :: (Rs s ++ L)) _ at M
    refine rl_callvL F ent94 (caps := [.pointer (some ⟨b4, 0, none⟩), .pointer (some ⟨b1, 0, none⟩), .pointer (some ⟨b6, 0, none⟩)]) rfl rfl rfl (tw_all hF x _ _ L _ _ _ _ _ 0 1 s _ _ _ _ M hk hl SA SK A (by omega) (by omega) (by omega)) ?_; clear F M a; rintro _ _ w a M ⟨b8, cb8, sb8, rfl, rfl, hb8, eb8⟩ F
    refine rl_run F (run_not (F.ev rfl)) rfl ?_; clear F a; intro a F
    refine rl_nil <| q_tn <| w_cond F rfl ?_ ?_
    · intro hc
      have h9b := hc; clear hc
      have h9 : (b8) = false := (of_not_t h9b)
      have h9c : (b8) = false := (of_not_t h9b)
      refine wp_seq <| w_reg <| rl_run F (run_assign (F.ev rfl)) rfl ?_; clear F a; intro a F
      refine rl_nil <| q_tn <| wp_ret <| q_tr <| fin1 F rfl rfl ?_
      have hV : ¬ ValidP x := fun h_ => by have h9 := hb8.2 ⟨h_.2.1, by have := h_.2.2; omega⟩; simp_all
      exact ⟨_, M.weaken (.cons _ (.cons _ (.cons _ (List.Sublist.refl _)))), 0, _, rfl, rfl, (cntP_no hV).symm, fun h_ => absurd h_ hV⟩
    · intro hc
      have h10b := hc; clear hc
      have h10 : (b8) = true := (of_not_f h10b)
      have h10c : (b8) = true := (of_not_f h10b)
      refine wp_skip <| q_tn <| wp_seq <| w_reg <| rl_run F (run_load1 (agf tok3 rfl) (F.ev rfl) (M.cellL (k := 0) rfl rfl)) rfl ?_; clear F a; intro a F
      refine rl_run F (run_assign (F.ev rfl)) rfl ?_; clear F a; intro a F
      refine rl_nil <| q_tn <| wp_ret <| fin1 F rfl rfl ?_
      have hq := hb8.1 (by assumption)
      have hV : ValidP x := ⟨by omega, hq.1, by omega⟩
      obtain ⟨hc2, hd2⟩ := eb8 (by assumption)
      exact ⟨_, M.weaken (.cons _ (.cons _ (.cons _ (List.Sublist.refl _)))), _, _, rfl, rfl, by rw [cntP_yes hV]; omega, fun _ => hd2⟩
theorem tcnt1_spec {w0 w : World} {G : Ghost} {L : List Res} (M : Mem w0 G L w) {v : Value} : Calls Tryz.prog 73 #[v] w (RetL w0 G fun L' v => v = .tuple #[] ∧ L' = L) := by
  refine calls_start (vs := [_]) Tryz.func73 rfl (n := 2) rfl rfl ?_
  intro a F
  refine wp_skip <| fin0n F rfl ?_
  exact ⟨_, M, rfl, rfl⟩
theorem feff_count {w0 : World} : FEff w0 73 [] (fun _ : Unit => []) (fun _ _ => ()) := ⟨ent73, fun M _ _ _ _ _ _ => tcnt1_spec M⟩
theorem tcount_ret {w0 w : World} {G : Ghost} {L : List Res} (M : Mem w0 G L w) {x : PT} {ta : Option Addr} {tc : Nat} {ka : Option Addr} {kc : Nat} (hk : inKind .u8 x.kind) (hl : (x.tag.length ≤ 9223372036854775807 ∧ x.key.length ≤ 9223372036854775807 ∧ x.text.length ≤ 9223372036854775807)) (SA : RdSl rdSlot 3 G (.slice ta x.as.length tc) x.as) (SK : RdSl rdP 6 G (.slice ka x.kids.length kc) x.kids) : Calls Tryz.prog 35 #[.agg #[.int .u8 (x.kind), .string (str (x.tag)), .string (str (x.key)), .slice (ta) (x.as.length) (tc), .string (str (x.text)), .slice (ka) (x.kids.length) (kc)]] w (Ret w0 G L fun _ v => v = .int .i64 (((cntP x : Nat) : Int))) := by
  refine calls_start (vs := [_]) Tryz.func35 rfl (n := 4) rfl rfl ?_
  intro a F
  refine wp_seq <| w_reg <| rl_box F M rfl (cs := [.int .u8 (x.kind), .string (str (x.tag)), .string (str (x.key)), .slice (ta) (x.as.length) (tc), .string (str (x.text)), .slice (ka) (x.kids.length) (kc)]) rfl rfl ?_; clear F M a; intro b1 w a M F
  refine rl_run F (run_assign (F.ev rfl)) rfl ?_; clear F a; intro a F
  refine rl_nil <| q_tn <| wp_seq ?_
  obtain ⟨Gq2, hGq2, hbq2, M⟩ := M.freeze (k := 0) rfl
  have Aq2 : At Gq2 b1 0 [.int .u8 (x.kind), .string (str (x.tag)), .string (str (x.key)), .slice (ta) (x.as.length) (tc), .string (str (x.text)), .slice (ka) (x.kids.length) (kc)] := At.of_cells hbq2
  clear hbq2
  replace SA := SA.mono mono_rdSlot hGq2
  replace SK := SK.mono mono_rdP hGq2
  change Mem w0 Gq2 (L) _ at M
  refine w_reg ?_
  change Mem w0 Gq2 (L) _ at M
  refine rl_callL F ent64 rfl rfl (twalk_spec feff_count (x := x) (s := ()) (L := L) M hk hl SA SK Aq2) ?_; clear F M a; rintro _ _ w a M ⟨k3, sk3, rfl, hLk3, hk3, ek3⟩ F
  rw [hLk3] at M; clear hLk3
  replace M : Mem w0 Gq2 (L) _ := M
  refine rl_run F (run_assign (F.ev rfl)) rfl ?_; clear F a; intro a F
  refine rl_nil <| q_tn <| wp_ret <| fin1 F rfl rfl ?_
  exact ⟨_, hGq2, M.weaken (List.Sublist.refl _), by rw [hk3]⟩
theorem tcount_spec {w0 w : World} {G : Ghost} {L : List Res} (M : Mem w0 G L w) {x : PT} {ta : Option Addr} {tc : Nat} {ka : Option Addr} {kc : Nat} (hk : inKind .u8 x.kind) (hl : (x.tag.length ≤ 9223372036854775807 ∧ x.key.length ≤ 9223372036854775807 ∧ x.text.length ≤ 9223372036854775807)) (SA : RdSl rdSlot 3 G (.slice ta x.as.length tc) x.as) (SK : RdSl rdP 6 G (.slice ka x.kids.length kc) x.kids) : Calls Tryz.prog 35 #[.agg #[.int .u8 (x.kind), .string (str (x.tag)), .string (str (x.key)), .slice (ta) (x.as.length) (tc), .string (str (x.text)), .slice (ka) (x.kids.length) (kc)]] w (RetS w0 G L fun v => v = .int .i64 (((cntP x : Nat) : Int))) := Ret.plain M (tcount_ret M hk hl SA SK)
theorem tcheck_spec {w0 w : World} {G : Ghost} {L : List Res} (M : Mem w0 G L w) {x : PT} {ta : Option Addr} {tc : Nat} {ka : Option Addr} {kc : Nat} (hk : inKind .u8 x.kind) (hl : (x.tag.length ≤ 9223372036854775807 ∧ x.key.length ≤ 9223372036854775807 ∧ x.text.length ≤ 9223372036854775807)) (SA : RdSl rdSlot 3 G (.slice ta x.as.length tc) x.as) (SK : RdSl rdP 6 G (.slice ka x.kids.length kc) x.kids) : Calls Tryz.prog 26 #[.agg #[.int .u8 (x.kind), .string (str (x.tag)), .string (str (x.key)), .slice (ta) (x.as.length) (tc), .string (str (x.text)), .slice (ka) (x.kids.length) (kc)]] w (RetS w0 G L fun v => v = .int .i64 (chkP x)) := by
  refine calls_start (vs := [_]) Tryz.func26 rfl (n := 6) rfl rfl ?_
  intro a F
  refine wp_seq <| w_reg <| rl_box F M rfl (cs := [.int .u8 (x.kind), .string (str (x.tag)), .string (str (x.key)), .slice (ta) (x.as.length) (tc), .string (str (x.text)), .slice (ka) (x.kids.length) (kc)]) rfl rfl ?_; clear F M a; intro b1 w a M F
  refine rl_run F (run_assign (F.ev rfl)) rfl ?_; clear F a; intro a F
  refine rl_nil <| q_tn ?_
  iterate 2 (refine wp_seq ?_)
  refine w_reg <| rl_run F (run_loadA tok46 rfl (F.ev rfl) (cs := [.int .u8 (x.kind), .string (str (x.tag)), .string (str (x.key)), .slice (ta) (x.as.length) (tc), .string (str (x.text)), .slice (ka) (x.kids.length) (kc)]) rfl (M.cellsL (k := 0) rfl rfl)) rfl ?_; clear F a; intro a F
  refine rl_callS F ent35 rfl rfl (tcount_spec (x := x) M hk hl SA SK) ?_; clear F M a; rintro _ w a M rfl F
  refine rl_run F (run_eqi (F.ev rfl) (F.ev rfl)) rfl ?_; clear F a; intro a F
  refine rl_nil <| q_tn <| w_cond F rfl ?_ ?_
  · intro hc
    have h2b := hc; clear hc
    have h2 : ((cntP x : Nat) : Int) = 0 := of_decide_eq_true h2b
    refine wp_seq <| w_reg <| rl_run F (run_assign (F.ev rfl)) rfl ?_; clear F a; intro a F
    refine rl_nil <| q_tn <| wp_ret <| q_tr <| fin1 F rfl rfl ?_
    exact ⟨M.weaken (.cons _ (List.Sublist.refl _)), by rw [chkP_no fun h_ => by have := cntP_pos.2 h_; omega]⟩
  · intro hc
    have h3b := hc; clear hc
    have h3 : ¬ (((cntP x : Nat) : Int) = 0) := of_decide_eq_false h3b
    refine wp_skip <| q_tn <| wp_seq <| w_reg <| rl_run F (run_assign (F.ev rfl)) rfl ?_; clear F a; intro a F
    refine rl_nil <| q_tn <| wp_ret <| fin1 F rfl rfl ?_
    exact ⟨M.weaken (.cons _ (List.Sublist.refl _)), by rw [chkP_yes (cntP_pos.1 (by omega))]⟩
end Go.Proofs.YtlnehkjmmegkhaaGreat
