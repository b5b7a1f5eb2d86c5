/- The walks, part H. -/
import Derived.Test.YtlnehkjmmegkhaaGreatWalkF
namespace Go.Proofs.YtlnehkjmmegkhaaGreat
open Go Go.Y Go.Proofs
set_option linter.unusedSimpArgs false
set_option linter.unusedVariables false
def RuP (x : PT) : Prop := ∀ (w0 w : World) (G : Ghost) (L : List Res) (ta ka : Option Addr) (tc kc : Nat) (kk : Int), Mem w0 G L w → inKind .u8 x.kind → (x.tag.length ≤ 9223372036854775807 ∧ x.key.length ≤ 9223372036854775807 ∧ x.text.length ≤ 9223372036854775807) → RdSl rdSlot 3 G (.slice ta x.as.length tc) x.as → RdSl rdP 6 G (.slice ka x.kids.length kc) x.kids → 1 ≤ kk → kk ≤ 3 →
    Calls Tryz.prog 32 #[.agg #[.int .u8 (x.kind), .string (str (x.tag)), .string (str (x.key)), .slice (ta) (x.as.length) (tc), .string (str (x.text)), .slice (ka) (x.kids.length) (kc)], .int .u8 kk] w (RetS w0 G L fun v => v = .int .i64 (if usesB kk x = true then 1 else 0))
theorem ruses_step {x : PT} (ih : ∀ y ∈ x.kids, RuP y) {w0 w : World} {G : Ghost} {L : List Res} (M : Mem w0 G L w) {ta : Option Addr} {tc : Nat} {ka : Option Addr} {kc : Nat} (hk : inKind .u8 x.kind) (hl : (x.tag.length ≤ 9223372036854775807 ∧ x.key.length ≤ 9223372036854775807 ∧ x.text.length ≤ 9223372036854775807)) (SA : RdSl rdSlot 3 G (.slice ta x.as.length tc) x.as) (SK : RdSl rdP 6 G (.slice ka x.kids.length kc) x.kids) {kk : Int} (hk1 : 1 ≤ kk) (hk3 : kk ≤ 3) : Calls Tryz.prog 32 #[.agg #[.int .u8 (x.kind), .string (str (x.tag)), .string (str (x.key)), .slice (ta) (x.as.length) (tc), .string (str (x.text)), .slice (ka) (x.kids.length) (kc)], .int .u8 kk] w (RetS w0 G L fun v => v = .int .i64 (if usesB kk x = true then 1 else 0)) := by
  refine calls_start (vs := [_, _]) Tryz.func32 rfl (n := 42) rfl rfl ?_
  intro a F
  refine wp_seq <| w_reg <| rl_box F M rfl (cs := [.int .u8 (x.kind), .string (str (x.tag)), .string (str (x.key)), .slice (ta) (x.as.length) (tc), .string (str (x.text)), .slice (ka) (x.kids.length) (kc)]) rfl rfl ?_; clear F M a; intro b1 w a M F
  refine rl_run F (run_assign (F.ev rfl)) rfl ?_; clear F a; intro a F
  refine rl_nil <| q_tn ?_
  iterate 2 (refine wp_seq ?_)
  refine w_reg <| rl_run F (run_fieldAddr tok46.k rfl rfl (F.ev rfl)) rfl ?_; clear F a; intro a F
  refine rl_run F (run_load1 (agf tok5 rfl) (F.ev rfl) (M.cellL (k := 0) rfl rfl)) rfl ?_; clear F a; intro a F
  refine rl_run F (run_move (F.ev rfl)) rfl ?_; clear F a; intro a F
  refine rl_run F (run_addi (F.ev rfl) (F.ev rfl) (in_u8 (by omega) (by omega))) rfl ?_; clear F a; intro a F
  refine rl_run F (run_eqi (F.ev rfl) (F.ev rfl)) rfl ?_; clear F a; intro a F
  refine rl_nil <| q_tn <| w_cond F rfl ?_ ?_
  · intro hc
    have h2b := hc; clear hc
    have h2 : x.kind = kk + 2 := of_decide_eq_true h2b
    refine wp_seq <| w_reg <| rl_run F (run_assign (F.ev rfl)) rfl ?_; clear F a; intro a F
    refine rl_nil <| q_tn <| wp_ret <| q_tr <| fin1 F rfl rfl ?_
    exact ⟨M.weaken (.cons _ (List.Sublist.refl _)), by rw [if_pos (uses_kind (by omega))]⟩
  · intro hc
    have h3b := hc; clear hc
    have h3 : ¬ (x.kind = kk + 2) := of_decide_eq_false h3b
    refine wp_skip <| q_tn ?_
    iterate 2 (refine wp_seq ?_)
    have bK := SK.bound
    have bA := SA.bound
    refine w_reg <| rl_run F (run_assign (F.ev rfl)) rfl ?_; clear F a; intro a F
    refine rl_nil <| q_tn <| wp_block <| w_loopN (fun m a' w' => ∃ (i : Nat), m = x.as.length - i ∧ Fits 42 a' [(1, .int .u8 (kk)), (2, .pointer (some ⟨b1, 0, none⟩)), (5, .int .i64 (((i : Nat) : Int)))] ∧ Mem w0 G (.blk b1 [.int .u8 (x.kind), .string (str (x.tag)), .string (str (x.key)), .slice (ta) (x.as.length) (tc), .string (str (x.text)), .slice (ka) (x.kids.length) (kc)] 46 :: L) w' ∧ (i ≤ x.as.length) ∧ (∀ (m : Nat) (s : SlotD), m < i → x.as[m]? = some s → ¬ s.src = kk)) _ ⟨0, rfl, F.to ⟨rfl, rfl, rfl, trivial⟩, M, Nat.zero_le _, fun m s h => by omega⟩ ?_
    clear F M
    rintro m a w ⟨i, rfl, F, M, hi, hN⟩
    iterate 2 (refine wp_seq ?_)
    refine w_reg <| rl_run F (run_move (F.ev rfl)) rfl ?_; clear F a; intro a F
    refine rl_run F (run_fieldAddr tok46.k rfl rfl (F.ev rfl)) rfl ?_; clear F a; intro a F
    refine rl_run F (run_load1 (agf tok43 rfl) (F.ev rfl) (M.cellL (k := 0) rfl rfl)) rfl ?_; clear F a; intro a F
    refine rl_run F (run_lenSl tok43.k (F.ev rfl)) rfl ?_; clear F a; intro a F
    refine rl_run F (run_lss (F.ev rfl) (F.ev rfl)) rfl ?_; clear F a; intro a F
    refine rl_nil <| q_tn <| w_cond F rfl ?_ ?_
    · intro hc
      have h4b := hc; clear hc
      have h4 : ((i : Nat) : Int) < ((x.as.length : Nat) : Int) := of_decide_eq_true h4b
      refine wp_skip <| q_tn <| wp_seq <| wp_block <| wp_seq <| w_reg <| rl_run F (run_fieldAddr tok46.k rfl rfl (F.ev rfl)) rfl ?_; clear F a; intro a F
      refine rl_run F (run_load1 (agf tok43 rfl) (F.ev rfl) (M.cellL (k := 0) rfl rfl)) rfl ?_; clear F a; intro a F
      refine rl_run F (run_move (F.ev rfl)) rfl ?_; clear F a; intro a F
      obtain ⟨Xe5, hXe5⟩ := get_of_lt (xs := x.as) (i := i) (by omega)
      obtain ⟨be5, oe5, _, Ie5, _, Ae5, ⟨rfl, hn1e5, hk1e5, hv1e5⟩⟩ := SA.at hXe5
      refine rl_run F (run_indexI tok43.k tok76 (F.ev rfl) (F.ev rfl) (by omega) Ie5) rfl ?_; clear F a; intro a F
      refine rl_run F (run_fieldAddr tok76.k rfl rfl (F.ev rfl)) rfl ?_; clear F a; intro a F
      refine rl_run F (run_load1 (agf tok5 rfl) (F.ev rfl) (M.cellA Ae5 1 rfl rfl)) rfl ?_; clear F a; intro a F
      refine rl_run F (run_move (F.ev rfl)) rfl ?_; clear F a; intro a F
      refine rl_run F (run_eqi (F.ev rfl) (F.ev rfl)) rfl ?_; clear F a; intro a F
      refine rl_nil <| q_tn <| w_cond F rfl ?_ ?_
      · intro hc
        have h6b := hc; clear hc
        have h6 : Xe5.src = kk := of_decide_eq_true h6b
        refine wp_seq <| w_reg <| rl_run F (run_assign (F.ev rfl)) rfl ?_; clear F a; intro a F
        refine rl_nil <| q_tn <| wp_ret <| q_br ?_
        iterate 2 (refine q_tr ?_)
        refine q_br <| q_tr <| fin1 F rfl rfl ?_
        exact ⟨M.weaken (.cons _ (List.Sublist.refl _)), by rw [if_pos (uses_slot hXe5 (by omega))]⟩
      · intro hc
        have h7b := hc; clear hc
        have h7 : ¬ (Xe5.src = kk) := of_decide_eq_false h7b
        refine wp_skip <| q_bn <| q_tn <| w_reg <| rl_run F (run_move (F.ev rfl)) rfl ?_; clear F a; intro a F
        refine rl_run F (run_addi (F.ev rfl) (F.ev rfl) (in_i64 (by omega) (by omega))) rfl ?_; clear F a; intro a F
        refine rl_run F (run_assign (F.ev rfl)) rfl ?_; clear F a; intro a F
        refine rl_nil <| q_tn ?_
        exact ⟨_, by omega, i + 1, rfl, F.to ⟨rfl, rfl, rfl, trivial⟩, M, by omega, none_snoc hN hXe5 (by assumption)⟩
    · intro hc
      have h8b := hc; clear hc
      have h8 : ¬ (((i : Nat) : Int) < ((x.as.length : Nat) : Int)) := of_decide_eq_false h8b
      refine wp_exit ?_
      iterate 2 (refine q_te ?_)
      refine q_bh <| q_tn ?_
      iterate 2 (refine wp_seq ?_)
      refine w_reg <| rl_run F (run_assign (F.ev rfl)) rfl ?_; clear F a; intro a F
      refine rl_nil <| q_tn <| wp_block <| w_loopN (fun m a' w' => ∃ (j : Nat), m = x.kids.length - j ∧ Fits 42 a' [(1, .int .u8 (kk)), (2, .pointer (some ⟨b1, 0, none⟩)), (6, .int .i64 (((j : Nat) : Int)))] ∧ Mem w0 G (.blk b1 [.int .u8 (x.kind), .string (str (x.tag)), .string (str (x.key)), .slice (ta) (x.as.length) (tc), .string (str (x.text)), .slice (ka) (x.kids.length) (kc)] 46 :: L) w' ∧ (j ≤ x.kids.length) ∧ (∀ (m : Nat) (c : PT), m < j → x.kids[m]? = some c → ¬ usesB kk c = true)) _ ⟨0, rfl, F.to ⟨rfl, rfl, rfl, trivial⟩, M, Nat.zero_le _, fun m s h => by omega⟩ ?_
      clear F M
      rintro m a w ⟨j, rfl, F, M, hj, hK⟩
      iterate 2 (refine wp_seq ?_)
      refine w_reg <| rl_run F (run_move (F.ev rfl)) rfl ?_; clear F a; intro a F
      refine rl_run F (run_fieldAddr tok46.k rfl rfl (F.ev rfl)) rfl ?_; clear F a; intro a F
      refine rl_run F (run_load1 (agf tok44 rfl) (F.ev rfl) (M.cellL (k := 0) rfl rfl)) rfl ?_; clear F a; intro a F
      refine rl_run F (run_lenSl tok44.k (F.ev rfl)) rfl ?_; clear F a; intro a F
      refine rl_run F (run_lss (F.ev rfl) (F.ev rfl)) rfl ?_; clear F a; intro a F
      refine rl_nil <| q_tn <| w_cond F rfl ?_ ?_
      · intro hc
        have h9b := hc; clear hc
        have h9 : ((j : Nat) : Int) < ((x.kids.length : Nat) : Int) := of_decide_eq_true h9b
        refine wp_skip <| q_tn <| wp_seq <| wp_block <| wp_seq <| w_reg <| rl_run F (run_fieldAddr tok46.k rfl rfl (F.ev rfl)) rfl ?_; clear F a; intro a F
        refine rl_run F (run_load1 (agf tok44 rfl) (F.ev rfl) (M.cellL (k := 0) rfl rfl)) rfl ?_; clear F a; intro a F
        refine rl_run F (run_move (F.ev rfl)) rfl ?_; clear F a; intro a F
        obtain ⟨Xe10, hXe10⟩ := get_of_lt (xs := x.kids) (i := j) (by omega)
        obtain ⟨be10, oe10, _, Ie10, _, Ae10, hTe10⟩ := SK.at hXe10
        obtain ⟨tae10, tce10, kae10, kce10, rfl, hke10, hle10, SAe10, SKe10⟩ := rdT_open hTe10
        refine rl_run F (run_indexI tok44.k tok46 (F.ev rfl) (F.ev rfl) (by omega) Ie10) rfl ?_; clear F a; intro a F
        refine rl_run F (run_loadA tok46 rfl (F.ev rfl) (cs := [.int .u8 (Xe10.kind), .string (str (Xe10.tag)), .string (str (Xe10.key)), .slice (tae10) (Xe10.as.length) (tce10), .string (str (Xe10.text)), .slice (kae10) (Xe10.kids.length) (kce10)]) rfl (M.cellsA Ae10 0 (by omega) rfl)) rfl ?_; clear F a; intro a F
        refine rl_run F (run_move (F.ev rfl)) rfl ?_; clear F a; intro a F
        refine rl_callS F ent32 rfl rfl (ih Xe10 (List.mem_of_getElem? hXe10) _ _ _ _ _ _ _ _ kk M hke10 hle10 SAe10 SKe10 hk1 hk3) ?_; clear F M a; rintro _ w a M rfl F
        refine rl_run F (run_eqi (F.ev rfl) (F.ev rfl)) rfl ?_; clear F a; intro a F
        refine rl_nil <| q_tn <| w_cond F rfl ?_ ?_
        · intro hc
          have h11b := hc; clear hc
          have h11 : (if usesB kk Xe10 = true then (1 : Int) else 0) = 1 := of_decide_eq_true h11b
          refine wp_seq <| w_reg <| rl_run F (run_assign (F.ev rfl)) rfl ?_; clear F a; intro a F
          refine rl_nil <| q_tn <| wp_ret <| q_br ?_
          iterate 2 (refine q_tr ?_)
          refine q_br <| q_tr <| fin1 F rfl rfl ?_
          exact ⟨M.weaken (.cons _ (List.Sublist.refl _)), by rw [if_pos (uses_kid hXe10 (Classical.byContradiction fun h_ => by rw [if_neg h_] at *; omega))]⟩
        · intro hc
          have h12b := hc; clear hc
          have h12 : ¬ ((if usesB kk Xe10 = true then (1 : Int) else 0) = 1) := of_decide_eq_false h12b
          refine wp_skip <| q_bn <| q_tn <| w_reg <| rl_run F (run_move (F.ev rfl)) rfl ?_; clear F a; intro a F
          refine rl_run F (run_addi (F.ev rfl) (F.ev rfl) (in_i64 (by omega) (by omega))) rfl ?_; clear F a; intro a F
          refine rl_run F (run_assign (F.ev rfl)) rfl ?_; clear F a; intro a F
          refine rl_nil <| q_tn ?_
          exact ⟨_, by omega, j + 1, rfl, F.to ⟨rfl, rfl, rfl, trivial⟩, M, by omega, none_snoc hK hXe10 (fun h_ => by rw [if_pos h_] at *; omega)⟩
      · intro hc
        have h13b := hc; clear hc
        have h13 : ¬ (((j : Nat) : Int) < ((x.kids.length : Nat) : Int)) := of_decide_eq_false h13b
        refine wp_exit ?_
        iterate 2 (refine q_te ?_)
        refine q_bh <| q_tn <| wp_seq <| w_reg <| rl_run F (run_assign (F.ev rfl)) rfl ?_; clear F a; intro a F
        refine rl_nil <| q_tn <| wp_ret <| fin1 F rfl rfl ?_
        exact ⟨M.weaken (.cons _ (List.Sublist.refl _)), by rw [uses_none (by omega) (i := i) (by omega) hN (j := j) (by omega) hK]; rfl⟩
theorem ruses_all (x : PT) : RuP x := by
  induction x using Tr.ind with
  | _ x ih => intro w0 w G L ta ka tc kc kk M hk hl SA SK h1 h2; exact ruses_step ih M hk hl SA SK h1 h2
theorem ci1_spec {w0 w : World} {G : Ghost} {L : List Res} (M : Mem w0 G L w) {s : List UInt8} (hs : s.length ≤ 9223372036854775807) : Calls Tryz.prog 68 #[.string (str s)] w (RetS w0 G L fun v => ∃ b : Bool, v = .bool b ∧ (b = true ↔ ¬ Name s)) := by
  refine calls_start (vs := [_]) Tryz.func68 rfl (n := 6) rfl rfl ?_
  intro a F
  refine wp_seq <| w_reg <| rl_run F (run_assign (F.ev rfl)) rfl ?_; clear F a; intro a F
  refine rl_nil <| q_tn <| wp_seq <| w_reg <| rl_run F (run_move (F.ev rfl)) rfl ?_; clear F a; intro a F
  refine rl_callS F ent69 rfl rfl (tnamed_spec (s := s) M (by assumption)) ?_; clear F M a; rintro _ w a M ⟨b1, rfl, hb1⟩ F
  refine rl_run F (run_not (F.ev rfl)) rfl ?_; clear F a; intro a F
  refine rl_run F (run_assign (F.ev rfl)) rfl ?_; clear F a; intro a F
  refine rl_nil <| q_tn <| wp_ret <| fin1 F rfl rfl ?_
  exact ⟨M, (!(b1)), rfl, (by clear F M; grind)⟩
theorem idxs_spec {w0 w : World} {G : Ghost} {L : List Res} (M : Mem w0 G L w) {ad : Option Addr} {cd : Nat} {xs : List (List UInt8)} (S : RdSl rdStr 1 G (.slice ad xs.length cd) xs) : Calls Tryz.prog 96 #[.slice ad xs.length cd, .func (.func 68) #[] #[]] w (RetS w0 G L fun v => ∃ z : Int, v = .int .i64 z ∧ (0 ≤ z ↔ ¬ ∀ s ∈ xs, Name s)) := by
  have bS := S.bound
  refine calls_start (vs := [_, _]) Tryz.func96 rfl (n := 19) rfl rfl ?_
  intro a F
  refine wp_seq <| w_reg <| rl_run F (run_assign (F.ev rfl)) rfl ?_; clear F a; intro a F
  refine rl_nil <| q_tn ?_
  iterate 2 (refine wp_seq ?_)
  refine w_reg <| rl_run F (run_move (F.ev rfl)) rfl ?_; clear F a; intro a F
  refine rl_run F (run_lenSl tok49.k (F.ev rfl)) rfl ?_; clear F a; intro a F
  refine rl_run F (run_move (F.ev rfl)) rfl ?_; clear F a; intro a F
  refine rl_nil <| q_tn <| wp_block <| w_loopN (fun m a' w' => ∃ (i : Nat), m = xs.length - i ∧ Fits 19 a' [(0, .slice (ad) (xs.length) (cd)), (1, .func (.func 68) #[] #[]), (7, .int .i64 (((xs.length : Nat) : Int))), (8, .int .i64 (((i : Nat) : Int)))] ∧ Mem w0 G (L) w' ∧ (i ≤ xs.length) ∧ (∀ (m : Nat) (s : List UInt8), m < i → xs[m]? = some s → Name s)) _ ⟨0, rfl, F.to ⟨rfl, rfl, rfl, rfl, trivial⟩, M, Nat.zero_le _, fun m d h => by omega⟩ ?_
  clear F M
  rintro m a w ⟨i, rfl, F, M, hi, hA⟩
  refine wp_seq <| w_reg <| rl_run F (run_lss (F.ev rfl) (F.ev rfl)) rfl ?_; clear F a; intro a F
  refine rl_nil <| q_tn <| wp_seq <| w_cond F rfl ?_ ?_
  · intro hc
    have h1b := hc; clear hc
    have h1 : ((i : Nat) : Int) < ((xs.length : Nat) : Int) := of_decide_eq_true h1b
    refine wp_skip <| q_tn <| wp_seq <| wp_block <| wp_seq <| w_reg <| rl_run F (run_move (F.ev rfl)) rfl ?_; clear F a; intro a F
    refine rl_run F (run_assign (F.ev rfl)) rfl ?_; clear F a; intro a F
    refine rl_nil <| q_tn <| wp_seq <| w_reg ?_
    iterate 3 (refine rl_run F (run_move (F.ev rfl)) rfl ?_; clear F a; intro a F)
    obtain ⟨Xe2, hXe2⟩ := get_of_lt (xs := xs) (i := i) (by omega)
    obtain ⟨be2, oe2, _, Ie2, _, Ae2, ⟨rfl, hsle2⟩⟩ := S.at hXe2
    refine rl_run F (run_indexI tok49.k tok9 (F.ev rfl) (F.ev rfl) (by omega) Ie2) rfl ?_; clear F a; intro a F
    refine rl_run F (run_load1 (agf tok9 rfl) (F.ev rfl) (M.cellA Ae2 0 (by omega) rfl)) rfl ?_; clear F a; intro a F
    refine rl_callvS F ent68 (caps := []) rfl rfl rfl (ci1_spec (s := Xe2) M (by omega)) ?_; clear F M a; rintro _ w a M ⟨b3, rfl, hb3⟩ F
    refine rl_nil <| q_tn <| w_cond F rfl ?_ ?_
    · intro hc
      have h4b := hc; clear hc
      have h4 : (b3) = true := h4b
      refine wp_seq <| w_reg <| rl_run F (run_move (F.ev rfl)) rfl ?_; clear F a; intro a F
      refine rl_run F (run_assign (F.ev rfl)) rfl ?_; clear F a; intro a F
      refine rl_nil <| q_tn <| wp_ret <| q_br ?_
      iterate 2 (refine q_tr ?_)
      refine q_br <| q_tr <| fin1 F rfl rfl ?_
      exact ⟨M, _, rfl, ⟨fun _ h_ => (hb3.1 (by assumption)) (h_ _ (List.mem_of_getElem? hXe2)), fun _ => by omega⟩⟩
    · intro hc
      have h5b := hc; clear hc
      have h5 : (b3) = false := h5b
      refine wp_skip <| q_bn <| q_tn <| w_reg <| rl_run F (run_addi (F.ev rfl) (F.ev rfl) (in_i64 (by omega) (by omega))) rfl ?_; clear F a; intro a F
      refine rl_run F (run_move (F.ev rfl)) rfl ?_; clear F a; intro a F
      refine rl_nil <| q_tn ?_
      exact ⟨_, by omega, i + 1, rfl, F.to ⟨rfl, rfl, rfl, rfl, trivial⟩, M, by omega, none_snoc hA hXe2 (by clear F M; grind)⟩
  · intro hc
    have h6b := hc; clear hc
    have h6 : ¬ (((i : Nat) : Int) < ((xs.length : Nat) : Int)) := of_decide_eq_false h6b
    refine wp_exit ?_
    iterate 2 (refine q_te ?_)
    refine q_bh <| q_tn <| wp_seq <| w_reg <| rl_run F (run_assign (F.ev rfl)) rfl ?_; clear F a; intro a F
    refine rl_nil <| q_tn <| wp_ret <| fin1 F rfl rfl ?_
    exact ⟨M, _, rfl, ⟨fun h => by omega, fun h => absurd (marks_all hA (by omega)) h⟩⟩
theorem conts_spec {w0 w : World} {G : Ghost} {L : List Res} (M : Mem w0 G L w) {ad : Option Addr} {cd : Nat} {xs : List (List UInt8)} (S : RdSl rdStr 1 G (.slice ad xs.length cd) xs) : Calls Tryz.prog 67 #[.slice ad xs.length cd, .func (.func 68) #[] #[]] w (RetS w0 G L fun v => ∃ b : Bool, v = .bool b ∧ (b = true ↔ ¬ ∀ s ∈ xs, Name s)) := by
  refine calls_start (vs := [_, _]) Tryz.func67 rfl (n := 9) rfl rfl ?_
  intro a F
  refine wp_seq <| w_reg <| rl_run F (run_assign (F.ev rfl)) rfl ?_; clear F a; intro a F
  refine rl_nil <| q_tn <| wp_seq <| w_reg ?_
  iterate 2 (refine rl_run F (run_move (F.ev rfl)) rfl ?_; clear F a; intro a F)
  refine rl_callS F ent96 rfl rfl (idxs_spec (xs := xs) M S) ?_; clear F M a; rintro _ w a M ⟨z1, rfl, hz1⟩ F
  refine rl_run F (run_geq (F.ev rfl) (F.ev rfl)) rfl ?_; clear F a; intro a F
  refine rl_run F (run_assign (F.ev rfl)) rfl ?_; clear F a; intro a F
  refine rl_nil <| q_tn <| wp_ret <| fin1 F rfl rfl ?_
  exact ⟨M, _, rfl, decide_eq_true_iff.trans hz1⟩
theorem checkitem_spec {w0 w : World} {G : Ghost} {L : List Res} (M : Mem w0 G L w) {x : ItemD} {ma : Option Addr} {mc : Nat} (ht : x.text.length ≤ 9223372036854775807) (SM : RdSl rdStr 1 G (.slice ma x.marks.length mc) x.marks) : Calls Tryz.prog 27 #[.agg #[.int .u64 (x.key), .int .u8 (x.typ), .string (str (x.text)), .slice (ma) (x.marks.length) (mc)]] w (RetS w0 G L fun v => v = .int .i64 (itmF x)) := by
  refine calls_start (vs := [_]) Tryz.func27 rfl (n := 23) rfl rfl ?_
  intro a F
  refine wp_seq <| w_reg <| rl_box F M rfl (cs := [.int .u64 (x.key), .int .u8 (x.typ), .string (str (x.text)), .slice (ma) (x.marks.length) (mc)]) rfl rfl ?_; clear F M a; intro b1 w a M F
  refine rl_run F (run_assign (F.ev rfl)) rfl ?_; clear F a; intro a F
  refine rl_nil <| q_tn ?_
  iterate 2 (refine wp_seq ?_)
  refine w_reg <| rl_run F (run_fieldAddr tok51.k rfl rfl (F.ev rfl)) rfl ?_; clear F a; intro a F
  refine rl_run F (run_load1 (agf tok48 rfl) (F.ev rfl) (M.cellL (k := 0) rfl rfl)) rfl ?_; clear F a; intro a F
  refine rl_run F (run_eqi (F.ev rfl) (F.ev rfl)) rfl ?_; clear F a; intro a F
  refine rl_run F (run_move (F.ev rfl)) rfl ?_; clear F a; intro a F
  rcases Bool.eq_false_or_eq_true (decide (x.key = 0)) with hc | hc
  · skip
    have h2b := hc; clear hc
    have h2 : x.key = 0 := of_decide_eq_true h2b
    iterate 4 (refine rl_guard_f F rfl rfl rfl h2b ?_; clear F a; intro a F)
    refine rl_run F (run_pick_t (F.ev rfl) h2b (F.ev rfl)) rfl ?_; clear F a; intro a F
    refine rl_run F (run_move (F.ev rfl)) rfl ?_; clear F a; intro a F
    iterate 4 (refine rl_guard_f F rfl rfl rfl rfl ?_; clear F a; intro a F)
    refine rl_run F (run_pick_t (F.ev rfl) rfl (F.ev rfl)) rfl ?_; clear F a; intro a F
    refine rl_run F (run_move (F.ev rfl)) rfl ?_; clear F a; intro a F
    iterate 3 (refine rl_guard_f F rfl rfl rfl rfl ?_; clear F a; intro a F)
    refine rl_run F (run_pick_t (F.ev rfl) rfl (F.ev rfl)) rfl ?_; clear F a; intro a F
    refine rl_nil <| q_tn <| w_cond_t F rfl rfl ?_
    refine wp_seq <| w_reg <| rl_run F (run_assign (F.ev rfl)) rfl ?_; clear F a; intro a F
    refine rl_nil <| q_tn <| wp_ret <| q_tr <| fin1 F rfl rfl ?_
    exact ⟨M.weaken (.cons _ (List.Sublist.refl _)), by rw [itmF_no (by clear F M; unfold ItemOk; grind)]⟩
  · skip
    have h3b := hc; clear hc
    have h3 : ¬ (x.key = 0) := of_decide_eq_false h3b
    refine rl_guard_t F rfl rfl rfl h3b ?_
    refine rl_run F (run_fieldAddr tok51.k rfl rfl (F.ev rfl)) rfl ?_; clear F a; intro a F
    refine rl_guard_t F rfl rfl rfl h3b ?_
    refine rl_run F (run_load1 (agf tok9 rfl) (F.ev rfl) (M.cellL (k := 0) rfl rfl)) rfl ?_; clear F a; intro a F
    refine rl_guard_t F rfl rfl rfl h3b ?_
    refine rl_callS F ent66 rfl rfl (tplain_spec (s := x.text) M (by omega)) ?_; clear F M a; rintro _ w a M ⟨b4, rfl, hb4⟩ F
    refine rl_guard_t F rfl rfl rfl h3b ?_
    refine rl_run F (run_not (F.ev rfl)) rfl ?_; clear F a; intro a F
    refine rl_run F (run_pick_f (F.ev rfl) h3b (F.ev rfl)) rfl ?_; clear F a; intro a F
    refine rl_run F (run_move (F.ev rfl)) rfl ?_; clear F a; intro a F
    rcases Bool.eq_false_or_eq_true (!(b4)) with hc | hc
    · skip
      have h5b := hc; clear hc
      have h5 : (b4) = false := (of_not_t h5b)
      have h5c : (b4) = false := (of_not_t h5b)
      iterate 4 (refine rl_guard_f F rfl rfl rfl (not_t h5c) ?_; clear F a; intro a F)
      refine rl_run F (run_pick_t (F.ev rfl) (not_t h5c) (F.ev rfl)) rfl ?_; clear F a; intro a F
      refine rl_run F (run_move (F.ev rfl)) rfl ?_; clear F a; intro a F
      iterate 3 (refine rl_guard_f F rfl rfl rfl rfl ?_; clear F a; intro a F)
      refine rl_run F (run_pick_t (F.ev rfl) rfl (F.ev rfl)) rfl ?_; clear F a; intro a F
      refine rl_nil <| q_tn <| w_cond_t F rfl rfl ?_
      refine wp_seq <| w_reg <| rl_run F (run_assign (F.ev rfl)) rfl ?_; clear F a; intro a F
      refine rl_nil <| q_tn <| wp_ret <| q_tr <| fin1 F rfl rfl ?_
      exact ⟨M.weaken (.cons _ (List.Sublist.refl _)), by rw [itmF_no (by clear F M; unfold ItemOk; grind)]⟩
    · skip
      have h6b := hc; clear hc
      have h6 : (b4) = true := (of_not_f h6b)
      have h6c : (b4) = true := (of_not_f h6b)
      refine rl_guard_t F rfl rfl rfl (not_f h6c) ?_
      refine rl_run F (run_fieldAddr tok51.k rfl rfl (F.ev rfl)) rfl ?_; clear F a; intro a F
      refine rl_guard_t F rfl rfl rfl (not_f h6c) ?_
      refine rl_run F (run_load1 (agf tok49 rfl) (F.ev rfl) (M.cellL (k := 0) rfl rfl)) rfl ?_; clear F a; intro a F
      refine rl_guard_t F rfl rfl rfl (not_f h6c) ?_
      refine rl_run F (run_lenSl tok49.k (F.ev rfl)) rfl ?_; clear F a; intro a F
      refine rl_guard_t F rfl rfl rfl (not_f h6c) ?_
      refine rl_run F (run_gtr (F.ev rfl) (F.ev rfl)) rfl ?_; clear F a; intro a F
      refine rl_run F (run_pick_f (F.ev rfl) (not_f h6c) (F.ev rfl)) rfl ?_; clear F a; intro a F
      refine rl_run F (run_move (F.ev rfl)) rfl ?_; clear F a; intro a F
      rcases Bool.eq_false_or_eq_true (decide (8 < ((x.marks.length : Nat) : Int))) with hc | hc
      · skip
        have h7b := hc; clear hc
        have h7 : 8 < ((x.marks.length : Nat) : Int) := of_decide_eq_true h7b
        iterate 3 (refine rl_guard_f F rfl rfl rfl h7b ?_; clear F a; intro a F)
        refine rl_run F (run_pick_t (F.ev rfl) h7b (F.ev rfl)) rfl ?_; clear F a; intro a F
        refine rl_nil <| q_tn <| w_cond_t F rfl rfl ?_
        refine wp_seq <| w_reg <| rl_run F (run_assign (F.ev rfl)) rfl ?_; clear F a; intro a F
        refine rl_nil <| q_tn <| wp_ret <| q_tr <| fin1 F rfl rfl ?_
        exact ⟨M.weaken (.cons _ (List.Sublist.refl _)), by rw [itmF_no (by clear F M; unfold ItemOk; grind)]⟩
      · skip
        have h8b := hc; clear hc
        have h8 : ¬ (8 < ((x.marks.length : Nat) : Int)) := of_decide_eq_false h8b
        refine rl_guard_t F rfl rfl rfl h8b ?_
        refine rl_run F (run_fieldAddr tok51.k rfl rfl (F.ev rfl)) rfl ?_; clear F a; intro a F
        refine rl_guard_t F rfl rfl rfl h8b ?_
        refine rl_run F (run_load1 (agf tok49 rfl) (F.ev rfl) (M.cellL (k := 0) rfl rfl)) rfl ?_; clear F a; intro a F
        refine rl_guard_t F rfl rfl rfl h8b ?_
        refine rl_callS F ent67 rfl rfl (conts_spec (xs := x.marks) M SM) ?_; clear F M a; rintro _ w a M ⟨b9, rfl, hb9⟩ F
        refine rl_run F (run_pick_f (F.ev rfl) h8b (F.ev rfl)) rfl ?_; clear F a; intro a F
        refine rl_nil <| q_tn <| w_cond F rfl ?_ ?_
        · intro hc
          have h10b := hc; clear hc
          have h10 : (b9) = true := h10b
          refine wp_seq <| w_reg <| rl_run F (run_assign (F.ev rfl)) rfl ?_; clear F a; intro a F
          refine rl_nil <| q_tn <| wp_ret <| q_tr <| fin1 F rfl rfl ?_
          exact ⟨M.weaken (.cons _ (List.Sublist.refl _)), by rw [itmF_no (by clear F M; unfold ItemOk; grind)]⟩
        · intro hc
          have h11b := hc; clear hc
          have h11 : (b9) = false := h11b
          refine wp_skip <| q_tn <| wp_seq <| w_reg <| rl_run F (run_assign (F.ev rfl)) rfl ?_; clear F a; intro a F
          refine rl_nil <| q_tn <| wp_ret <| fin1 F rfl rfl ?_
          exact ⟨M.weaken (.cons _ (List.Sublist.refl _)), by rw [itmF_yes (by first | (clear F M; unfold ItemOk; grind) | exact ⟨by omega, by clear F M; grind, by omega, marks_all hA (by omega)⟩)]⟩
end Go.Proofs.YtlnehkjmmegkhaaGreat
