/- The walks, part C. -/
import Derived.Test.YtlnehkjmmegkhaaGreatWalkB
namespace Go.Proofs.YtlnehkjmmegkhaaGreat
open Go Go.Y Go.Proofs
set_option linter.unusedSimpArgs false
set_option linter.unusedVariables false
def MeasP (x : NT) : Prop := ∀ (w0 w : World) (G : Ghost) (L : List Res) (cb db wb nb no c d lev : Nat) (ta ka : Option Addr) (tc kc : Nat), Mem w0 G (.blk cb [.int .i64 ((c : Nat) : Int)] 3 :: .blk db [.int .i64 ((d : Nat) : Int)] 3 :: .blk wb [.func (.func 87) #[] #[.pointer (some ⟨cb, 0, none⟩), .pointer (some ⟨db, 0, none⟩), .pointer (some ⟨wb, 0, none⟩)]] 127 :: L) w → inKind .u8 x.kind → (x.tag.length ≤ 9223372036854775807 ∧ x.key.length ≤ 9223372036854775807 ∧ x.text.length ≤ 9223372036854775807) →
  RdSl rdAttr 2 G (.slice ta x.as.length tc) x.as → RdSl rdN 6 G (.slice ka x.kids.length kc) x.kids → At G nb no [.int .u8 (x.kind), .string (str (x.tag)), .string (str (x.key)), .slice (ta) (x.as.length) (tc), .string (str (x.text)), .slice (ka) (x.kids.length) (kc)] → c ≤ 64 → d ≤ 7 → 1 ≤ lev → lev ≤ 7 →
  Calls Tryz.prog 87 #[.pointer (some ⟨nb, no, none⟩), .int .i64 (lev : Int), .pointer (some ⟨cb, 0, none⟩), .pointer (some ⟨db, 0, none⟩), .pointer (some ⟨wb, 0, none⟩)] w
   (RetL w0 G fun L' v => ∃ (bb : Bool) (c' d' : Nat), v = .bool bb ∧ L' = (.blk cb [.int .i64 ((c' : Nat) : Int)] 3 :: .blk db [.int .i64 ((d' : Nat) : Int)] 3 :: .blk wb [.func (.func 87) #[] #[.pointer (some ⟨cb, 0, none⟩), .pointer (some ⟨db, 0, none⟩), .pointer (some ⟨wb, 0, none⟩)]] 127 :: L) ∧ (bb = true ↔ Tr.Ok Alone (7 - lev) x ∧ c + x.size ≤ 64) ∧ (bb = true → c' = c + x.size ∧ d' = max d (lev + x.depth - 1)))
theorem meas_step {x : NT} (ih : ∀ y ∈ x.kids, MeasP y) {w0 w : World} {G : Ghost} {L : List Res} {cb db wb nb no c d lev : Nat} {ta ka : Option Addr} {tc kc : Nat} (M : Mem w0 G (.blk cb [.int .i64 ((c : Nat) : Int)] 3 :: .blk db [.int .i64 ((d : Nat) : Int)] 3 :: .blk wb [.func (.func 87) #[] #[.pointer (some ⟨cb, 0, none⟩), .pointer (some ⟨db, 0, none⟩), .pointer (some ⟨wb, 0, none⟩)]] 127 :: L) w) (hk : inKind .u8 x.kind) (hl : (x.tag.length ≤ 9223372036854775807 ∧ x.key.length ≤ 9223372036854775807 ∧ x.text.length ≤ 9223372036854775807))
  (SA : RdSl rdAttr 2 G (.slice ta x.as.length tc) x.as) (SK : RdSl rdN 6 G (.slice ka x.kids.length kc) x.kids) (A : At G nb no [.int .u8 (x.kind), .string (str (x.tag)), .string (str (x.key)), .slice (ta) (x.as.length) (tc), .string (str (x.text)), .slice (ka) (x.kids.length) (kc)]) (hc : c ≤ 64) (hd : d ≤ 7) (hl1 : 1 ≤ lev) (hl2 : lev ≤ 7) :
  Calls Tryz.prog 87 #[.pointer (some ⟨nb, no, none⟩), .int .i64 (lev : Int), .pointer (some ⟨cb, 0, none⟩), .pointer (some ⟨db, 0, none⟩), .pointer (some ⟨wb, 0, none⟩)] w
   (RetL w0 G fun L' v => ∃ (bb : Bool) (c' d' : Nat), v = .bool bb ∧ L' = (.blk cb [.int .i64 ((c' : Nat) : Int)] 3 :: .blk db [.int .i64 ((d' : Nat) : Int)] 3 :: .blk wb [.func (.func 87) #[] #[.pointer (some ⟨cb, 0, none⟩), .pointer (some ⟨db, 0, none⟩), .pointer (some ⟨wb, 0, none⟩)]] 127 :: L) ∧ (bb = true ↔ Tr.Ok Alone (7 - lev) x ∧ c + x.size ≤ 64) ∧ (bb = true → c' = c + x.size ∧ d' = max d (lev + x.depth - 1))) := by
 refine calls_start (vs := [_, _, _, _, _]) Tryz.func87 rfl (n := 45) rfl rfl ?_
 intro a F
 refine wp_seq <| w_reg <| rl_run F (run_assign (F.ev rfl)) rfl ?_; clear F a; intro a F
 refine rl_nil <| q_tn <| wp_seq <| w_reg <| rl_run F (run_load1 (agf tok3 rfl) (F.ev rfl) (M.cellL (k := 0) rfl rfl)) rfl ?_; clear F a; intro a F
 refine rl_run F (run_addi (F.ev rfl) (F.ev rfl) (in_i64 (by omega) (by omega))) rfl ?_; clear F a; intro a F
 refine rl_store1 F M tok3 rfl (k := 0) rfl rfl rfl rfl rfl ?_; clear F M a; intro w a M F
 refine rl_nil <| q_tn <| wp_seq <| w_reg <| rl_run F (run_load1 (agf tok3 rfl) (F.ev rfl) (M.cellL (k := 1) rfl rfl)) rfl ?_; clear F a; intro a F
 refine rl_run F (run_move (F.ev rfl)) rfl ?_; clear F a; intro a F
 refine rl_run F (run_max2N (b := d) (c := lev) (F.ev rfl) (F.ev rfl)) rfl ?_; clear F a; intro a F
 refine rl_store1 F M tok3 rfl (k := 1) rfl rfl rfl rfl rfl ?_; clear F M a; intro w a M F
 refine rl_nil <| q_tn ?_
 iterate 2 (refine wp_seq ?_)
 refine w_reg <| rl_run F (run_move (F.ev rfl)) rfl ?_; clear F a; intro a F
 refine rl_run F (run_gtr (F.ev rfl) (F.ev rfl)) rfl ?_; clear F a; intro a F
 refine rl_run F (run_move (F.ev rfl)) rfl ?_; clear F a; intro a F
 rcases Bool.eq_false_or_eq_true (decide (6 < (lev : Int))) with hc | hc
 ·skip
  have h1b := hc; clear hc
  have h1 : 6 < (lev : Int) := of_decide_eq_true h1b
  iterate 2 (refine rl_guard_f F rfl rfl rfl h1b ?_; clear F a; intro a F)
  refine rl_run F (run_pick_t (F.ev rfl) h1b (F.ev rfl)) rfl ?_; clear F a; intro a F
  refine rl_run F (run_move (F.ev rfl)) rfl ?_; clear F a; intro a F
  iterate 3 (refine rl_guard_f F rfl rfl rfl rfl ?_; clear F a; intro a F)
  refine rl_run F (run_pick_t (F.ev rfl) rfl (F.ev rfl)) rfl ?_; clear F a; intro a F
  refine rl_nil <| q_tn <| w_cond_t F rfl rfl ?_
  refine wp_seq <| w_reg <| rl_run F (run_assign (F.ev rfl)) rfl ?_; clear F a; intro a F
  refine rl_nil <| q_tn <| wp_ret <| q_tr <| fin1 F rfl rfl ?_
  replace M := M.perm (perm_front _ 2 _ rfl)
  replace M := M.perm (perm_front _ 2 _ rfl)
  replace M := M.perm (perm_front _ 2 _ rfl)
  change Mem w0 G (.blk cb [.int .i64 ((((c : Nat) : Int)) + 1)] 3 :: .blk db [.int .i64 (((max d lev : Nat) : Int))] 3 :: _ :: L) _ at M
  exact ⟨_, M, false, _, _, rfl, rfl, ⟨fun h_ => (by cases h_), fun h_ => absurd h_ (meas_no0 (by clear F M; grind))⟩, fun h_ => (by cases h_)⟩
 ·skip
  have h2b := hc; clear hc
  have h2 : ¬ (6 < (lev : Int)) := of_decide_eq_false h2b
  refine rl_guard_t F rfl rfl rfl h2b ?_
  refine rl_run F (run_load1 (agf tok3 rfl) (F.ev rfl) (M.cellL (k := 0) rfl rfl)) rfl ?_; clear F a; intro a F
  refine rl_guard_t F rfl rfl rfl h2b ?_
  refine rl_run F (run_gtr (F.ev rfl) (F.ev rfl)) rfl ?_; clear F a; intro a F
  refine rl_run F (run_pick_f (F.ev rfl) h2b (F.ev rfl)) rfl ?_; clear F a; intro a F
  refine rl_run F (run_move (F.ev rfl)) rfl ?_; clear F a; intro a F
  rcases Bool.eq_false_or_eq_true (decide (64 < (((c : Nat) : Int)) + 1)) with hc | hc
  ·skip
   have h3b := hc; clear hc
   have h3 : 64 < (((c : Nat) : Int)) + 1 := of_decide_eq_true h3b
   iterate 3 (refine rl_guard_f F rfl rfl rfl h3b ?_; clear F a; intro a F)
   refine rl_run F (run_pick_t (F.ev rfl) h3b (F.ev rfl)) rfl ?_; clear F a; intro a F
   refine rl_nil <| q_tn <| w_cond_t F rfl rfl ?_
   refine wp_seq <| w_reg <| rl_run F (run_assign (F.ev rfl)) rfl ?_; clear F a; intro a F
   refine rl_nil <| q_tn <| wp_ret <| q_tr <| fin1 F rfl rfl ?_
   replace M := M.perm (perm_front _ 2 _ rfl)
   replace M := M.perm (perm_front _ 2 _ rfl)
   replace M := M.perm (perm_front _ 2 _ rfl)
   change Mem w0 G (.blk cb [.int .i64 ((((c : Nat) : Int)) + 1)] 3 :: .blk db [.int .i64 (((max d lev : Nat) : Int))] 3 :: _ :: L) _ at M
   exact ⟨_, M, false, _, _, rfl, rfl, ⟨fun h_ => (by cases h_), fun h_ => absurd h_ (meas_no0 (by clear F M; grind))⟩, fun h_ => (by cases h_)⟩
  ·skip
   have h4b := hc; clear hc
   have h4 : ¬ (64 < (((c : Nat) : Int)) + 1) := of_decide_eq_false h4b
   refine rl_guard_t F rfl rfl rfl h4b ?_
   refine rl_run F (run_move (F.ev rfl)) rfl ?_; clear F a; intro a F
   refine rl_guard_t F rfl rfl rfl h4b ?_
   refine rl_callS F ent88 rfl rfl (alone_spec (x := x) M hk hl SA SK A) ?_; clear F M a; rintro _ w a M ⟨b5, rfl, hb5⟩ F
   refine rl_guard_t F rfl rfl rfl h4b ?_
   refine rl_run F (run_not (F.ev rfl)) rfl ?_; clear F a; intro a F
   refine rl_run F (run_pick_f (F.ev rfl) h4b (F.ev rfl)) rfl ?_; clear F a; intro a F
   refine rl_nil <| q_tn <| w_cond F rfl ?_ ?_
   ·intro hc
    have h6b := hc; clear hc
    have h6 : (b5) = false := (of_not_t h6b)
    have h6c : (b5) = false := (of_not_t h6b)
    refine wp_seq <| w_reg <| rl_run F (run_assign (F.ev rfl)) rfl ?_; clear F a; intro a F
    refine rl_nil <| q_tn <| wp_ret <| q_tr <| fin1 F rfl rfl ?_
    replace M := M.perm (perm_front _ 2 _ rfl)
    replace M := M.perm (perm_front _ 2 _ rfl)
    replace M := M.perm (perm_front _ 2 _ rfl)
    change Mem w0 G (.blk cb [.int .i64 ((((c : Nat) : Int)) + 1)] 3 :: .blk db [.int .i64 (((max d lev : Nat) : Int))] 3 :: _ :: L) _ at M
    exact ⟨_, M, false, _, _, rfl, rfl, ⟨fun h_ => (by cases h_), fun h_ => absurd h_ (meas_no0 (by clear F M; grind))⟩, fun h_ => (by cases h_)⟩
   ·intro hc
    have h7b := hc; clear hc
    have h7 : (b5) = true := (of_not_f h7b)
    have h7c : (b5) = true := (of_not_f h7b)
    refine wp_skip <| q_tn ?_
    iterate 2 (refine wp_seq ?_)
    have hAl : Alone x := by clear F M; grind
    have hl6 : lev ≤ 6 := by omega
    have hkl := alone_len hAl
    refine w_reg <| rl_run F (run_move (F.ev rfl)) rfl ?_; clear F a; intro a F
    refine rl_run F (run_nilCheck (F.ev rfl)) rfl ?_; clear F a; intro a F
    refine rl_run F (run_fieldAddr tok30.k rfl rfl (F.ev rfl)) rfl ?_; clear F a; intro a F
    refine rl_run F (run_load1 (agf tok28 rfl) (F.ev rfl) (M.cellA A 5 rfl rfl)) rfl ?_; clear F a; intro a F
    refine rl_run F (run_lenSl tok28.k (F.ev rfl)) rfl ?_; clear F a; intro a F
    refine rl_run F (run_move (F.ev rfl)) rfl ?_; clear F a; intro a F
    refine rl_nil <| q_tn <| wp_block <| w_loopN (fun m a' w' => ∃ (i : Nat), ∃ (ci : Nat), ∃ (di : Nat), m = x.kids.length - i ∧ Fits 45 a' [(0, .pointer (some ⟨nb, no, none⟩)), (1, .int .i64 ((lev : Int))), (2, .pointer (some ⟨cb, 0, none⟩)), (3, .pointer (some ⟨db, 0, none⟩)), (4, .pointer (some ⟨wb, 0, none⟩)), (28, .slice (ka) (x.kids.length) (kc)), (29, .int .i64 (((x.kids.length : Nat) : Int))), (30, .int .i64 (((i : Nat) : Int)))] ∧ Mem w0 G (.blk cb [.int .i64 (((ci : Nat) : Int))] 3 :: .blk db [.int .i64 (((di : Nat) : Int))] 3 :: .blk wb [.func (.func 87) #[] #[.pointer (some ⟨cb, 0, none⟩), .pointer (some ⟨db, 0, none⟩), .pointer (some ⟨wb, 0, none⟩)]] 127 :: L) w' ∧ (i ≤ x.kids.length) ∧ (ci = c + 1 + Tr.sizes (x.kids.take i) ∧ ci ≤ 64) ∧ (di = max d (lev + Tr.depths (x.kids.take i))) ∧ (di ≤ 7) ∧ (∀ (m : Nat) (y : NT), m < i → x.kids[m]? = some y → Tr.Ok Alone (7 - (lev + 1)) y)) _ ⟨0, c + 1, max d lev, rfl, F.to ⟨rfl, rfl, rfl, rfl, rfl, rfl, rfl, rfl, trivial⟩, M, Nat.zero_le _, ⟨by simp [Tr.sizes], by omega⟩, by simp only [List.take_zero, Tr.depths]; omega, by omega, fun m y h => by omega⟩ ?_
    clear F M
    rintro m a w ⟨i, ci, di, rfl, F, M, hi, hci, hdi, hd7, hO⟩
    refine wp_seq <| w_reg <| rl_run F (run_lss (F.ev rfl) (F.ev rfl)) rfl ?_; clear F a; intro a F
    refine rl_nil <| q_tn <| wp_seq <| w_cond F rfl ?_ ?_
    ·intro hc
     have h8b := hc; clear hc
     have h8 : ((i : Nat) : Int) < ((x.kids.length : Nat) : Int) := of_decide_eq_true h8b
     refine wp_skip <| q_tn <| wp_seq <| wp_block <| wp_seq <| w_reg <| rl_run F (run_move (F.ev rfl)) rfl ?_; clear F a; intro a F
     refine rl_run F (run_assign (F.ev rfl)) rfl ?_; clear F a; intro a F
     refine rl_nil <| q_tn <| wp_seq <| w_plan2 [(.pure, 0), (.free, 1), (.free, 2), (.free, 3), (.pure, 4), (.free, 5), (.free, 6), (.free, 7), (.free, 8), (.keep, 9), (.free, 10)] [] (Keep G [.blk wb [.func (.func 87) #[] #[.pointer (some ⟨cb, 0, none⟩), .pointer (some ⟨db, 0, none⟩), .pointer (some ⟨wb, 0, none⟩)]] 127]) rfl (by kernel_rfl) (fun c a d v w h => by cases d <;> exact h) ((M.drew _).keep (Gle.refl _) (by simp)) ?_
     replace M := M.drew (w.drawn + 1)
     refine pk_pure F (fun w M => run_load1 (agf tok127 rfl) (F.ev rfl) (M.cellL (k := 0) rfl rfl)) rfl ?_; clear F a; intro a F
     refine pk_free F (fun w _ => run_move (F.ev rfl)) rfl ?_; clear F a; intro a F
     refine pk_free F (fun w _ => run_nilCheck (F.ev rfl)) rfl ?_; clear F a; intro a F
     refine pk_free F (fun w _ => run_fieldAddr tok30.k rfl rfl (F.ev rfl)) rfl ?_; clear F a; intro a F
     refine pk_pure F (fun w M => run_load1 (agf tok28 rfl) (F.ev rfl) (M.cellA A 5 rfl rfl)) rfl ?_; clear F a; intro a F
     refine pk_free F (fun w _ => run_move (F.ev rfl)) rfl ?_; clear F a; intro a F
     obtain ⟨Xe9, hXe9⟩ := get_of_lt (xs := x.kids) (i := i) (by omega)
     obtain ⟨be9, oe9, _, Ie9, _, Ae9, hTe9⟩ := SK.at hXe9
     obtain ⟨tae9, tce9, kae9, kce9, rfl, hke9, hle9, SAe9, SKe9⟩ := rdT_open hTe9
     refine pk_free F (fun w _ => run_indexI tok28.k tok30 (F.ev rfl) (F.ev rfl) (by omega) Ie9) rfl ?_; clear F a; intro a F
     refine pk_free F (fun w _ => run_move (F.ev rfl)) rfl ?_; clear F a; intro a F
     refine pk_free F (fun w _ => run_addi (F.ev rfl) (F.ev rfl) (in_i64 (by omega) (by omega))) rfl ?_; clear F a; intro a F
     refine pk_keep ?_ rfl
     replace M := M.perm (perm_front _ 2 _ rfl)
     replace M := M.perm (perm_front _ 2 _ rfl)
     replace M := M.perm (perm_front _ 2 _ rfl)
     change Mem w0 G (_ :: _ :: _ :: L) _ at M
     refine rl_callvL F ent87 (caps := [.pointer (some ⟨cb, 0, none⟩), .pointer (some ⟨db, 0, none⟩), .pointer (some ⟨wb, 0, none⟩)]) rfl rfl rfl (ih Xe9 (List.mem_of_getElem? hXe9) _ _ _ _ _ _ _ _ _ ci di (lev + 1) _ _ _ _ M hke9 hle9 SAe9 SKe9 Ae9 (by omega) (by omega) (by omega) (by omega)) ?_; clear F M a; rintro _ _ w a M ⟨b10, cb10, db10, rfl, rfl, hb10, eb10⟩ F
     refine rl_nil <| ⟨Keep G [.blk wb [.func (.func 87) #[] #[.pointer (some ⟨cb, 0, none⟩), .pointer (some ⟨db, 0, none⟩), .pointer (some ⟨wb, 0, none⟩)]] 127], M.keep (Gle.refl _) (by simp), fun w h => h.mono (Gle.refl _) (by simp), ?_⟩
     refine pk_free F (fun w _ => run_not (F.ev rfl)) rfl ?_; clear F a; intro a F
     refine pk_nil <| q_tn <| w_cond F rfl ?_ ?_
     ·intro hc
      have h11b := hc; clear hc
      have h11 : (b10) = false := (of_not_t h11b)
      have h11c : (b10) = false := (of_not_t h11b)
      refine wp_seq <| w_reg <| rl_run F (run_assign (F.ev rfl)) rfl ?_; clear F a; intro a F
      refine rl_nil <| q_tn <| wp_ret <| q_br ?_
      iterate 2 (refine q_tr ?_)
      refine q_br <| q_tr <| fin1 F rfl rfl ?_
      replace M := M.perm (perm_front _ 2 _ rfl)
      replace M := M.perm (perm_front _ 2 _ rfl)
      replace M := M.perm (perm_front _ 2 _ rfl)
      change Mem w0 G (_ :: _ :: _ :: L) _ at M
      exact ⟨_, M, false, _, _, rfl, rfl, ⟨fun h_ => (by cases h_), fun h_ => absurd h_ (meas_no_kid hXe9 hl6 (by rw [← hci.1]; exact fun h_ => by have h9 := hb10.2 h_; simp_all))⟩, fun h_ => (by cases h_)⟩
     ·intro hc
      have h12b := hc; clear hc
      have h12 : (b10) = true := (of_not_f h12b)
      have h12c : (b10) = true := (of_not_f h12b)
      refine wp_skip <| q_bn <| q_tn <| w_reg <| rl_run F (run_addi (F.ev rfl) (F.ev rfl) (in_i64 (by omega) (by omega))) rfl ?_; clear F a; intro a F
      refine rl_run F (run_move (F.ev rfl)) rfl ?_; clear F a; intro a F
      refine rl_nil <| q_tn ?_
      have hq := hb10.1 (by assumption)
      obtain ⟨hc2, hd2⟩ := eb10 (by assumption)
      have hs2 := Tr.sizes_snoc hXe9
      have hp2 := Tr.depths_snoc hXe9
      have hps := hq.1.depth
      exact ⟨_, by omega, i + 1, cb10, db10, rfl, F.to ⟨rfl, rfl, rfl, rfl, rfl, rfl, rfl, rfl, trivial⟩, M, by omega, by omega, by omega, by omega, ok_step hO hXe9 hq.1⟩
    ·intro hc
     have h13b := hc; clear hc
     have h13 : ¬ (((i : Nat) : Int) < ((x.kids.length : Nat) : Int)) := of_decide_eq_false h13b
     refine wp_exit ?_
     iterate 2 (refine q_te ?_)
     refine q_bh <| q_tn <| wp_seq <| w_reg <| rl_run F (run_assign (F.ev rfl)) rfl ?_; clear F a; intro a F
     refine rl_nil <| q_tn <| wp_ret <| fin1 F rfl rfl ?_
     replace M := M.perm (perm_front _ 2 _ rfl)
     replace M := M.perm (perm_front _ 2 _ rfl)
     replace M := M.perm (perm_front _ 2 _ rfl)
     change Mem w0 G (_ :: _ :: _ :: L) _ at M
     have hf := sizes_full (x := x) (i := i) (by omega)
     have hg := depths_full (x := x) (i := i) (by omega)
     exact ⟨_, M, true, _, _, rfl, rfl, ⟨fun _ => ⟨meas_yes hl6 hAl (by omega) hO, by omega⟩, fun _ => rfl⟩, fun _ => ⟨by omega, by omega⟩⟩
theorem meas_all (x : NT) : MeasP x := by
 induction x using Tr.ind with
 | _ x ih => intro w0 w G L cb db wb nb no c d lev ta ka tc kc M hk hl SA SK A hc hd hl1 hl2; exact meas_step ih M hk hl SA SK A hc hd hl1 hl2
theorem measure_ret {w0 w : World} {G : Ghost} {L : List Res} (M : Mem w0 G L w) {x : NT} {ta : Option Addr} {tc : Nat} {ka : Option Addr} {kc : Nat} (hk : inKind .u8 x.kind) (hl : (x.tag.length ≤ 9223372036854775807 ∧ x.key.length ≤ 9223372036854775807 ∧ x.text.length ≤ 9223372036854775807)) (SA : RdSl rdAttr 2 G (.slice ta x.as.length tc) x.as) (SK : RdSl rdN 6 G (.slice ka x.kids.length kc) x.kids) : Calls Tryz.prog 57 #[.agg #[.int .u8 (x.kind), .string (str (x.tag)), .string (str (x.key)), .slice (ta) (x.as.length) (tc), .string (str (x.text)), .slice (ka) (x.kids.length) (kc)]] w (Ret w0 G L fun _ v => v = .tuple #[.int .i64 ((cntF x : Nat) : Int), .int .i64 ((depF x : Nat) : Int)]) := by
 refine calls_start (vs := [_]) Tryz.func57 rfl (n := 11) rfl rfl ?_
 intro a F
 refine wp_seq <| w_reg <| rl_box F M rfl (cs := [.int .u8 (x.kind), .string (str (x.tag)), .string (str (x.key)), .slice (ta) (x.as.length) (tc), .string (str (x.text)), .slice (ka) (x.kids.length) (kc)]) rfl rfl ?_; clear F M a; intro b1 w a M F
 refine rl_alloc F M tok3 rfl rfl ?_; clear F M a; intro b2 w a M F
 refine rl_alloc F M tok3 rfl rfl ?_; clear F M a; intro b4 w a M F
 refine rl_nil <| q_tn <| wp_seq <| w_reg <| rl_alloc F M tok127 rfl rfl ?_; clear F M a; intro b6 w a M F
 refine rl_nil <| q_tn <| wp_seq <| w_reg <| rl_run F (run_makeFunc (vs := #[.pointer (some ⟨b2, 0, none⟩), .pointer (some ⟨b4, 0, none⟩), .pointer (some ⟨b6, 0, none⟩)]) (by simp only [List.map_toArray, List.map_cons, List.map_nil, F.ev (x := .tmp 2) rfl, F.ev (x := .tmp 3) rfl, F.ev (x := .tmp 4) rfl])) rfl ?_; clear F a; intro a F
 refine rl_store1 F M tok127 rfl (k := 0) rfl rfl rfl rfl rfl ?_; clear F M a; intro w a M F
 refine rl_nil <| q_tn ?_
 iterate 2 (refine wp_seq ?_)
 obtain ⟨Gq8, hGq8, hbq8, M⟩ := M.freeze (k := 3) rfl
 have Aq8 : At Gq8 b1 0 [.int .u8 (x.kind), .string (str (x.tag)), .string (str (x.key)), .slice (ta) (x.as.length) (tc), .string (str (x.text)), .slice (ka) (x.kids.length) (kc)] := At.of_cells hbq8
 clear hbq8
 replace SA := SA.mono mono_rdAttr hGq8
 replace SK := SK.mono mono_rdN hGq8
 change Mem w0 Gq8 (.blk b6 [.func (.func 87) #[] #[.pointer (some ⟨b2, 0, none⟩), .pointer (some ⟨b4, 0, none⟩), .pointer (some ⟨b6, 0, none⟩)]] 127 :: .blk b4 [.int .i64 (0)] 3 :: .blk b2 [.int .i64 (0)] 3 :: L) _ at M
 refine w_reg <| rl_run F (run_load1 (agf tok127 rfl) (F.ev rfl) (M.cellL (k := 0) rfl rfl)) rfl ?_; clear F a; intro a F
 replace M := M.perm (perm_front _ 1 _ rfl)
 replace M := M.perm (perm_front _ 2 _ rfl)
 change Mem w0 Gq8 (_ :: _ :: .blk b6 [.func (.func 87) #[] #[.pointer (some ⟨b2, 0, none⟩), .pointer (some ⟨b4, 0, none⟩), .pointer (some ⟨b6, 0, none⟩)]] 127 :: L) _ at M
 refine rl_callvL F ent87 (caps := [.pointer (some ⟨b2, 0, none⟩), .pointer (some ⟨b4, 0, none⟩), .pointer (some ⟨b6, 0, none⟩)]) rfl rfl rfl (meas_all x _ _ _ _ _ _ _ _ _ 0 0 1 _ _ _ _ M hk hl SA SK Aq8 (by omega) (by omega) (by omega) (by omega)) ?_; clear F M a; rintro _ _ w a M ⟨b9, cb9, db9, rfl, rfl, hb9, eb9⟩ F
 refine rl_run F (run_not (F.ev rfl)) rfl ?_; clear F a; intro a F
 refine rl_nil <| q_tn <| w_cond F rfl ?_ ?_
 ·intro hc
  have h10b := hc; clear hc
  have h10 : (b9) = false := (of_not_t h10b)
  have h10c : (b9) = false := (of_not_t h10b)
  refine wp_seq <| w_reg <| rl_store1 F M tok3 rfl (k := 0) rfl rfl rfl rfl rfl ?_; clear F M a; intro w a M F
  refine rl_store1 F M tok3 rfl (k := 1) rfl rfl rfl rfl rfl ?_; clear F M a; intro w a M F
  refine rl_nil <| q_tn <| wp_ret <| q_tr <| fin_cc F M (k1 := 0) (k2 := 1) rfl rfl rfl (agf tok3 rfl) (agf tok3 rfl) rfl rfl ?_
  have hV : ¬ Valid x := fun h_ => by have h9 := hb9.2 ⟨h_.1, by have := h_.2; omega⟩; simp_all
  exact ⟨_, hGq8, (M.weaken (.cons _ (.cons _ (.cons _ (List.Sublist.refl _))))), by rw [cntF_no hV, depF_no hV]; rfl⟩
 ·intro hc
  have h11b := hc; clear hc
  have h11 : (b9) = true := (of_not_f h11b)
  have h11c : (b9) = true := (of_not_f h11b)
  refine wp_skip <| q_tn <| wp_seq <| w_plan2 [(.pure, 0), (.pure, 1), (.keep, 2), (.keep, 3)] [] (Keep Gq8 [.blk b2 [.int .i64 (((cb9 : Nat) : Int))] 3, .blk b4 [.int .i64 (((db9 : Nat) : Int))] 3, .blk b6 [.func (.func 87) #[] #[.pointer (some ⟨b2, 0, none⟩), .pointer (some ⟨b4, 0, none⟩), .pointer (some ⟨b6, 0, none⟩)]] 127]) rfl (by kernel_rfl) (fun c a d v w h => by cases d <;> exact h) ((M.drew _).keep (Gle.refl _) (by simp)) ?_
  replace M := M.drew (w.drawn + 1)
  refine pk_pure F (fun w M => run_load1 (agf tok3 rfl) (F.ev rfl) (M.cellL (k := 0) rfl rfl)) rfl ?_; clear F a; intro a F
  refine pk_pure F (fun w M => run_load1 (agf tok3 rfl) (F.ev rfl) (M.cellL (k := 1) rfl rfl)) rfl ?_; clear F a; intro a F
  refine pk_keep ?_ rfl
  refine rl_store1 F M tok3 rfl (k := 0) rfl rfl rfl rfl rfl ?_; clear F M a; intro w a M F
  refine rl_nil <| ⟨Keep Gq8 [.blk b2 [.int .i64 (((cb9 : Nat) : Int))] 3, .blk b4 [.int .i64 (((db9 : Nat) : Int))] 3, .blk b6 [.func (.func 87) #[] #[.pointer (some ⟨b2, 0, none⟩), .pointer (some ⟨b4, 0, none⟩), .pointer (some ⟨b6, 0, none⟩)]] 127], M.keep (Gle.refl _) (by simp), fun w h => h.mono (Gle.refl _) (by simp), ?_⟩
  refine pk_keep ?_ rfl
  refine rl_store1 F M tok3 rfl (k := 1) rfl rfl rfl rfl rfl ?_; clear F M a; intro w a M F
  refine rl_nil <| ⟨Keep Gq8 [.blk b2 [.int .i64 (((cb9 : Nat) : Int))] 3, .blk b4 [.int .i64 (((db9 : Nat) : Int))] 3, .blk b6 [.func (.func 87) #[] #[.pointer (some ⟨b2, 0, none⟩), .pointer (some ⟨b4, 0, none⟩), .pointer (some ⟨b6, 0, none⟩)]] 127], M.keep (Gle.refl _) (by simp), fun w h => h.mono (Gle.refl _) (by simp), ?_⟩
  refine pk_nil <| q_tn <| wp_ret <| fin_cc F M (k1 := 0) (k2 := 1) rfl rfl rfl (agf tok3 rfl) (agf tok3 rfl) rfl rfl ?_
  have hq := hb9.1 (by assumption)
  have hV : Valid x := ⟨hq.1, by omega⟩
  obtain ⟨hc2, hd2⟩ := eb9 (by assumption)
  have hp1 := Tr.depth_eq x
  exact ⟨_, hGq8, (M.weaken (.cons _ (.cons _ (.cons _ (List.Sublist.refl _))))), by rw [cntF_yes hV, depF_yes hV, show x.size = cb9 by omega, show x.depth = db9 by omega]⟩
theorem measure_spec {w0 w : World} {G : Ghost} {L : List Res} (M : Mem w0 G L w) {x : NT} {ta : Option Addr} {tc : Nat} {ka : Option Addr} {kc : Nat} (hk : inKind .u8 x.kind) (hl : (x.tag.length ≤ 9223372036854775807 ∧ x.key.length ≤ 9223372036854775807 ∧ x.text.length ≤ 9223372036854775807)) (SA : RdSl rdAttr 2 G (.slice ta x.as.length tc) x.as) (SK : RdSl rdN 6 G (.slice ka x.kids.length kc) x.kids) : Calls Tryz.prog 57 #[.agg #[.int .u8 (x.kind), .string (str (x.tag)), .string (str (x.key)), .slice (ta) (x.as.length) (tc), .string (str (x.text)), .slice (ka) (x.kids.length) (kc)]] w (RetS w0 G L fun v => v = .tuple #[.int .i64 ((cntF x : Nat) : Int), .int .i64 ((depF x : Nat) : Int)]) := Ret.plain M (measure_ret M hk hl SA SK)
theorem ncount_spec {w0 w : World} {G : Ghost} {L : List Res} (M : Mem w0 G L w) {x : NT} {ta : Option Addr} {tc : Nat} {ka : Option Addr} {kc : Nat} (hk : inKind .u8 x.kind) (hl : (x.tag.length ≤ 9223372036854775807 ∧ x.key.length ≤ 9223372036854775807 ∧ x.text.length ≤ 9223372036854775807)) (SA : RdSl rdAttr 2 G (.slice ta x.as.length tc) x.as) (SK : RdSl rdN 6 G (.slice ka x.kids.length kc) x.kids) : Calls Tryz.prog 17 #[.agg #[.int .u8 (x.kind), .string (str (x.tag)), .string (str (x.key)), .slice (ta) (x.as.length) (tc), .string (str (x.text)), .slice (ka) (x.kids.length) (kc)]] w (RetS w0 G L fun v => v = .int .i64 (((cntF x : Nat) : Int))) := by
 refine calls_start (vs := [_]) Tryz.func17 rfl (n := 11) rfl rfl ?_
 intro a F
 refine wp_seq <| w_reg <| rl_box F M rfl (cs := [.int .u8 (x.kind), .string (str (x.tag)), .string (str (x.key)), .slice (ta) (x.as.length) (tc), .string (str (x.text)), .slice (ka) (x.kids.length) (kc)]) rfl rfl ?_; clear F M a; intro b1 w a M F
 refine rl_run F (run_assign (F.ev rfl)) rfl ?_; clear F a; intro a F
 refine rl_nil <| q_tn <| wp_seq <| w_reg <| rl_run F (run_loadA tok30 rfl (F.ev rfl) (cs := [.int .u8 (x.kind), .string (str (x.tag)), .string (str (x.key)), .slice (ta) (x.as.length) (tc), .string (str (x.text)), .slice (ka) (x.kids.length) (kc)]) rfl (M.cellsL (k := 0) rfl rfl)) rfl ?_; clear F a; intro a F
 refine rl_callS F ent57 rfl rfl (measure_spec (x := x) M hk hl SA SK) ?_; clear F M a; rintro _ w a M rfl F
 refine rl_run F (run_move (F.ev rfl)) rfl ?_; clear F a; intro a F
 refine rl_run F (run_extract (v := .int .i64 (((cntF x : Nat) : Int))) (F.ev rfl) rfl) rfl ?_; clear F a; intro a F
 refine rl_run F (run_extract (v := .int .i64 (((depF x : Nat) : Int))) (F.ev rfl) rfl) rfl ?_; clear F a; intro a F
 iterate 2 (refine rl_run F (run_assign (F.ev rfl)) rfl ?_; clear F a; intro a F)
 refine rl_nil <| q_tn <| wp_seq <| w_reg <| rl_run F (run_move (F.ev rfl)) rfl ?_; clear F a; intro a F
 refine rl_run F (run_assign (F.ev rfl)) rfl ?_; clear F a; intro a F
 refine rl_nil <| q_tn <| wp_ret <| fin1 F rfl rfl ?_
 exact ⟨M.weaken (.cons _ (List.Sublist.refl _)), rfl⟩
theorem ndepth_spec {w0 w : World} {G : Ghost} {L : List Res} (M : Mem w0 G L w) {x : NT} {ta : Option Addr} {tc : Nat} {ka : Option Addr} {kc : Nat} (hk : inKind .u8 x.kind) (hl : (x.tag.length ≤ 9223372036854775807 ∧ x.key.length ≤ 9223372036854775807 ∧ x.text.length ≤ 9223372036854775807)) (SA : RdSl rdAttr 2 G (.slice ta x.as.length tc) x.as) (SK : RdSl rdN 6 G (.slice ka x.kids.length kc) x.kids) : Calls Tryz.prog 46 #[.agg #[.int .u8 (x.kind), .string (str (x.tag)), .string (str (x.key)), .slice (ta) (x.as.length) (tc), .string (str (x.text)), .slice (ka) (x.kids.length) (kc)]] w (RetS w0 G L fun v => v = .int .i64 (((depF x : Nat) : Int))) := by
 refine calls_start (vs := [_]) Tryz.func46 rfl (n := 11) rfl rfl ?_
 intro a F
 refine wp_seq <| w_reg <| rl_box F M rfl (cs := [.int .u8 (x.kind), .string (str (x.tag)), .string (str (x.key)), .slice (ta) (x.as.length) (tc), .string (str (x.text)), .slice (ka) (x.kids.length) (kc)]) rfl rfl ?_; clear F M a; intro b1 w a M F
 refine rl_run F (run_assign (F.ev rfl)) rfl ?_; clear F a; intro a F
 refine rl_nil <| q_tn <| wp_seq <| w_reg <| rl_run F (run_loadA tok30 rfl (F.ev rfl) (cs := [.int .u8 (x.kind), .string (str (x.tag)), .string (str (x.key)), .slice (ta) (x.as.length) (tc), .string (str (x.text)), .slice (ka) (x.kids.length) (kc)]) rfl (M.cellsL (k := 0) rfl rfl)) rfl ?_; clear F a; intro a F
 refine rl_callS F ent57 rfl rfl (measure_spec (x := x) M hk hl SA SK) ?_; clear F M a; rintro _ w a M rfl F
 refine rl_run F (run_move (F.ev rfl)) rfl ?_; clear F a; intro a F
 refine rl_run F (run_extract (v := .int .i64 (((cntF x : Nat) : Int))) (F.ev rfl) rfl) rfl ?_; clear F a; intro a F
 refine rl_run F (run_extract (v := .int .i64 (((depF x : Nat) : Int))) (F.ev rfl) rfl) rfl ?_; clear F a; intro a F
 iterate 2 (refine rl_run F (run_assign (F.ev rfl)) rfl ?_; clear F a; intro a F)
 refine rl_nil <| q_tn <| wp_seq <| w_reg <| rl_run F (run_move (F.ev rfl)) rfl ?_; clear F a; intro a F
 refine rl_run F (run_assign (F.ev rfl)) rfl ?_; clear F a; intro a F
 refine rl_nil <| q_tn <| wp_ret <| fin1 F rfl rfl ?_
 exact ⟨M.weaken (.cons _ (List.Sublist.refl _)), rfl⟩
theorem ncheck_spec {w0 w : World} {G : Ghost} {L : List Res} (M : Mem w0 G L w) {x : NT} {ta : Option Addr} {tc : Nat} {ka : Option Addr} {kc : Nat} (hk : inKind .u8 x.kind) (hl : (x.tag.length ≤ 9223372036854775807 ∧ x.key.length ≤ 9223372036854775807 ∧ x.text.length ≤ 9223372036854775807)) (SA : RdSl rdAttr 2 G (.slice ta x.as.length tc) x.as) (SK : RdSl rdN 6 G (.slice ka x.kids.length kc) x.kids) : Calls Tryz.prog 30 #[.agg #[.int .u8 (x.kind), .string (str (x.tag)), .string (str (x.key)), .slice (ta) (x.as.length) (tc), .string (str (x.text)), .slice (ka) (x.kids.length) (kc)]] w (RetS w0 G L fun v => v = .int .i64 (chkF x)) := by
 refine calls_start (vs := [_]) Tryz.func30 rfl (n := 6) rfl rfl ?_
 intro a F
 refine wp_seq <| w_reg <| rl_box F M rfl (cs := [.int .u8 (x.kind), .string (str (x.tag)), .string (str (x.key)), .slice (ta) (x.as.length) (tc), .string (str (x.text)), .slice (ka) (x.kids.length) (kc)]) rfl rfl ?_; clear F M a; intro b1 w a M F
 refine rl_run F (run_assign (F.ev rfl)) rfl ?_; clear F a; intro a F
 refine rl_nil <| q_tn ?_
 iterate 2 (refine wp_seq ?_)
 refine w_reg <| rl_run F (run_loadA tok30 rfl (F.ev rfl) (cs := [.int .u8 (x.kind), .string (str (x.tag)), .string (str (x.key)), .slice (ta) (x.as.length) (tc), .string (str (x.text)), .slice (ka) (x.kids.length) (kc)]) rfl (M.cellsL (k := 0) rfl rfl)) rfl ?_; clear F a; intro a F
 refine rl_callS F ent17 rfl rfl (ncount_spec (x := x) M hk hl SA SK) ?_; clear F M a; rintro _ w a M rfl F
 refine rl_run F (run_eqi (F.ev rfl) (F.ev rfl)) rfl ?_; clear F a; intro a F
 refine rl_nil <| q_tn <| w_cond F rfl ?_ ?_
 ·intro hc
  have h2b := hc; clear hc
  have h2 : ((cntF x : Nat) : Int) = 0 := of_decide_eq_true h2b
  refine wp_seq <| w_reg <| rl_run F (run_assign (F.ev rfl)) rfl ?_; clear F a; intro a F
  refine rl_nil <| q_tn <| wp_ret <| q_tr <| fin1 F rfl rfl ?_
  exact ⟨M.weaken (.cons _ (List.Sublist.refl _)), by rw [chkF_no fun h_ => by have := cntF_pos.2 h_; omega]⟩
 ·intro hc
  have h3b := hc; clear hc
  have h3 : ¬ (((cntF x : Nat) : Int) = 0) := of_decide_eq_false h3b
  refine wp_skip <| q_tn <| wp_seq <| w_reg <| rl_run F (run_assign (F.ev rfl)) rfl ?_; clear F a; intro a F
  refine rl_nil <| q_tn <| wp_ret <| fin1 F rfl rfl ?_
  exact ⟨M.weaken (.cons _ (List.Sublist.refl _)), by rw [chkF_yes (cntF_pos.1 (by omega))]⟩
def RcntP (x : NT) : Prop := ∀ (w0 w : World) (G : Ghost) (L : List Res) (ta ka : Option Addr) (tc kc lev : Nat), Mem w0 G L w → inKind .u8 x.kind → (x.tag.length ≤ 9223372036854775807 ∧ x.key.length ≤ 9223372036854775807 ∧ x.text.length ≤ 9223372036854775807) → RdSl rdAttr 2 G (.slice ta x.as.length tc) x.as → RdSl rdN 6 G (.slice ka x.kids.length kc) x.kids → lev ≤ 8 →
  Calls Tryz.prog 84 #[.agg #[.int .u8 (x.kind), .string (str (x.tag)), .string (str (x.key)), .slice (ta) (x.as.length) (tc), .string (str (x.text)), .slice (ka) (x.kids.length) (kc)], .int .i64 (lev : Int)] w (RetS w0 G L fun v => ∃ r : Nat, v = .int .i64 (r : Int) ∧ Cnt Alone x lev r)
theorem rcnt_step {x : NT} (ih : ∀ y ∈ x.kids, RcntP y) {w0 w : World} {G : Ghost} {L : List Res} (M : Mem w0 G L w) {ta : Option Addr} {tc : Nat} {ka : Option Addr} {kc : Nat} (hk : inKind .u8 x.kind) (hl : (x.tag.length ≤ 9223372036854775807 ∧ x.key.length ≤ 9223372036854775807 ∧ x.text.length ≤ 9223372036854775807)) (SA : RdSl rdAttr 2 G (.slice ta x.as.length tc) x.as) (SK : RdSl rdN 6 G (.slice ka x.kids.length kc) x.kids) {lev : Nat} (hlev : lev ≤ 8) : Calls Tryz.prog 84 #[.agg #[.int .u8 (x.kind), .string (str (x.tag)), .string (str (x.key)), .slice (ta) (x.as.length) (tc), .string (str (x.text)), .slice (ka) (x.kids.length) (kc)], .int .i64 (lev : Int)] w (RetS w0 G L fun v => ∃ r : Nat, v = .int .i64 (r : Int) ∧ Cnt Alone x lev r) := by
 refine calls_start (vs := [_, _]) Tryz.func84 rfl (n := 36) rfl rfl ?_
 intro a F
 refine wp_seq <| w_reg <| rl_box F M rfl (cs := [.int .u8 (x.kind), .string (str (x.tag)), .string (str (x.key)), .slice (ta) (x.as.length) (tc), .string (str (x.text)), .slice (ka) (x.kids.length) (kc)]) rfl rfl ?_; clear F M a; intro b1 w a M F
 refine rl_run F (run_assign (F.ev rfl)) rfl ?_; clear F a; intro a F
 refine rl_nil <| q_tn ?_
 iterate 2 (refine wp_seq ?_)
 refine w_reg <| rl_run F (run_move (F.ev rfl)) rfl ?_; clear F a; intro a F
 refine rl_run F (run_lss (F.ev rfl) (F.ev rfl)) rfl ?_; clear F a; intro a F
 refine rl_run F (run_move (F.ev rfl)) rfl ?_; clear F a; intro a F
 rcases Bool.eq_false_or_eq_true (decide ((lev : Int) < 1)) with hc | hc
 ·skip
  have h2b := hc; clear hc
  have h2 : (lev : Int) < 1 := of_decide_eq_true h2b
  iterate 3 (refine rl_guard_f F rfl rfl rfl h2b ?_; clear F a; intro a F)
  refine rl_run F (run_pick_t (F.ev rfl) h2b (F.ev rfl)) rfl ?_; clear F a; intro a F
  refine rl_nil <| q_tn <| w_cond_t F rfl rfl ?_
  refine wp_seq <| w_reg <| rl_run F (run_assign (F.ev rfl)) rfl ?_; clear F a; intro a F
  refine rl_nil <| q_tn <| wp_ret <| q_tr <| fin1 F rfl rfl ?_
  exact ⟨M.weaken (.cons _ (List.Sublist.refl _)), 1000, rfl, Cnt.bad (by clear F M; grind)⟩
 ·skip
  have h3b := hc; clear hc
  have h3 : ¬ ((lev : Int) < 1) := of_decide_eq_false h3b
  refine rl_guard_t F rfl rfl rfl h3b ?_
  refine rl_run F (run_loadA tok30 rfl (F.ev rfl) (cs := [.int .u8 (x.kind), .string (str (x.tag)), .string (str (x.key)), .slice (ta) (x.as.length) (tc), .string (str (x.text)), .slice (ka) (x.kids.length) (kc)]) rfl (M.cellsL (k := 0) rfl rfl)) rfl ?_; clear F a; intro a F
  refine rl_guard_t F rfl rfl rfl h3b ?_
  refine rl_callS F ent107 rfl rfl (rone_spec (x := x) M hk hl SA SK) ?_; clear F M a; rintro _ w a M ⟨b4, rfl, hb4⟩ F
  refine rl_guard_t F rfl rfl rfl h3b ?_
  refine rl_run F (run_not (F.ev rfl)) rfl ?_; clear F a; intro a F
  refine rl_run F (run_pick_f (F.ev rfl) h3b (F.ev rfl)) rfl ?_; clear F a; intro a F
  refine rl_nil <| q_tn <| w_cond F rfl ?_ ?_
  ·intro hc
   have h5b := hc; clear hc
   have h5 : (b4) = false := (of_not_t h5b)
   have h5c : (b4) = false := (of_not_t h5b)
   refine wp_seq <| w_reg <| rl_run F (run_assign (F.ev rfl)) rfl ?_; clear F a; intro a F
   refine rl_nil <| q_tn <| wp_ret <| q_tr <| fin1 F rfl rfl ?_
   exact ⟨M.weaken (.cons _ (List.Sublist.refl _)), 1000, rfl, Cnt.bad (by clear F M; grind)⟩
  ·intro hc
   have h6b := hc; clear hc
   have h6 : (b4) = true := (of_not_f h6b)
   have h6c : (b4) = true := (of_not_f h6b)
   refine wp_skip <| q_tn <| wp_seq ?_
   have hAl : Alone x := by clear F M; grind
   have hl1 : 1 ≤ lev := by omega
   have hkl := alone_len hAl
   refine w_reg <| rl_run F (run_assign (F.ev rfl)) rfl ?_; clear F a; intro a F
   refine rl_nil <| q_tn ?_
   iterate 2 (refine wp_seq ?_)
   refine w_reg <| rl_run F (run_assign (F.ev rfl)) rfl ?_; clear F a; intro a F
   refine rl_nil <| q_tn <| wp_block <| w_loopN (fun m a' w' => ∃ (i : Nat), ∃ (c : Nat), m = x.kids.length - i ∧ Fits 36 a' [(1, .int .i64 ((lev : Int))), (2, .pointer (some ⟨b1, 0, none⟩)), (5, .int .i64 (((c : Nat) : Int))), (6, .int .i64 (((i : Nat) : Int)))] ∧ Mem w0 G (.blk b1 [.int .u8 (x.kind), .string (str (x.tag)), .string (str (x.key)), .slice (ta) (x.as.length) (tc), .string (str (x.text)), .slice (ka) (x.kids.length) (kc)] 30 :: L) w' ∧ (i ≤ x.kids.length) ∧ (CntL Alone x lev i c)) _ ⟨0, 1, rfl, F.to ⟨rfl, rfl, rfl, rfl, trivial⟩, M, Nat.zero_le _, CntL.zero _ _⟩ ?_
   clear F M
   rintro m a w ⟨i, c, rfl, F, M, hi, hL⟩
   iterate 2 (refine wp_seq ?_)
   have hchi := hL.hi
   refine w_reg <| rl_run F (run_move (F.ev rfl)) rfl ?_; clear F a; intro a F
   refine rl_run F (run_fieldAddr tok30.k rfl rfl (F.ev rfl)) rfl ?_; clear F a; intro a F
   refine rl_run F (run_load1 (agf tok28 rfl) (F.ev rfl) (M.cellL (k := 0) rfl rfl)) rfl ?_; clear F a; intro a F
   refine rl_run F (run_lenSl tok28.k (F.ev rfl)) rfl ?_; clear F a; intro a F
   refine rl_run F (run_lss (F.ev rfl) (F.ev rfl)) rfl ?_; clear F a; intro a F
   refine rl_run F (run_move (F.ev rfl)) rfl ?_; clear F a; intro a F
   rcases Bool.eq_false_or_eq_true (decide (((i : Nat) : Int) < ((x.kids.length : Nat) : Int))) with hc | hc
   ·skip
    have h7b := hc; clear hc
    have h7 : ((i : Nat) : Int) < ((x.kids.length : Nat) : Int) := of_decide_eq_true h7b
    refine rl_guard_t F rfl rfl rfl h7b ?_
    refine rl_run F (run_move (F.ev rfl)) rfl ?_; clear F a; intro a F
    refine rl_guard_t F rfl rfl rfl h7b ?_
    refine rl_run F (run_leq (F.ev rfl) (F.ev rfl)) rfl ?_; clear F a; intro a F
    refine rl_run F (run_pick_t (F.ev rfl) h7b (F.ev rfl)) rfl ?_; clear F a; intro a F
    refine rl_nil <| q_tn <| w_cond F rfl ?_ ?_
    ·intro hc
     have h8b := hc; clear hc
     have h8 : ((c : Nat) : Int) ≤ 64 := of_decide_eq_true h8b
     refine wp_skip <| q_tn <| wp_seq <| wp_block <| w_reg <| rl_run F (run_move (F.ev rfl)) rfl ?_; clear F a; intro a F
     refine rl_run F (run_fieldAddr tok30.k rfl rfl (F.ev rfl)) rfl ?_; clear F a; intro a F
     refine rl_run F (run_load1 (agf tok28 rfl) (F.ev rfl) (M.cellL (k := 0) rfl rfl)) rfl ?_; clear F a; intro a F
     refine rl_run F (run_move (F.ev rfl)) rfl ?_; clear F a; intro a F
     obtain ⟨Xe9, hXe9⟩ := get_of_lt (xs := x.kids) (i := i) (by omega)
     obtain ⟨be9, oe9, _, Ie9, _, Ae9, hTe9⟩ := SK.at hXe9
     obtain ⟨tae9, tce9, kae9, kce9, rfl, hke9, hle9, SAe9, SKe9⟩ := rdT_open hTe9
     refine rl_run F (run_indexI tok28.k tok30 (F.ev rfl) (F.ev rfl) (by omega) Ie9) rfl ?_; clear F a; intro a F
     refine rl_run F (run_loadA tok30 rfl (F.ev rfl) (cs := [.int .u8 (Xe9.kind), .string (str (Xe9.tag)), .string (str (Xe9.key)), .slice (tae9) (Xe9.as.length) (tce9), .string (str (Xe9.text)), .slice (kae9) (Xe9.kids.length) (kce9)]) rfl (M.cellsA Ae9 0 (by omega) rfl)) rfl ?_; clear F a; intro a F
     refine rl_run F (run_move (F.ev rfl)) rfl ?_; clear F a; intro a F
     refine rl_run F (run_subi (F.ev rfl) (F.ev rfl) (in_i64 (by omega) (by omega))) rfl ?_; clear F a; intro a F
     have hs10 : ((lev : Int) - 1 : Int) = ((lev - 1 : Nat) : Int) := by omega
     rw [hs10] at F
     refine rl_callS F ent84 rfl rfl (ih Xe9 (List.mem_of_getElem? hXe9) _ _ _ _ _ _ _ _ (lev - 1) M hke9 hle9 SAe9 SKe9 (by omega)) ?_; clear F M a; rintro _ w a M ⟨r11, rfl, hr11⟩ F
     have hir11 := hr11.hi
     have lor11 := hr11.lo
     refine rl_run F (run_addi (F.ev rfl) (F.ev rfl) (in_i64 (by omega) (by omega))) rfl ?_; clear F a; intro a F
     refine rl_run F (run_assign (F.ev rfl)) rfl ?_; clear F a; intro a F
     refine rl_nil <| q_bn <| q_tn <| w_reg <| rl_run F (run_move (F.ev rfl)) rfl ?_; clear F a; intro a F
     refine rl_run F (run_addi (F.ev rfl) (F.ev rfl) (in_i64 (by omega) (by omega))) rfl ?_; clear F a; intro a F
     refine rl_run F (run_assign (F.ev rfl)) rfl ?_; clear F a; intro a F
     refine rl_nil <| q_tn ?_
     exact ⟨_, by omega, i + 1, c + r11, rfl, F.to ⟨rfl, rfl, rfl, rfl, trivial⟩, M, by omega, hL.step (by omega) (by omega) hXe9 hr11⟩
    ·intro hc
     have h12b := hc; clear hc
     have h12 : ¬ (((c : Nat) : Int) ≤ 64) := of_decide_eq_false h12b
     refine wp_exit ?_
     iterate 2 (refine q_te ?_)
     refine q_bh <| q_tn <| wp_seq <| w_reg <| rl_run F (run_move (F.ev rfl)) rfl ?_; clear F a; intro a F
     refine rl_run F (run_assign (F.ev rfl)) rfl ?_; clear F a; intro a F
     refine rl_nil <| q_tn <| wp_ret <| fin1 F rfl rfl ?_
     exact ⟨M.weaken (.cons _ (List.Sublist.refl _)), c, rfl, hL.done (by omega) hAl (by omega)⟩
   ·skip
    have h13b := hc; clear hc
    have h13 : ¬ (((i : Nat) : Int) < ((x.kids.length : Nat) : Int)) := of_decide_eq_false h13b
    iterate 2 (refine rl_guard_f F rfl rfl rfl h13b ?_; clear F a; intro a F)
    refine rl_run F (run_pick_f (F.ev rfl) h13b (F.ev rfl)) rfl ?_; clear F a; intro a F
    refine rl_nil <| q_tn <| w_cond_f F rfl rfl ?_
    refine wp_exit ?_
    iterate 2 (refine q_te ?_)
    refine q_bh <| q_tn <| wp_seq <| w_reg <| rl_run F (run_move (F.ev rfl)) rfl ?_; clear F a; intro a F
    refine rl_run F (run_assign (F.ev rfl)) rfl ?_; clear F a; intro a F
    refine rl_nil <| q_tn <| wp_ret <| fin1 F rfl rfl ?_
    exact ⟨M.weaken (.cons _ (List.Sublist.refl _)), c, rfl, hL.done (by omega) hAl (by omega)⟩
theorem rcnt_all (x : NT) : RcntP x := by
 induction x using Tr.ind with
 | _ x ih => intro w0 w G L ta ka tc kc lev M hk hl SA SK hlev; exact rcnt_step ih M hk hl SA SK hlev
theorem rcount_spec {w0 w : World} {G : Ghost} {L : List Res} (M : Mem w0 G L w) {x : NT} {ta : Option Addr} {tc : Nat} {ka : Option Addr} {kc : Nat} (hk : inKind .u8 x.kind) (hl : (x.tag.length ≤ 9223372036854775807 ∧ x.key.length ≤ 9223372036854775807 ∧ x.text.length ≤ 9223372036854775807)) (SA : RdSl rdAttr 2 G (.slice ta x.as.length tc) x.as) (SK : RdSl rdN 6 G (.slice ka x.kids.length kc) x.kids) : Calls Tryz.prog 50 #[.agg #[.int .u8 (x.kind), .string (str (x.tag)), .string (str (x.key)), .slice (ta) (x.as.length) (tc), .string (str (x.text)), .slice (ka) (x.kids.length) (kc)]] w (RetS w0 G L fun v => v = .int .i64 (((cntF x : Nat) : Int))) := by
 refine calls_start (vs := [_]) Tryz.func50 rfl (n := 9) rfl rfl ?_
 intro a F
 refine wp_seq <| w_reg <| rl_box F M rfl (cs := [.int .u8 (x.kind), .string (str (x.tag)), .string (str (x.key)), .slice (ta) (x.as.length) (tc), .string (str (x.text)), .slice (ka) (x.kids.length) (kc)]) rfl rfl ?_; clear F M a; intro b1 w a M F
 refine rl_run F (run_assign (F.ev rfl)) rfl ?_; clear F a; intro a F
 refine rl_nil <| q_tn <| wp_seq <| w_reg <| rl_run F (run_loadA tok30 rfl (F.ev rfl) (cs := [.int .u8 (x.kind), .string (str (x.tag)), .string (str (x.key)), .slice (ta) (x.as.length) (tc), .string (str (x.text)), .slice (ka) (x.kids.length) (kc)]) rfl (M.cellsL (k := 0) rfl rfl)) rfl ?_; clear F a; intro a F
 refine rl_callS F ent84 rfl rfl (rcnt_all x _ _ _ _ _ _ _ _ 6 M hk hl SA SK (by omega)) ?_; clear F M a; rintro _ w a M ⟨r2, rfl, hr2⟩ F
 have hir2 := hr2.hi
 have lor2 := hr2.lo
 refine rl_run F (run_assign (F.ev rfl)) rfl ?_; clear F a; intro a F
 refine rl_nil <| q_tn ?_
 iterate 2 (refine wp_seq ?_)
 refine w_reg <| rl_run F (run_move (F.ev rfl)) rfl ?_; clear F a; intro a F
 refine rl_run F (run_gtr (F.ev rfl) (F.ev rfl)) rfl ?_; clear F a; intro a F
 refine rl_nil <| q_tn <| w_cond F rfl ?_ ?_
 ·intro hc
  have h3b := hc; clear hc
  have h3 : 64 < ((r2 : Nat) : Int) := of_decide_eq_true h3b
  refine wp_seq <| w_reg <| rl_run F (run_assign (F.ev rfl)) rfl ?_; clear F a; intro a F
  refine rl_nil <| q_tn <| wp_ret <| q_tr <| fin1 F rfl rfl ?_
  exact ⟨M.weaken (.cons _ (List.Sublist.refl _)), by rw [hr2.cntF.1 (by omega)]; rfl⟩
 ·intro hc
  have h4b := hc; clear hc
  have h4 : ¬ (64 < ((r2 : Nat) : Int)) := of_decide_eq_false h4b
  refine wp_skip <| q_tn <| wp_seq <| w_reg <| rl_run F (run_move (F.ev rfl)) rfl ?_; clear F a; intro a F
  refine rl_run F (run_assign (F.ev rfl)) rfl ?_; clear F a; intro a F
  refine rl_nil <| q_tn <| wp_ret <| fin1 F rfl rfl ?_
  exact ⟨M.weaken (.cons _ (List.Sublist.refl _)), by rw [hr2.cntF.2 (by omega)]⟩
theorem rcheck_spec {w0 w : World} {G : Ghost} {L : List Res} (M : Mem w0 G L w) {x : NT} {ta : Option Addr} {tc : Nat} {ka : Option Addr} {kc : Nat} (hk : inKind .u8 x.kind) (hl : (x.tag.length ≤ 9223372036854775807 ∧ x.key.length ≤ 9223372036854775807 ∧ x.text.length ≤ 9223372036854775807)) (SA : RdSl rdAttr 2 G (.slice ta x.as.length tc) x.as) (SK : RdSl rdN 6 G (.slice ka x.kids.length kc) x.kids) : Calls Tryz.prog 48 #[.agg #[.int .u8 (x.kind), .string (str (x.tag)), .string (str (x.key)), .slice (ta) (x.as.length) (tc), .string (str (x.text)), .slice (ka) (x.kids.length) (kc)]] w (RetS w0 G L fun v => v = .int .i64 (chkF x)) := by
 refine calls_start (vs := [_]) Tryz.func48 rfl (n := 6) rfl rfl ?_
 intro a F
 refine wp_seq <| w_reg <| rl_box F M rfl (cs := [.int .u8 (x.kind), .string (str (x.tag)), .string (str (x.key)), .slice (ta) (x.as.length) (tc), .string (str (x.text)), .slice (ka) (x.kids.length) (kc)]) rfl rfl ?_; clear F M a; intro b1 w a M F
 refine rl_run F (run_assign (F.ev rfl)) rfl ?_; clear F a; intro a F
 refine rl_nil <| q_tn ?_
 iterate 2 (refine wp_seq ?_)
 refine w_reg <| rl_run F (run_loadA tok30 rfl (F.ev rfl) (cs := [.int .u8 (x.kind), .string (str (x.tag)), .string (str (x.key)), .slice (ta) (x.as.length) (tc), .string (str (x.text)), .slice (ka) (x.kids.length) (kc)]) rfl (M.cellsL (k := 0) rfl rfl)) rfl ?_; clear F a; intro a F
 refine rl_callS F ent50 rfl rfl (rcount_spec (x := x) M hk hl SA SK) ?_; clear F M a; rintro _ w a M rfl F
 refine rl_run F (run_eqi (F.ev rfl) (F.ev rfl)) rfl ?_; clear F a; intro a F
 refine rl_nil <| q_tn <| w_cond F rfl ?_ ?_
 ·intro hc
  have h2b := hc; clear hc
  have h2 : ((cntF x : Nat) : Int) = 0 := of_decide_eq_true h2b
  refine wp_seq <| w_reg <| rl_run F (run_assign (F.ev rfl)) rfl ?_; clear F a; intro a F
  refine rl_nil <| q_tn <| wp_ret <| q_tr <| fin1 F rfl rfl ?_
  exact ⟨M.weaken (.cons _ (List.Sublist.refl _)), by rw [chkF_no fun h_ => by have := cntF_pos.2 h_; omega]⟩
 ·intro hc
  have h3b := hc; clear hc
  have h3 : ¬ (((cntF x : Nat) : Int) = 0) := of_decide_eq_false h3b
  refine wp_skip <| q_tn <| wp_seq <| w_reg <| rl_run F (run_assign (F.ev rfl)) rfl ?_; clear F a; intro a F
  refine rl_nil <| q_tn <| wp_ret <| fin1 F rfl rfl ?_
  exact ⟨M.weaken (.cons _ (List.Sublist.refl _)), by rw [chkF_yes (cntF_pos.1 (by omega))]⟩
end Go.Proofs.YtlnehkjmmegkhaaGreat
