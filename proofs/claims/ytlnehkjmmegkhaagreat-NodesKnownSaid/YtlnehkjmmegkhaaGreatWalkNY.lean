/- The walks, part NY. -/
import Derived.Test.YtlnehkjmmegkhaaGreatWalkNL
namespace Go.Proofs.YtlnehkjmmegkhaaGreat
open Go Go.Y Go.Proofs
set_option linter.unusedSimpArgs false
set_option linter.unusedVariables false
/-- An owned row is lent: it reads as a slice for a while, and is owned again behind. -/
theorem memLend {α : Type} {rd : Rd α} {w0 w : World} {G : Ghost} {L : List Res} {a : Option Addr} {n c : Nat} {cs : List Value} {t : TypeId} {sz : Nat} (hm : Mono rd) (M : Mem w0 G (.row (.slice a n c) n cs t sz :: L) w) {xs : List α} (hE : Els rd sz G cs xs) (hs : 0 < sz) :
  ∃ G', Gle G G' ∧ RdSl rd sz G' (.slice a n c) xs ∧ Mem w0 G' L w ∧ ∀ (w' : World) (G'' : Ghost) (L' : List Res), Gle G' G'' → Mem w0 G'' L' w' → ∃ G3, Gle G G3 ∧ Mem w0 G3 (.row (.slice a n c) n cs t sz :: L') w' := by
 obtain ⟨⟨hl, h2⟩, h1⟩ := M.row_at (k := 0) rfl
 have hn : n = xs.length := by
  have := hE.length
  rw [hl] at this
  exact Nat.eq_of_mul_eq_mul_right hs this
 subst hn
 rcases h2 with ⟨e, h0⟩ | ⟨g, cap, cur, e, h00, hg, hnc, hcm, hcs, htake⟩
 ·have : xs = [] := List.eq_nil_of_length_eq_zero h0
  subst this
  simp only [Value.slice.injEq] at e
  obtain ⟨rfl, _, rfl⟩ := e
  refine ⟨G, Gle.refl G, RdSl.nil, M.weaken (List.sublist_cons_self _ _), fun w' G'' L' hG M' => ⟨G'', hG, ⟨M'.os, M'.tape, M'.output, M'.grow, M'.pers, ?_, ?_, ?_⟩⟩⟩
  ·intro x hx
   rcases List.mem_cons.1 hx with rfl | hx
   ·exact ⟨⟨hl, Or.inl ⟨rfl, h0⟩⟩, h1⟩
   ·exact M'.own x hx
  ·intro x hx b hb
   rcases List.mem_cons.1 hx with rfl | hx
   ·cases hb
   ·exact M'.free x hx b hb
  ·exact List.pairwise_cons.2 ⟨fun x _ b hb => (by cases hb), M'.apart⟩
 ·simp only [Value.slice.injEq] at e
  obtain ⟨rfl, _, rfl⟩ := e
  have hb : G g = none := M.free (.row (.slice (some ⟨g, 0, none⟩) xs.length c) xs.length cs t sz) (by simp) g rfl
  have hap := List.pairwise_cons.1 M.apart
  refine ⟨fun r => if r = g then some (.cells cur t (0, 0)) else G r, ?_, ?_, ?_, ?_⟩
  ·intro r o hr
   by_cases h : r = g
   ·subst h; rw [hb] at hr; cases hr
   ·simp [h, hr]
  ·refine RdSl.of_cells (cs := cs) (hE.mono hm ?_) h1 ?_ hnc (by simpa [maxLen] using hcm)
   ·intro r o hr
    by_cases h : r = g
    ·subst h; rw [hb] at hr; cases hr
    ·simp [h, hr]
   ·intro j u hj
    have hj' : j < xs.length * sz := by
     rw [← hl]
     rcases Nat.lt_or_ge j cs.length with h' | h'
     ·exact h'
     ·simp [List.getElem?_eq_none h'] at hj
    rw [← htake, List.getElem?_take, if_pos hj'] at hj
    simp only [gcell, if_true, Nat.zero_add]
    simpa using hj
  ·refine ⟨M.os, M.tape, M.output, M.grow, ?_, ?_, ?_, hap.2⟩
   ·intro r o hr
    by_cases h : r = g
    ·subst h; simp at hr; subst hr; exact hg
    ·simp only [h, if_false] at hr; exact M.pers r o hr
   ·exact fun x hx => M.own x (by simp [hx])
   ·intro x hx b hc
    have hne : b ≠ g := fun e => hap.1 x hx g rfl (e ▸ hc)
    simp only [hne, if_false]
    exact M.free x (by simp [hx]) b hc
  ·intro w' G'' L' hG M'
   have hgg : G'' g = some (.cells cur t (0, 0)) := hG g _ (by simp)
   refine ⟨fun r => if r = g then none else G'' r, ?_, ⟨M'.os, M'.tape, M'.output, M'.grow, ?_, ?_, ?_, ?_⟩⟩
   ·intro r o hr
    have hne : r ≠ g := fun e => by subst e; rw [hb] at hr; cases hr
    simp only [hne, if_false]
    exact hG r o (by simp only [hne, if_false]; exact hr)
   ·intro r o hr
    by_cases h : r = g
    ·simp [h] at hr
    ·simp only [h, if_false] at hr; exact M'.pers r o hr
   ·intro x hx
    rcases List.mem_cons.1 hx with rfl | hx
    ·exact ⟨⟨hl, Or.inr ⟨g, c, cur, rfl, h00, M'.pers g _ hgg, hnc, hcm, hcs, htake⟩⟩, h1⟩
    ·exact M'.own x hx
   ·intro x hx b hc
    rcases List.mem_cons.1 hx with rfl | hx
    ·simp only [Res.foot, Value.ownBlock, Option.some.injEq] at hc
     subst hc; simp
    ·by_cases h : b = g
     ·simp [h]
     ·simp only [h, if_false]; exact M'.free x hx b hc
   ·refine List.pairwise_cons.2 ⟨fun x hx b hb1 hb2 => ?_, M'.apart⟩
    simp only [Res.foot, Value.ownBlock, Option.some.injEq] at hb1
    subst hb1
    have := M'.free x hx _ hb2
    rw [hgg] at this; cases this
/-- The cells of a node that is its own child. -/
def rdCyn (ca : Option Addr) (cc : Nat) : Rd Unit := fun _ cs _ => cs = [.int .u8 (1), .string (str ([97] : List UInt8)), .string (str ([] : List UInt8)), .slice none (0) (0), .string (str ([] : List UInt8)), .slice (ca) (1) (cc)]
theorem mono_rdCyn {ca : Option Addr} {cc : Nat} : Mono (rdCyn ca cc) := fun _ _ _ _ _ h => h
theorem cyn_open {ca : Option Addr} {cc : Nat} {G : Ghost} {cs : List Value} {u : Unit} (h : rdCyn ca cc G cs u) : cs = [.int .u8 (1), .string (str ([97] : List UInt8)), .string (str ([] : List UInt8)), .slice none (0) (0), .string (str ([] : List UInt8)), .slice (ca) (1) (cc)] := h
theorem cynalone_spec {w0 w : World} {G : Ghost} {L : List Res} (M : Mem w0 G L w) {ca : Option Addr} {cc : Nat} (S : RdSl (rdCyn ca cc) 6 G (.slice ca 1 cc) [()]) {nb no : Nat} (A : At G nb no [.int .u8 (1), .string (str ([97] : List UInt8)), .string (str ([] : List UInt8)), .slice none (0) (0), .string (str ([] : List UInt8)), .slice (ca) (1) (cc)]) : Calls Tryz.prog 88 #[.pointer (some ⟨nb, no, none⟩)] w (RetS w0 G L fun v => v = .bool true) := by
 have hN9 : Name [97] := by decide
 refine calls_start (vs := [_]) Tryz.func88 rfl (n := 161) rfl rfl ?_
 intro a F
 refine wp_seq <| w_reg <| rl_run F (run_assign (F.ev rfl)) rfl ?_; clear F a; intro a F
 refine rl_nil <| q_tn ?_
 iterate 2 (refine wp_seq ?_)
 refine w_reg <| rl_run F (run_move (F.ev rfl)) rfl ?_; clear F a; intro a F
 refine rl_run F (run_nilCheck (F.ev rfl)) rfl ?_; clear F a; intro a F
 refine rl_run F (run_fieldAddr tok30.k rfl rfl (F.ev rfl)) rfl ?_; clear F a; intro a F
 refine rl_run F (run_load1 (agf tok5 rfl) (F.ev rfl) (M.cellA A 0 rfl rfl)) rfl ?_; clear F a; intro a F
 refine rl_run F (run_eqi (F.ev rfl) (F.ev rfl)) rfl ?_; clear F a; intro a F
 refine rl_nil <| q_tn <| w_cond_f F rfl (decide_eq_false (by decide)) ?_
 refine wp_skip <| q_tn ?_
 iterate 2 (refine wp_seq ?_)
 refine w_reg <| rl_run F (run_move (F.ev rfl)) rfl ?_; clear F a; intro a F
 refine rl_run F (run_nilCheck (F.ev rfl)) rfl ?_; clear F a; intro a F
 refine rl_run F (run_fieldAddr tok30.k rfl rfl (F.ev rfl)) rfl ?_; clear F a; intro a F
 refine rl_run F (run_load1 (agf tok5 rfl) (F.ev rfl) (M.cellA A 0 rfl rfl)) rfl ?_; clear F a; intro a F
 refine rl_run F (run_nei (F.ev rfl) (F.ev rfl)) rfl ?_; clear F a; intro a F
 refine rl_run F (run_move (F.ev rfl)) rfl ?_; clear F a; intro a F
 refine rl_guard_t F rfl rfl rfl (not_f (decide_eq_true (by decide))) ?_
 refine rl_run F (run_move (F.ev rfl)) rfl ?_; clear F a; intro a F
 refine rl_guard_t F rfl rfl rfl (not_f (decide_eq_true (by decide))) ?_
 refine rl_run F (run_nilCheck (F.ev rfl)) rfl ?_; clear F a; intro a F
 refine rl_guard_t F rfl rfl rfl (not_f (decide_eq_true (by decide))) ?_
 refine rl_run F (run_fieldAddr tok30.k rfl rfl (F.ev rfl)) rfl ?_; clear F a; intro a F
 refine rl_guard_t F rfl rfl rfl (not_f (decide_eq_true (by decide))) ?_
 refine rl_run F (run_load1 (agf tok9 rfl) (F.ev rfl) (M.cellA A 1 rfl rfl)) rfl ?_; clear F a; intro a F
 refine rl_guard_t F rfl rfl rfl (not_f (decide_eq_true (by decide))) ?_
 refine rl_callS F ent109 rfl rfl (nnamed_spec (s := ([97] : List UInt8)) M (by decide)) ?_; clear F M a; rintro _ w a M ⟨b1, rfl, hb1⟩ F
 refine rl_guard_t F rfl rfl rfl (not_f (decide_eq_true (by decide))) ?_
 refine rl_run F (run_not (F.ev rfl)) rfl ?_; clear F a; intro a F
 refine rl_run F (run_pick_f (F.ev rfl) (not_f (decide_eq_true (by decide))) (F.ev rfl)) rfl ?_; clear F a; intro a F
 refine rl_run F (run_move (F.ev rfl)) rfl ?_; clear F a; intro a F
 rcases Bool.eq_false_or_eq_true (!(b1)) with hc | hc
 ·skip
  have h2b := hc; clear hc
  have h2 : (b1) = false := (of_not_t h2b)
  have h2c : (b1) = false := (of_not_t h2b)
  iterate 6 (refine rl_guard_f F rfl rfl rfl (not_t h2c) ?_; clear F a; intro a F)
  iterate 6 (refine rl_guard_u F rfl rfl rfl ?_; clear F a; intro a F)
  refine rl_guard_f F rfl rfl rfl (not_t h2c) ?_; clear F a; intro a F
  refine rl_run F (run_pick_t (F.ev rfl) (not_t h2c) (F.ev rfl)) rfl ?_; clear F a; intro a F
  refine rl_run F (run_move (F.ev rfl)) rfl ?_; clear F a; intro a F
  iterate 5 (refine rl_guard_f F rfl rfl rfl rfl ?_; clear F a; intro a F)
  refine rl_run F (run_pick_t (F.ev rfl) rfl (F.ev rfl)) rfl ?_; clear F a; intro a F
  refine rl_run F (run_move (F.ev rfl)) rfl ?_; clear F a; intro a F
  iterate 6 (refine rl_guard_f F rfl rfl rfl rfl ?_; clear F a; intro a F)
  refine rl_run F (run_pick_t (F.ev rfl) rfl (F.ev rfl)) rfl ?_; clear F a; intro a F
  refine rl_run F (run_move (F.ev rfl)) rfl ?_; clear F a; intro a F
  iterate 6 (refine rl_guard_f F rfl rfl rfl rfl ?_; clear F a; intro a F)
  refine rl_run F (run_pick_t (F.ev rfl) rfl (F.ev rfl)) rfl ?_; clear F a; intro a F
  refine rl_nil <| q_tn <| w_cond_t F rfl rfl ?_
  refine wp_seq <| w_reg <| rl_run F (run_assign (F.ev rfl)) rfl ?_; clear F a; intro a F
  refine rl_nil <| q_tn <| wp_ret <| q_tr <| fin1 F rfl rfl ?_
  exfalso; clear F M; grind
 ·skip
  have h3b := hc; clear hc
  have h3 : (b1) = true := (of_not_f h3b)
  have h3c : (b1) = true := (of_not_f h3b)
  refine rl_guard_t F rfl rfl rfl (not_f h3c) ?_
  refine rl_run F (run_move (F.ev rfl)) rfl ?_; clear F a; intro a F
  refine rl_guard_t F rfl rfl rfl (not_f h3c) ?_
  refine rl_run F (run_nilCheck (F.ev rfl)) rfl ?_; clear F a; intro a F
  refine rl_guard_t F rfl rfl rfl (not_f h3c) ?_
  refine rl_run F (run_fieldAddr tok30.k rfl rfl (F.ev rfl)) rfl ?_; clear F a; intro a F
  refine rl_guard_t F rfl rfl rfl (not_f h3c) ?_
  refine rl_run F (run_load1 (agf tok9 rfl) (F.ev rfl) (M.cellA A 2 rfl rfl)) rfl ?_; clear F a; intro a F
  refine rl_guard_t F rfl rfl rfl (not_f h3c) ?_
  refine rl_run F (run_strNe (F.ev rfl) (F.ev rfl)) rfl ?_; clear F a; intro a F
  refine rl_guard_t F rfl rfl rfl (not_f h3c) ?_
  refine rl_run F (run_move (F.ev rfl)) rfl ?_; clear F a; intro a F
  iterate 6 (refine rl_guard_f F rfl rfl rfl (by decide) ?_; clear F a; intro a F)
  refine rl_guard_t F rfl rfl rfl (not_f h3c) ?_
  refine rl_run F (run_pick_f (F.ev rfl) (by decide) (F.ev rfl)) rfl ?_; clear F a; intro a F
  refine rl_run F (run_pick_f (F.ev rfl) (not_f h3c) (F.ev rfl)) rfl ?_; clear F a; intro a F
  refine rl_run F (run_move (F.ev rfl)) rfl ?_; clear F a; intro a F
  refine rl_guard_t F rfl rfl rfl rfl ?_
  refine rl_run F (run_move (F.ev rfl)) rfl ?_; clear F a; intro a F
  refine rl_guard_t F rfl rfl rfl rfl ?_
  refine rl_run F (run_nilCheck (F.ev rfl)) rfl ?_; clear F a; intro a F
  refine rl_guard_t F rfl rfl rfl rfl ?_
  refine rl_run F (run_fieldAddr tok30.k rfl rfl (F.ev rfl)) rfl ?_; clear F a; intro a F
  refine rl_guard_t F rfl rfl rfl rfl ?_
  refine rl_run F (run_load1 (agf tok9 rfl) (F.ev rfl) (M.cellA A 4 rfl rfl)) rfl ?_; clear F a; intro a F
  refine rl_guard_t F rfl rfl rfl rfl ?_
  refine rl_run F (run_strNe (F.ev rfl) (F.ev rfl)) rfl ?_; clear F a; intro a F
  refine rl_run F (run_pick_f (F.ev rfl) rfl (F.ev rfl)) rfl ?_; clear F a; intro a F
  refine rl_run F (run_move (F.ev rfl)) rfl ?_; clear F a; intro a F
  refine rl_guard_t F rfl rfl rfl (by decide) ?_
  refine rl_run F (run_move (F.ev rfl)) rfl ?_; clear F a; intro a F
  refine rl_guard_t F rfl rfl rfl (by decide) ?_
  refine rl_run F (run_nilCheck (F.ev rfl)) rfl ?_; clear F a; intro a F
  refine rl_guard_t F rfl rfl rfl (by decide) ?_
  refine rl_run F (run_fieldAddr tok30.k rfl rfl (F.ev rfl)) rfl ?_; clear F a; intro a F
  refine rl_guard_t F rfl rfl rfl (by decide) ?_
  refine rl_run F (run_load1 (agf tok27 rfl) (F.ev rfl) (M.cellA A 3 rfl rfl)) rfl ?_; clear F a; intro a F
  refine rl_guard_t F rfl rfl rfl (by decide) ?_
  refine rl_run F (run_lenSl tok27.k (F.ev rfl)) rfl ?_; clear F a; intro a F
  refine rl_guard_t F rfl rfl rfl (by decide) ?_
  refine rl_run F (run_gtr (F.ev rfl) (F.ev rfl)) rfl ?_; clear F a; intro a F
  refine rl_run F (run_pick_f (F.ev rfl) (by decide) (F.ev rfl)) rfl ?_; clear F a; intro a F
  refine rl_run F (run_move (F.ev rfl)) rfl ?_; clear F a; intro a F
  refine rl_guard_t F rfl rfl rfl (decide_eq_false (by decide)) ?_
  refine rl_run F (run_move (F.ev rfl)) rfl ?_; clear F a; intro a F
  refine rl_guard_t F rfl rfl rfl (decide_eq_false (by decide)) ?_
  refine rl_run F (run_nilCheck (F.ev rfl)) rfl ?_; clear F a; intro a F
  refine rl_guard_t F rfl rfl rfl (decide_eq_false (by decide)) ?_
  refine rl_run F (run_fieldAddr tok30.k rfl rfl (F.ev rfl)) rfl ?_; clear F a; intro a F
  refine rl_guard_t F rfl rfl rfl (decide_eq_false (by decide)) ?_
  refine rl_run F (run_load1 (agf tok28 rfl) (F.ev rfl) (M.cellA A 5 rfl rfl)) rfl ?_; clear F a; intro a F
  refine rl_guard_t F rfl rfl rfl (decide_eq_false (by decide)) ?_
  refine rl_run F (run_lenSl tok28.k (F.ev rfl)) rfl ?_; clear F a; intro a F
  refine rl_guard_t F rfl rfl rfl (decide_eq_false (by decide)) ?_
  refine rl_run F (run_gtr (F.ev rfl) (F.ev rfl)) rfl ?_; clear F a; intro a F
  refine rl_run F (run_pick_f (F.ev rfl) (decide_eq_false (by decide)) (F.ev rfl)) rfl ?_; clear F a; intro a F
  refine rl_nil <| q_tn <| w_cond_f F rfl (decide_eq_false (by decide)) ?_
  refine wp_skip <| q_tn ?_
  iterate 2 (refine wp_seq ?_)
  refine w_reg <| rl_run F (run_move (F.ev rfl)) rfl ?_; clear F a; intro a F
  refine rl_run F (run_nilCheck (F.ev rfl)) rfl ?_; clear F a; intro a F
  refine rl_run F (run_fieldAddr tok30.k rfl rfl (F.ev rfl)) rfl ?_; clear F a; intro a F
  refine rl_run F (run_load1 (agf tok27 rfl) (F.ev rfl) (M.cellA A 3 rfl rfl)) rfl ?_; clear F a; intro a F
  refine rl_run F (run_lenSl tok27.k (F.ev rfl)) rfl ?_; clear F a; intro a F
  refine rl_run F (run_move (F.ev rfl)) rfl ?_; clear F a; intro a F
  refine rl_nil <| q_tn <| wp_block <| w_loopN (fun m a' w' => ∃ (i : Nat), m = 0 - i ∧ Fits 161 a' [(0, .pointer (some ⟨nb, no, none⟩)), (101, .slice none (0) (0)), (102, .int .i64 (((0 : Nat) : Int))), (103, .int .i64 (((i : Nat) : Int)))] ∧ Mem w0 G (L) w' ∧ (i = 0)) _ ⟨0, rfl, F.to ⟨rfl, rfl, rfl, rfl, trivial⟩, M, rfl⟩ ?_
  clear F M
  rintro m a w ⟨i, rfl, F, M, hi⟩
  refine wp_seq <| w_reg <| rl_run F (run_lss (F.ev rfl) (F.ev rfl)) rfl ?_; clear F a; intro a F
  refine rl_nil <| q_tn <| wp_seq <| w_cond F rfl ?_ ?_
  ·intro hc
   have h4b := hc; clear hc
   have h4 : ((i : Nat) : Int) < ((0 : Nat) : Int) := of_decide_eq_true h4b
   exfalso; omega
  ·intro hc
   have h5b := hc; clear hc
   have h5 : ¬ (((i : Nat) : Int) < ((0 : Nat) : Int)) := of_decide_eq_false h5b
   refine wp_exit ?_
   iterate 2 (refine q_te ?_)
   refine q_bh <| q_tn ?_
   iterate 2 (refine wp_seq ?_)
   refine w_reg <| rl_run F (run_move (F.ev rfl)) rfl ?_; clear F a; intro a F
   refine rl_run F (run_nilCheck (F.ev rfl)) rfl ?_; clear F a; intro a F
   refine rl_run F (run_fieldAddr tok30.k rfl rfl (F.ev rfl)) rfl ?_; clear F a; intro a F
   refine rl_run F (run_load1 (agf tok28 rfl) (F.ev rfl) (M.cellA A 5 rfl rfl)) rfl ?_; clear F a; intro a F
   refine rl_run F (run_lenSl tok28.k (F.ev rfl)) rfl ?_; clear F a; intro a F
   refine rl_run F (run_move (F.ev rfl)) rfl ?_; clear F a; intro a F
   refine rl_nil <| q_tn <| wp_block <| w_unroll 3 ?_
   refine wp_seq ?_
   have hu1 : ([()] : List Unit).length = 1 := rfl
   refine w_reg <| rl_run F (run_lss (F.ev rfl) (F.ev rfl)) rfl ?_; clear F a; intro a F
   refine rl_nil <| q_tn <| wp_seq <| w_cond_t F rfl (decide_eq_true (by decide)) ?_
   refine wp_skip <| q_tn <| wp_seq <| wp_block <| wp_seq <| w_reg <| rl_run F (run_move (F.ev rfl)) rfl ?_; clear F a; intro a F
   obtain ⟨Xe6, hXe6⟩ := get_of_lt (xs := [()]) (i := 0) (by omega)
   obtain ⟨be6, oe6, _, Ie6, _, Ae6, hTe6⟩ := S.at hXe6
   obtain rfl := cyn_open hTe6
   refine rl_run F (run_indexI tok28.k tok30 (F.ev rfl) (F.ev rfl) (by omega) Ie6) rfl ?_; clear F a; intro a F
   refine rl_run F (run_loadA tok30 rfl (F.ev rfl) (cs := [.int .u8 (1), .string (str (([97] : List UInt8))), .string (str (([] : List UInt8))), .slice none (0) (0), .string (str (([] : List UInt8))), .slice (ca) (1) (cc)]) rfl (M.cellsA Ae6 0 (by omega) rfl)) rfl ?_; clear F a; intro a F
   refine rl_alloc F M tok30 rfl rfl ?_; clear F M a; intro b7 w a M F
   refine rl_run F (run_assign (F.ev rfl)) rfl ?_; clear F a; intro a F
   refine rl_storeA F M tok30 (k := 0) rfl rfl rfl (us := [.int .u8 (1), .string (str (([97] : List UInt8))), .string (str (([] : List UInt8))), .slice none (0) (0), .string (str (([] : List UInt8))), .slice (ca) (1) (cc)]) rfl rfl (by simp [Value.oneCell']) (by simp) ?_; clear F M a; intro w a M F
   change Mem w0 G (.blk b7 [.int .u8 (1), .string (str (([97] : List UInt8))), .string (str (([] : List UInt8))), .slice none (0) (0), .string (str (([] : List UInt8))), .slice (ca) (1) (cc)] 30 :: L) _ at M
   refine rl_nil <| q_tn <| wp_seq <| w_reg <| rl_run F (run_fieldAddr tok30.k rfl rfl (F.ev rfl)) rfl ?_; clear F a; intro a F
   refine rl_run F (run_load1 (agf tok9 rfl) (F.ev rfl) (M.cellL (k := 0) rfl rfl)) rfl ?_; clear F a; intro a F
   refine rl_run F (run_strNe (F.ev rfl) (F.ev rfl)) rfl ?_; clear F a; intro a F
   refine rl_run F (run_move (F.ev rfl)) rfl ?_; clear F a; intro a F
   iterate 8 (refine rl_guard_f F rfl rfl rfl (by decide) ?_; clear F a; intro a F)
   refine rl_run F (run_pick_f (F.ev rfl) (by decide) (F.ev rfl)) rfl ?_; clear F a; intro a F
   refine rl_nil <| q_tn <| w_cond_f F rfl rfl ?_
   refine wp_skip <| q_bn <| q_tn <| w_reg <| rl_run F (run_addi (F.ev rfl) (F.ev rfl) (in_i64 (by omega) (by omega))) rfl ?_; clear F a; intro a F
   refine rl_run F (run_move (F.ev rfl)) rfl ?_; clear F a; intro a F
   refine rl_nil <| q_tn <| wp_seq ?_
   have hu1 : ([()] : List Unit).length = 1 := rfl
   refine w_reg <| rl_run F (run_lss (F.ev rfl) (F.ev rfl)) rfl ?_; clear F a; intro a F
   refine rl_nil <| q_tn <| wp_seq <| w_cond_f F rfl (decide_eq_false (by decide)) ?_
   refine wp_exit ?_
   iterate 2 (refine q_te ?_)
   refine q_bh <| q_tn <| wp_seq <| w_reg <| rl_run F (run_assign (F.ev rfl)) rfl ?_; clear F a; intro a F
   refine rl_nil <| q_tn <| wp_ret <| fin1 F rfl rfl ?_
   exact ⟨M.weaken (.cons _ (List.Sublist.refl _)), rfl⟩
def CynP (e : Nat) : Prop := ∀ (w0 w : World) (G : Ghost) (L : List Res) (ca : Option Addr) (cc cb db wb nb no c d lev : Nat), lev + e = 7 → c ≤ 64 → d ≤ 64 → Mem w0 G (.blk cb [.int .i64 ((c : Nat) : Int)] 3 :: .blk db [.int .i64 ((d : Nat) : Int)] 3 :: .blk wb [.func (.func 87) #[] #[.pointer (some ⟨cb, 0, none⟩), .pointer (some ⟨db, 0, none⟩), .pointer (some ⟨wb, 0, none⟩)]] 127 :: L) w → RdSl (rdCyn ca cc) 6 G (.slice ca 1 cc) [()] → At G nb no [.int .u8 (1), .string (str ([97] : List UInt8)), .string (str ([] : List UInt8)), .slice none (0) (0), .string (str ([] : List UInt8)), .slice (ca) (1) (cc)] →
  Calls Tryz.prog 87 #[.pointer (some ⟨nb, no, none⟩), .int .i64 (lev : Int), .pointer (some ⟨cb, 0, none⟩), .pointer (some ⟨db, 0, none⟩), .pointer (some ⟨wb, 0, none⟩)] w (RetL w0 G fun L' v => ∃ c' d' : Nat, v = .bool false ∧ L' = (.blk cb [.int .i64 ((c' : Nat) : Int)] 3 :: .blk db [.int .i64 ((d' : Nat) : Int)] 3 :: .blk wb [.func (.func 87) #[] #[.pointer (some ⟨cb, 0, none⟩), .pointer (some ⟨db, 0, none⟩), .pointer (some ⟨wb, 0, none⟩)]] 127 :: L))
theorem cyn_step {e : Nat} (ih : ∀ d, e = d + 1 → CynP d) {w0 w : World} {G : Ghost} {L : List Res}  {ca : Option Addr} {cc : Nat} (S : RdSl (rdCyn ca cc) 6 G (.slice ca 1 cc) [()]) {cb db wb nb no c d lev : Nat} (hle : lev + e = 7) (hc : c ≤ 64) (hd : d ≤ 64) (M : Mem w0 G (.blk cb [.int .i64 ((c : Nat) : Int)] 3 :: .blk db [.int .i64 ((d : Nat) : Int)] 3 :: .blk wb [.func (.func 87) #[] #[.pointer (some ⟨cb, 0, none⟩), .pointer (some ⟨db, 0, none⟩), .pointer (some ⟨wb, 0, none⟩)]] 127 :: L) w) (A : At G nb no [.int .u8 (1), .string (str ([97] : List UInt8)), .string (str ([] : List UInt8)), .slice none (0) (0), .string (str ([] : List UInt8)), .slice (ca) (1) (cc)]) : Calls Tryz.prog 87 #[.pointer (some ⟨nb, no, none⟩), .int .i64 (lev : Int), .pointer (some ⟨cb, 0, none⟩), .pointer (some ⟨db, 0, none⟩), .pointer (some ⟨wb, 0, none⟩)] w (RetL w0 G fun L' v => ∃ c' d' : Nat, v = .bool false ∧ L' = (.blk cb [.int .i64 ((c' : Nat) : Int)] 3 :: .blk db [.int .i64 ((d' : Nat) : Int)] 3 :: .blk wb [.func (.func 87) #[] #[.pointer (some ⟨cb, 0, none⟩), .pointer (some ⟨db, 0, none⟩), .pointer (some ⟨wb, 0, none⟩)]] 127 :: L)) := by
 refine calls_start (vs := [_, _, _, _, _]) Tryz.func87 rfl (n := 45) rfl rfl ?_
 intro a F
 refine wp_seq <| w_reg <| rl_run F (run_assign (F.ev rfl)) rfl ?_; clear F a; intro a F
 refine rl_nil <| q_tn <| wp_seq <| w_reg <| rl_run F (run_load1 (agf tok3 rfl) (F.ev rfl) (M.cellL (k := 0) rfl rfl)) rfl ?_; clear F a; intro a F
 refine rl_run F (run_addi (F.ev rfl) (F.ev rfl) (in_i64 (by omega) (by omega))) rfl ?_; clear F a; intro a F
 refine rl_store1 F M tok3 rfl (k := 0) rfl rfl rfl rfl rfl ?_; clear F M a; intro w a M F
 refine rl_nil <| q_tn <| wp_seq <| w_reg <| rl_run F (run_load1 (agf tok3 rfl) (F.ev rfl) (M.cellL (k := 1) rfl rfl)) rfl ?_; clear F a; intro a F
 refine rl_run F (run_move (F.ev rfl)) rfl ?_; clear F a; intro a F
 refine rl_run F (run_max2N (b := d) (c := lev) (F.ev rfl) (F.ev rfl)) rfl ?_; clear F a; intro a F
 refine rl_store1 F M tok3 rfl (k := 1) rfl rfl rfl rfl rfl ?_; clear F M a; intro w a M F
 refine rl_nil <| q_tn ?_
 iterate 2 (refine wp_seq ?_)
 refine w_reg <| rl_run F (run_move (F.ev rfl)) rfl ?_; clear F a; intro a F
 refine rl_run F (run_gtr (F.ev rfl) (F.ev rfl)) rfl ?_; clear F a; intro a F
 refine rl_run F (run_move (F.ev rfl)) rfl ?_; clear F a; intro a F
 rcases Bool.eq_false_or_eq_true (decide (6 < (lev : Int))) with hc | hc
 ·skip
  have h1b := hc; clear hc
  have h1 : 6 < (lev : Int) := of_decide_eq_true h1b
  iterate 2 (refine rl_guard_f F rfl rfl rfl h1b ?_; clear F a; intro a F)
  refine rl_run F (run_pick_t (F.ev rfl) h1b (F.ev rfl)) rfl ?_; clear F a; intro a F
  refine rl_run F (run_move (F.ev rfl)) rfl ?_; clear F a; intro a F
  iterate 3 (refine rl_guard_f F rfl rfl rfl rfl ?_; clear F a; intro a F)
  refine rl_run F (run_pick_t (F.ev rfl) rfl (F.ev rfl)) rfl ?_; clear F a; intro a F
  refine rl_nil <| q_tn <| w_cond_t F rfl rfl ?_
  refine wp_seq <| w_reg <| rl_run F (run_assign (F.ev rfl)) rfl ?_; clear F a; intro a F
  refine rl_nil <| q_tn <| wp_ret <| q_tr <| fin1 F rfl rfl ?_
  replace M := M.perm (perm_front _ 2 _ rfl)
  replace M := M.perm (perm_front _ 2 _ rfl)
  replace M := M.perm (perm_front _ 2 _ rfl)
  change Mem w0 G (.blk cb [.int .i64 ((((c : Nat) : Int)) + 1)] 3 :: .blk db [.int .i64 (((max d lev : Nat) : Int))] 3 :: _ :: L) _ at M
  exact ⟨_, M, _, _, rfl, rfl⟩
 ·skip
  have h2b := hc; clear hc
  have h2 : ¬ (6 < (lev : Int)) := of_decide_eq_false h2b
  refine rl_guard_t F rfl rfl rfl h2b ?_
  refine rl_run F (run_load1 (agf tok3 rfl) (F.ev rfl) (M.cellL (k := 0) rfl rfl)) rfl ?_; clear F a; intro a F
  refine rl_guard_t F rfl rfl rfl h2b ?_
  refine rl_run F (run_gtr (F.ev rfl) (F.ev rfl)) rfl ?_; clear F a; intro a F
  refine rl_run F (run_pick_f (F.ev rfl) h2b (F.ev rfl)) rfl ?_; clear F a; intro a F
  refine rl_run F (run_move (F.ev rfl)) rfl ?_; clear F a; intro a F
  rcases Bool.eq_false_or_eq_true (decide (64 < (((c : Nat) : Int)) + 1)) with hc | hc
  ·skip
   have h3b := hc; clear hc
   have h3 : 64 < (((c : Nat) : Int)) + 1 := of_decide_eq_true h3b
   iterate 3 (refine rl_guard_f F rfl rfl rfl h3b ?_; clear F a; intro a F)
   refine rl_run F (run_pick_t (F.ev rfl) h3b (F.ev rfl)) rfl ?_; clear F a; intro a F
   refine rl_nil <| q_tn <| w_cond_t F rfl rfl ?_
   refine wp_seq <| w_reg <| rl_run F (run_assign (F.ev rfl)) rfl ?_; clear F a; intro a F
   refine rl_nil <| q_tn <| wp_ret <| q_tr <| fin1 F rfl rfl ?_
   replace M := M.perm (perm_front _ 2 _ rfl)
   replace M := M.perm (perm_front _ 2 _ rfl)
   replace M := M.perm (perm_front _ 2 _ rfl)
   change Mem w0 G (.blk cb [.int .i64 ((((c : Nat) : Int)) + 1)] 3 :: .blk db [.int .i64 (((max d lev : Nat) : Int))] 3 :: _ :: L) _ at M
   exact ⟨_, M, _, _, rfl, rfl⟩
  ·skip
   have h4b := hc; clear hc
   have h4 : ¬ (64 < (((c : Nat) : Int)) + 1) := of_decide_eq_false h4b
   refine rl_guard_t F rfl rfl rfl h4b ?_
   refine rl_run F (run_move (F.ev rfl)) rfl ?_; clear F a; intro a F
   refine rl_guard_t F rfl rfl rfl h4b ?_
   refine rl_callS F ent88 rfl rfl (cynalone_spec M S A) ?_; clear F M a; rintro _ w a M rfl F
   refine rl_guard_t F rfl rfl rfl h4b ?_
   refine rl_run F (run_not (F.ev rfl)) rfl ?_; clear F a; intro a F
   refine rl_run F (run_pick_f (F.ev rfl) h4b (F.ev rfl)) rfl ?_; clear F a; intro a F
   refine rl_nil <| q_tn <| w_cond_f F rfl rfl ?_
   refine wp_skip <| q_tn ?_
   iterate 2 (refine wp_seq ?_)
   obtain ⟨e2, rfl⟩ : ∃ d, e = d + 1 := ⟨e - 1, by omega⟩
   refine w_reg <| rl_run F (run_move (F.ev rfl)) rfl ?_; clear F a; intro a F
   refine rl_run F (run_nilCheck (F.ev rfl)) rfl ?_; clear F a; intro a F
   refine rl_run F (run_fieldAddr tok30.k rfl rfl (F.ev rfl)) rfl ?_; clear F a; intro a F
   refine rl_run F (run_load1 (agf tok28 rfl) (F.ev rfl) (M.cellA A 5 rfl rfl)) rfl ?_; clear F a; intro a F
   refine rl_run F (run_lenSl tok28.k (F.ev rfl)) rfl ?_; clear F a; intro a F
   refine rl_run F (run_move (F.ev rfl)) rfl ?_; clear F a; intro a F
   refine rl_nil <| q_tn <| wp_block <| w_loopN (fun m a' w' => ∃ (i : Nat), m = 1 - i ∧ Fits 45 a' [(0, .pointer (some ⟨nb, no, none⟩)), (1, .int .i64 ((lev : Int))), (2, .pointer (some ⟨cb, 0, none⟩)), (3, .pointer (some ⟨db, 0, none⟩)), (4, .pointer (some ⟨wb, 0, none⟩)), (28, .slice (ca) (1) (cc)), (29, .int .i64 (((1 : Nat) : Int))), (30, .int .i64 (((i : Nat) : Int)))] ∧ Mem w0 G (.blk cb [.int .i64 ((((c : Nat) : Int)) + 1)] 3 :: .blk db [.int .i64 (((max d lev : Nat) : Int))] 3 :: .blk wb [.func (.func 87) #[] #[.pointer (some ⟨cb, 0, none⟩), .pointer (some ⟨db, 0, none⟩), .pointer (some ⟨wb, 0, none⟩)]] 127 :: L) w' ∧ (i = 0)) _ ⟨0, rfl, F.to ⟨rfl, rfl, rfl, rfl, rfl, rfl, rfl, rfl, trivial⟩, M, rfl⟩ ?_
   clear F M
   rintro m a w ⟨i, rfl, F, M, hi⟩
   refine wp_seq <| w_reg <| rl_run F (run_lss (F.ev rfl) (F.ev rfl)) rfl ?_; clear F a; intro a F
   refine rl_nil <| q_tn <| wp_seq <| w_cond F rfl ?_ ?_
   ·intro hc
    have h5b := hc; clear hc
    have h5 : ((i : Nat) : Int) < ((1 : Nat) : Int) := of_decide_eq_true h5b
    refine wp_skip <| q_tn <| wp_seq <| wp_block <| wp_seq <| w_reg <| rl_run F (run_move (F.ev rfl)) rfl ?_; clear F a; intro a F
    refine rl_run F (run_assign (F.ev rfl)) rfl ?_; clear F a; intro a F
    refine rl_nil <| q_tn <| wp_seq ?_
    have hu1 : ([()] : List Unit).length = 1 := rfl
    refine w_plan2 [(.pure, 0), (.free, 1), (.free, 2), (.free, 3), (.pure, 4), (.free, 5), (.free, 6), (.free, 7), (.free, 8), (.keep, 9), (.free, 10)] [] (Keep G [.blk wb [.func (.func 87) #[] #[.pointer (some ⟨cb, 0, none⟩), .pointer (some ⟨db, 0, none⟩), .pointer (some ⟨wb, 0, none⟩)]] 127]) rfl (by kernel_rfl) (fun c a d v w h => by cases d <;> exact h) ((M.drew _).keep (Gle.refl _) (by simp)) ?_
    replace M := M.drew (w.drawn + 1)
    refine pk_pure F (fun w M => run_load1 (agf tok127 rfl) (F.ev rfl) (M.cellL (k := 0) rfl rfl)) rfl ?_; clear F a; intro a F
    refine pk_free F (fun w _ => run_move (F.ev rfl)) rfl ?_; clear F a; intro a F
    refine pk_free F (fun w _ => run_nilCheck (F.ev rfl)) rfl ?_; clear F a; intro a F
    refine pk_free F (fun w _ => run_fieldAddr tok30.k rfl rfl (F.ev rfl)) rfl ?_; clear F a; intro a F
    refine pk_pure F (fun w M => run_load1 (agf tok28 rfl) (F.ev rfl) (M.cellA A 5 rfl rfl)) rfl ?_; clear F a; intro a F
    refine pk_free F (fun w _ => run_move (F.ev rfl)) rfl ?_; clear F a; intro a F
    obtain ⟨Xe6, hXe6⟩ := get_of_lt (xs := [()]) (i := i) (by omega)
    obtain ⟨be6, oe6, _, Ie6, _, Ae6, hTe6⟩ := S.at hXe6
    obtain rfl := cyn_open hTe6
    refine pk_free F (fun w _ => run_indexI tok28.k tok30 (F.ev rfl) (F.ev rfl) (by omega) Ie6) rfl ?_; clear F a; intro a F
    refine pk_free F (fun w _ => run_move (F.ev rfl)) rfl ?_; clear F a; intro a F
    refine pk_free F (fun w _ => run_addi (F.ev rfl) (F.ev rfl) (in_i64 (by omega) (by omega))) rfl ?_; clear F a; intro a F
    refine pk_keep ?_ rfl
    replace M := M.perm (perm_front _ 2 _ rfl)
    replace M := M.perm (perm_front _ 2 _ rfl)
    replace M := M.perm (perm_front _ 2 _ rfl)
    change Mem w0 G (.blk cb [.int .i64 ((((c : Nat) : Int)) + 1)] 3 :: .blk db [.int .i64 (((max d lev : Nat) : Int))] 3 :: _ :: L) _ at M
    refine rl_callvL F ent87 (caps := [.pointer (some ⟨cb, 0, none⟩), .pointer (some ⟨db, 0, none⟩), .pointer (some ⟨wb, 0, none⟩)]) rfl rfl rfl (ih e2 rfl _ _ _ _ _ _ _ _ _ _ _ (c + 1) (max d lev) (lev + 1) (by omega) (by omega) (by omega) M S Ae6) ?_; clear F M a; rintro _ _ w a M ⟨cb7, db7, rfl, rfl⟩ F
    refine rl_nil <| ⟨Keep G [.blk wb [.func (.func 87) #[] #[.pointer (some ⟨cb, 0, none⟩), .pointer (some ⟨db, 0, none⟩), .pointer (some ⟨wb, 0, none⟩)]] 127], M.keep (Gle.refl _) (by simp), fun w h => h.mono (Gle.refl _) (by simp), ?_⟩
    refine pk_free F (fun w _ => run_not (F.ev rfl)) rfl ?_; clear F a; intro a F
    refine pk_nil <| q_tn <| w_cond_t F rfl rfl ?_
    refine wp_seq <| w_reg <| rl_run F (run_assign (F.ev rfl)) rfl ?_; clear F a; intro a F
    refine rl_nil <| q_tn <| wp_ret <| q_br ?_
    iterate 2 (refine q_tr ?_)
    refine q_br <| q_tr <| fin1 F rfl rfl ?_
    replace M := M.perm (perm_front _ 2 _ rfl)
    replace M := M.perm (perm_front _ 2 _ rfl)
    replace M := M.perm (perm_front _ 2 _ rfl)
    change Mem w0 G (_ :: _ :: _ :: L) _ at M
    exact ⟨_, M, _, _, rfl, rfl⟩
   ·intro hc
    have h8b := hc; clear hc
    have h8 : ¬ (((i : Nat) : Int) < ((1 : Nat) : Int)) := of_decide_eq_false h8b
    exfalso; omega
theorem cyn_all : ∀ e, CynP e
 | 0 => fun w0 w G L ca cc cb db wb nb no c d lev hle hc hd M S A => cyn_step (fun d hd => by omega) S hle hc hd M A
 | e + 1 => fun w0 w G L ca cc cb db wb nb no c d lev hle hc hd M S A => cyn_step (fun d hd => by rw [show d = e by omega]; exact cyn_all e) S hle hc hd M A
theorem cynmeas_ret {w0 w : World} {G : Ghost} {L : List Res} (M : Mem w0 G L w) {ca : Option Addr} {cc : Nat} (S : RdSl (rdCyn ca cc) 6 G (.slice ca 1 cc) [()]) : Calls Tryz.prog 57 #[.agg #[.int .u8 (1), .string (str ([97] : List UInt8)), .string (str ([] : List UInt8)), .slice none (0) (0), .string (str ([] : List UInt8)), .slice (ca) (1) (cc)]] w (Ret w0 G L fun _ v => v = .tuple #[.int .i64 0, .int .i64 0]) := by
 refine calls_start (vs := [_]) Tryz.func57 rfl (n := 11) rfl rfl ?_
 intro a F
 refine wp_seq <| w_reg <| rl_box F M rfl (cs := [.int .u8 (1), .string (str (([97] : List UInt8))), .string (str (([] : List UInt8))), .slice none (0) (0), .string (str (([] : List UInt8))), .slice (ca) (1) (cc)]) rfl rfl ?_; clear F M a; intro b1 w a M F
 refine rl_alloc F M tok3 rfl rfl ?_; clear F M a; intro b2 w a M F
 refine rl_alloc F M tok3 rfl rfl ?_; clear F M a; intro b4 w a M F
 refine rl_nil <| q_tn <| wp_seq <| w_reg <| rl_alloc F M tok127 rfl rfl ?_; clear F M a; intro b6 w a M F
 refine rl_nil <| q_tn <| wp_seq <| w_reg <| rl_run F (run_makeFunc (vs := #[.pointer (some ⟨b2, 0, none⟩), .pointer (some ⟨b4, 0, none⟩), .pointer (some ⟨b6, 0, none⟩)]) (by simp only [List.map_toArray, List.map_cons, List.map_nil, F.ev (x := .tmp 2) rfl, F.ev (x := .tmp 3) rfl, F.ev (x := .tmp 4) rfl])) rfl ?_; clear F a; intro a F
 refine rl_store1 F M tok127 rfl (k := 0) rfl rfl rfl rfl rfl ?_; clear F M a; intro w a M F
 refine rl_nil <| q_tn ?_
 iterate 2 (refine wp_seq ?_)
 obtain ⟨Gq8, hGq8, hbq8, M⟩ := M.freeze (k := 3) rfl
 have Aq8 : At Gq8 b1 0 [.int .u8 (1), .string (str (([97] : List UInt8))), .string (str (([] : List UInt8))), .slice none (0) (0), .string (str (([] : List UInt8))), .slice (ca) (1) (cc)] := At.of_cells hbq8
 clear hbq8
 replace S := S.mono mono_rdCyn hGq8
 change Mem w0 Gq8 (.blk b6 [.func (.func 87) #[] #[.pointer (some ⟨b2, 0, none⟩), .pointer (some ⟨b4, 0, none⟩), .pointer (some ⟨b6, 0, none⟩)]] 127 :: .blk b4 [.int .i64 (0)] 3 :: .blk b2 [.int .i64 (0)] 3 :: L) _ at M
 refine w_reg <| rl_run F (run_load1 (agf tok127 rfl) (F.ev rfl) (M.cellL (k := 0) rfl rfl)) rfl ?_; clear F a; intro a F
 replace M := M.perm (perm_front _ 1 _ rfl)
 replace M := M.perm (perm_front _ 2 _ rfl)
 change Mem w0 Gq8 (_ :: _ :: .blk b6 [.func (.func 87) #[] #[.pointer (some ⟨b2, 0, none⟩), .pointer (some ⟨b4, 0, none⟩), .pointer (some ⟨b6, 0, none⟩)]] 127 :: L) _ at M
 refine rl_callvL F ent87 (caps := [.pointer (some ⟨b2, 0, none⟩), .pointer (some ⟨b4, 0, none⟩), .pointer (some ⟨b6, 0, none⟩)]) rfl rfl rfl (cyn_all 6 _ _ _ _ _ _ _ _ _ _ _ 0 0 1 (by omega) (by omega) (by omega) M S Aq8) ?_; clear F M a; rintro _ _ w a M ⟨cb9, db9, rfl, rfl⟩ F
 refine rl_run F (run_not (F.ev rfl)) rfl ?_; clear F a; intro a F
 refine rl_nil <| q_tn <| w_cond_t F rfl rfl ?_
 refine wp_seq <| w_reg <| rl_store1 F M tok3 rfl (k := 0) rfl rfl rfl rfl rfl ?_; clear F M a; intro w a M F
 refine rl_store1 F M tok3 rfl (k := 1) rfl rfl rfl rfl rfl ?_; clear F M a; intro w a M F
 refine rl_nil <| q_tn <| wp_ret <| q_tr <| fin_cc F M (k1 := 0) (k2 := 1) rfl rfl rfl (agf tok3 rfl) (agf tok3 rfl) rfl rfl ?_
 exact ⟨_, hGq8, (M.weaken (.cons _ (.cons _ (.cons _ (List.Sublist.refl _))))), rfl⟩
theorem cynmeas_spec {w0 w : World} {G : Ghost} {L : List Res} (M : Mem w0 G L w) {ca : Option Addr} {cc : Nat} (S : RdSl (rdCyn ca cc) 6 G (.slice ca 1 cc) [()]) : Calls Tryz.prog 57 #[.agg #[.int .u8 (1), .string (str ([97] : List UInt8)), .string (str ([] : List UInt8)), .slice none (0) (0), .string (str ([] : List UInt8)), .slice (ca) (1) (cc)]] w (RetS w0 G L fun v => v = .tuple #[.int .i64 0, .int .i64 0]) := Ret.plain M (cynmeas_ret M S)
theorem cyncount_spec {w0 w : World} {G : Ghost} {L : List Res} (M : Mem w0 G L w) {ca : Option Addr} {cc : Nat} (S : RdSl (rdCyn ca cc) 6 G (.slice ca 1 cc) [()]) : Calls Tryz.prog 17 #[.agg #[.int .u8 (1), .string (str ([97] : List UInt8)), .string (str ([] : List UInt8)), .slice none (0) (0), .string (str ([] : List UInt8)), .slice (ca) (1) (cc)]] w (RetS w0 G L fun v => v = .int .i64 0) := by
 refine calls_start (vs := [_]) Tryz.func17 rfl (n := 11) rfl rfl ?_
 intro a F
 refine wp_seq <| w_reg <| rl_box F M rfl (cs := [.int .u8 (1), .string (str (([97] : List UInt8))), .string (str (([] : List UInt8))), .slice none (0) (0), .string (str (([] : List UInt8))), .slice (ca) (1) (cc)]) rfl rfl ?_; clear F M a; intro b1 w a M F
 refine rl_run F (run_assign (F.ev rfl)) rfl ?_; clear F a; intro a F
 refine rl_nil <| q_tn <| wp_seq <| w_reg <| rl_run F (run_loadA tok30 rfl (F.ev rfl) (cs := [.int .u8 (1), .string (str (([97] : List UInt8))), .string (str (([] : List UInt8))), .slice none (0) (0), .string (str (([] : List UInt8))), .slice (ca) (1) (cc)]) rfl (M.cellsL (k := 0) rfl rfl)) rfl ?_; clear F a; intro a F
 refine rl_callS F ent57 rfl rfl (cynmeas_spec M S) ?_; clear F M a; rintro _ w a M rfl F
 refine rl_run F (run_move (F.ev rfl)) rfl ?_; clear F a; intro a F
 iterate 2 (refine rl_run F (run_extract (v := .int .i64 (0)) (F.ev rfl) rfl) rfl ?_; clear F a; intro a F)
 iterate 2 (refine rl_run F (run_assign (F.ev rfl)) rfl ?_; clear F a; intro a F)
 refine rl_nil <| q_tn <| wp_seq <| w_reg <| rl_run F (run_move (F.ev rfl)) rfl ?_; clear F a; intro a F
 refine rl_run F (run_assign (F.ev rfl)) rfl ?_; clear F a; intro a F
 refine rl_nil <| q_tn <| wp_ret <| fin1 F rfl rfl ?_
 exact ⟨M.weaken (.cons _ (List.Sublist.refl _)), rfl⟩
theorem cyncheck_spec {w0 w : World} {G : Ghost} {L : List Res} (M : Mem w0 G L w) {ca : Option Addr} {cc : Nat} (S : RdSl (rdCyn ca cc) 6 G (.slice ca 1 cc) [()]) : Calls Tryz.prog 30 #[.agg #[.int .u8 (1), .string (str ([97] : List UInt8)), .string (str ([] : List UInt8)), .slice none (0) (0), .string (str ([] : List UInt8)), .slice (ca) (1) (cc)]] w (RetS w0 G L fun v => v = .int .i64 14) := by
 refine calls_start (vs := [_]) Tryz.func30 rfl (n := 6) rfl rfl ?_
 intro a F
 refine wp_seq <| w_reg <| rl_box F M rfl (cs := [.int .u8 (1), .string (str (([97] : List UInt8))), .string (str (([] : List UInt8))), .slice none (0) (0), .string (str (([] : List UInt8))), .slice (ca) (1) (cc)]) rfl rfl ?_; clear F M a; intro b1 w a M F
 refine rl_run F (run_assign (F.ev rfl)) rfl ?_; clear F a; intro a F
 refine rl_nil <| q_tn ?_
 iterate 2 (refine wp_seq ?_)
 refine w_reg <| rl_run F (run_loadA tok30 rfl (F.ev rfl) (cs := [.int .u8 (1), .string (str (([97] : List UInt8))), .string (str (([] : List UInt8))), .slice none (0) (0), .string (str (([] : List UInt8))), .slice (ca) (1) (cc)]) rfl (M.cellsL (k := 0) rfl rfl)) rfl ?_; clear F a; intro a F
 refine rl_callS F ent17 rfl rfl (cyncount_spec M S) ?_; clear F M a; rintro _ w a M rfl F
 refine rl_run F (run_eqi (F.ev rfl) (F.ev rfl)) rfl ?_; clear F a; intro a F
 refine rl_nil <| q_tn <| w_cond_t F rfl (decide_eq_true (by decide)) ?_
 refine wp_seq <| w_reg <| rl_run F (run_assign (F.ev rfl)) rfl ?_; clear F a; intro a F
 refine rl_nil <| q_tn <| wp_ret <| q_tr <| fin1 F rfl rfl ?_
 exact ⟨M.weaken (.cons _ (List.Sublist.refl _)), rfl⟩
theorem cynsame_spec {w0 w : World} {G : Ghost} {L : List Res} (M : Mem w0 G L w) {ca : Option Addr} {cc : Nat} (S : RdSl (rdCyn ca cc) 6 G (.slice ca 1 cc) [()]) : Calls Tryz.prog 41 #[.agg #[.int .u8 (1), .string (str ([97] : List UInt8)), .string (str ([] : List UInt8)), .slice none (0) (0), .string (str ([] : List UInt8)), .slice (ca) (1) (cc)], .agg #[.int .u8 (1), .string (str ([97] : List UInt8)), .string (str ([] : List UInt8)), .slice none (0) (0), .string (str ([] : List UInt8)), .slice (ca) (1) (cc)]] w (RetS w0 G L fun v => v = .bool false) := by
 refine calls_start (vs := [_, _]) Tryz.func41 rfl (n := 18) rfl rfl ?_
 intro a F
 refine wp_seq <| w_reg <| rl_box F M rfl (cs := [.int .u8 (1), .string (str (([97] : List UInt8))), .string (str (([] : List UInt8))), .slice none (0) (0), .string (str (([] : List UInt8))), .slice (ca) (1) (cc)]) rfl rfl ?_; clear F M a; intro b1 w a M F
 refine rl_box F M rfl (cs := [.int .u8 (1), .string (str (([97] : List UInt8))), .string (str (([] : List UInt8))), .slice none (0) (0), .string (str (([] : List UInt8))), .slice (ca) (1) (cc)]) rfl rfl ?_; clear F M a; intro b2 w a M F
 refine rl_run F (run_assign (F.ev rfl)) rfl ?_; clear F a; intro a F
 refine rl_nil <| q_tn <| wp_seq <| w_reg <| rl_run F (run_loadA tok30 rfl (F.ev rfl) (cs := [.int .u8 (1), .string (str (([97] : List UInt8))), .string (str (([] : List UInt8))), .slice none (0) (0), .string (str (([] : List UInt8))), .slice (ca) (1) (cc)]) rfl (M.cellsL (k := 1) rfl rfl)) rfl ?_; clear F a; intro a F
 refine rl_callS F ent30 rfl rfl (cyncheck_spec M S) ?_; clear F M a; rintro _ w a M rfl F
 refine rl_run F (run_eqi (F.ev rfl) (F.ev rfl)) rfl ?_; clear F a; intro a F
 refine rl_run F (run_move (F.ev rfl)) rfl ?_; clear F a; intro a F
 iterate 3 (refine rl_guard_f F rfl rfl rfl (decide_eq_false (by decide)) ?_; clear F a; intro a F)
 refine rl_run F (run_pick_f (F.ev rfl) (decide_eq_false (by decide)) (F.ev rfl)) rfl ?_; clear F a; intro a F
 refine rl_run F (run_move (F.ev rfl)) rfl ?_; clear F a; intro a F
 iterate 3 (refine rl_guard_f F rfl rfl rfl rfl ?_; clear F a; intro a F)
 refine rl_run F (run_pick_f (F.ev rfl) rfl (F.ev rfl)) rfl ?_; clear F a; intro a F
 refine rl_run F (run_assign (F.ev rfl)) rfl ?_; clear F a; intro a F
 refine rl_nil <| q_tn <| wp_ret <| fin1 F rfl rfl ?_
 exact ⟨M.weaken (.cons _ (.cons _ (List.Sublist.refl _))), rfl⟩
end Go.Proofs.YtlnehkjmmegkhaaGreat
