/- The walks, part N. -/
import Derived.Test.YtmmhmcplegpenaaDoorWalkS
import Derived.Test.YtmmhmcplegpenaaDoorYB
namespace Go.Proofs.YtmmhmcplegpenaaDoor
open Go Go.Y Go.Proofs
set_option linter.unusedSimpArgs false
set_option linter.unusedVariables false
theorem cut_spec {w0 w : World} {G : Ghost} {L : List Res} (M : Mem w0 G L w) (HG : Globs 0 1 2 3 G) {s sep : List UInt8} (hs : s.length < 4294967281) :
  Calls Tryd.prog 53 #[.string (str s), .string (str sep)] w (RetS w0 G L fun v => v = .tuple #[.string (str (Lib.cut s sep).1), .string (str (Lib.cut s sep).2.1), .bool (Lib.cut s sep).2.2]) := by
 obtain ⟨m, hm⟩ := HG.max
 refine (Any.strings_Cut Tryd.lays145 (str s) (str sep) m w (by rw [str_size]; exact hs) (M.cell hm)).mono ?_
 rintro e w' ⟨rfl, n, rfl⟩
 rw [str_data, str_data]
 exact ⟨M.drewN n, rfl⟩
theorem puint_spec {w0 w : World} {G : Ghost} {L : List Res} (M : Mem w0 G L w) (HG : Globs 0 1 2 3 G) {s : List UInt8} (hs : s.length ≤ 281474976710656) :
  Calls Tryd.prog 54 #[.string (str s), .int .i64 10, .int .i64 64] w (RetS w0 G L fun v => ∃ (u : Nat) (er : Value), v = .tuple #[.int .u64 (u : Int), er] ∧ u ≤ 18446744073709551615 ∧ (er = .nilIface ∨ ∃ te pe, er = .iface te pe) ∧
   ((Lib.parseUintB 64 s = .ok u ∧ isNilI er = true) ∨ ((∀ x, Lib.parseUintB 64 s ≠ .ok x) ∧ isNilI er = false))) := by
 have hd : (str s).data.toList = s := str_data s
 cases h : Lib.parseUintB 64 s with
 | ok u =>
  refine (Any.strconv_ParseUint_10_at64_ok Tryd.laysPu14 (str s) (by rw [str_size]; omega) u (by rw [hd]; exact h) w).mono ?_
  rintro e w' ⟨rfl, hw⟩
  refine ⟨?_, u, _, rfl, pu64_le h, Or.inl rfl, Or.inl ⟨rfl, rfl⟩⟩
  rcases hw with rfl | rfl
  ·exact M
  ·exact M.bytesWorld _ _
 | range =>
  obtain ⟨ev, h1, h2⟩ := HG.rng
  refine (Any.strconv_ParseUint_10_at64_range Tryd.laysPu14 (str s) (by rw [str_size]; omega) (by rw [hd]; exact h) ev w (M.cell h1) h2).mono ?_
  rintro e w' ⟨N, rfl, _, _, hb⟩
  exact ⟨M.below' hb, 18446744073709551615, _, rfl, by omega, Or.inr ⟨_, _, rfl⟩, Or.inr ⟨(fun x hx => by cases hx), rfl⟩⟩
 | _ =>
  obtain ⟨ev, h1, h2⟩ := HG.syn
  refine (Any.strconv_ParseUint_10_at64_syntax Tryd.laysPu14 (str s) (by rw [str_size]; omega) (by rw [hd]; exact h) ev w (M.cell h1) h2).mono ?_
  rintro e w' ⟨N, rfl, _, _, hb⟩
  exact ⟨M.below' hb, 0, _, rfl, by omega, Or.inr ⟨_, _, rfl⟩, Or.inr ⟨(fun x hx => by cases hx), rfl⟩⟩
theorem ifi_spec {w0 w : World} {G : Ghost} {L : List Res} (M : Mem w0 G L w) (HG : Globs 0 1 2 3 G) {n : Int} (hn : inKind .i64 n) :
  Calls Tryd.prog 71 #[.int .i64 n, .int .i64 10] w (RetS w0 G L fun v => v = .string (str (Lib.itoa n))) := by
 refine (Any.internal_strconv_FormatInt_10 Tryd.laysM246 n hn.1 hn.2 w (HG.tabIs M (by kernel_rfl))).mono ?_
 rintro e w' ⟨rfl, k, os, rfl⟩
 exact ⟨(M.drewN k).grew os, rfl⟩
theorem small_spec {w0 w : World} {G : Ghost} {L : List Res} (M : Mem w0 G L w) {i : Nat} (h : i < 100) : Calls Tryd.prog 67 #[.int .i64 (i : Int)] w (RetS w0 G L fun v => v = .string (str (Lib.decDigits i))) := by
 refine (Any.internal_strconv_small Tryd.lays283 i h w).mono ?_
 rintro e w' ⟨rfl, rfl⟩
 exact ⟨M, rfl⟩
theorem ndig_spec {w0 w : World} {G : Ghost} {L : List Res} (M : Mem w0 G L w) (HG : Globs 0 1 2 3 G) {u : Nat} (h1 : 1 ≤ u) (h2 : u < 18446744073709551616) : Calls Tryd.prog 68 #[.int .u64 (u : Int)] w (RetS w0 G L fun v => v = .int .i64 ((Lib.nDigits u : Nat) : Int)) := by
 refine (Any.internal_strconv_numDigits Tryd.laysM284 u h1 h2 w (HG.tabIs M (by kernel_rfl))).mono ?_
 rintro e w' ⟨rfl, rfl⟩
 exact ⟨M, rfl⟩
theorem fb10_spec {w0 w : World} {G : Ghost} {L : List Res} {b u c : Nat} {l : List UInt8} (M : Mem w0 G (.blk b (bc l) 100 :: L) w) (hl : l.length = 24) (hnd : Lib.nDigits u ≤ 24) (h2 : u < 18446744073709551616) :
  Calls Tryd.prog 69 #[.slice (some ⟨b, 0, none⟩) (Lib.nDigits u) c, .int .u64 (u : Int)] w (RetL w0 G fun L' v => v = .tuple #[] ∧ ∃ r, L' = (.blk b (bc (Lib.decDigits u ++ r)) 100 :: L)) := by
 have hH := M.holdsB (k := 0) rfl (Lib.nDigits u) (by omega)
 have hs : (l.take (Lib.nDigits u)).toArray.size = Lib.nDigits u := by simp; omega
 have := Any.internal_strconv_formatBase10 Tryd.lays285 b 0 c u (l.take (Lib.nDigits u)).toArray w hH (by rw [hs]; exact Lib.lt_pow_nDigits u) h2 (by rw [hs]; omega)
 rw [hs] at this
 refine this.mono ?_
 rintro e w' ⟨rfl, n, v', dk, rfl, hF⟩
 have hd := fmt_digits hF
 have M' := M.putRowB (k := 0) rfl dk (by rw [hF.size]; omega) n
 rw [hd] at M'
 exact ⟨_, M', rfl, _, rfl⟩
theorem ifu_spec {w0 w : World} {G : Ghost} {L : List Res} (M : Mem w0 G L w) (HG : Globs 0 1 2 3 G) {u : Nat} (hu : u < 18446744073709551616) :
  Calls Tryd.prog 60 #[.int .u64 (u : Int), .int .i64 10] w (RetS w0 G L fun v => v = .string (str (Lib.decDigits u))) := by
 refine calls_start (vs := [_, _]) Tryd.func60 rfl (n := 32) rfl rfl ?_
 intro a F
 refine wp_seq <| w_reg <| rl_run F (run_assign (F.ev rfl)) rfl ?_; clear F a; intro a F
 refine rl_nil <| q_tn ?_
 iterate 2 (refine wp_seq ?_)
 refine w_reg <| rl_run F (run_move (F.ev rfl)) rfl ?_; clear F a; intro a F
 refine rl_run F (run_eqi (F.ev rfl) (F.ev rfl)) rfl ?_; clear F a; intro a F
 refine rl_nil <| q_tn <| w_cond_t F rfl (decide_eq_true (by rfl)) ?_
 iterate 2 (refine wp_seq ?_)
 refine w_reg <| rl_run F (run_move (F.ev rfl)) rfl ?_; clear F a; intro a F
 refine rl_run F (run_lss (F.ev rfl) (F.ev rfl)) rfl ?_; clear F a; intro a F
 refine rl_nil <| q_tn <| w_cond F rfl ?_ ?_
 ·intro hc
  have h1b := hc; clear hc
  have h1 : (u : Int) < 100 := of_decide_eq_true h1b
  refine wp_seq <| w_reg <| rl_run F (run_move (F.ev rfl)) rfl ?_; clear F a; intro a F
  refine rl_run F (run_conv_int tok3.k ⟨_, by rw [under_int tok27.k]⟩ (F.ev rfl) (in_i64 (by omega) (by omega))) rfl ?_; clear F a; intro a F
  refine rl_callS F ent67 rfl rfl (small_spec (i := u) M (by omega)) ?_; clear F M a; rintro _ w a M rfl F
  refine rl_run F (run_assign (F.ev rfl)) rfl ?_; clear F a; intro a F
  refine rl_nil <| q_tn <| wp_ret ?_
  iterate 2 (refine q_tr ?_)
  refine fin1 F rfl rfl ?_
  exact ⟨M.weaken (List.Sublist.refl _), rfl⟩
 ·intro hc
  have h2b := hc; clear hc
  have h2 : ¬ ((u : Int) < 100) := of_decide_eq_false h2b
  refine wp_skip <| q_tn <| wp_seq <| w_reg <| rl_alloc F M tok100 rfl rfl ?_; clear F M a; intro b3 w a M F
  refine rl_nil <| q_tn <| wp_seq ?_
  change Mem w0 G (_ :: L) _ at M
  change Mem w0 G (.blk b3 (bc (List.replicate 24 0)) 100 :: L) w at M
  refine w_reg <| rl_run F (run_move (F.ev rfl)) rfl ?_; clear F a; intro a F
  refine rl_callS F ent68 rfl rfl (ndig_spec (u := u) M HG (by omega) (by omega)) ?_; clear F M a; rintro _ w a M rfl F
  refine rl_run F (run_assign (F.ev rfl)) rfl ?_; clear F a; intro a F
  refine rl_nil <| q_tn <| wp_seq ?_
  have hnd : Lib.nDigits u ≤ 20 := by have h1 := Lib.numDigits_eq u (by omega) hu; split at h1 <;> omega
  refine w_reg <| rl_run F (run_move (F.ev rfl)) rfl ?_; clear F a; intro a F
  refine rl_run F (run_sliceArr (h := Lib.nDigits u) tok100.k tok5 (F.ev rfl) (F.ev rfl) (by omega) (by omega)) rfl ?_; clear F a; intro a F
  refine rl_run F (run_move (F.ev rfl)) rfl ?_; clear F a; intro a F
  change Mem w0 G (_ :: L) _ at M
  refine rl_callL F ent69 rfl rfl (fb10_spec (u := u) (l := List.replicate 24 0) M (by simp) (by omega) (by omega)) ?_; clear F M a; rintro _ _ w a M ⟨rfl, rr, rfl⟩ F
  refine rl_nil <| q_tn <| wp_seq <| w_reg <| rl_run F (run_move (F.ev rfl)) rfl ?_; clear F a; intro a F
  refine rl_run F (run_sliceArr (h := Lib.nDigits u) tok100.k tok5 (F.ev rfl) (F.ev rfl) (by omega) (by omega)) rfl ?_; clear F a; intro a F
  refine rl_run F (run_strOfBlk M (k := 0) rfl tok57.k tok5.k tok9.k (F.ev rfl) (by rw [List.length_append, Lib.decDigits_length]; omega)) rfl ?_; clear F a; intro a F
  rw [show (Lib.decDigits u ++ rr).take (Lib.nDigits u) = Lib.decDigits u by rw [← Lib.decDigits_length, List.take_left]] at F
  refine rl_run F (run_assign (F.ev rfl)) rfl ?_; clear F a; intro a F
  refine rl_nil <| q_tn <| wp_ret <| q_tr <| fin1 F rfl rfl ?_
  exact ⟨M.weaken (.cons _ (List.Sublist.refl _)), rfl⟩
theorem fu_spec {w0 w : World} {G : Ghost} {L : List Res} (M : Mem w0 G L w) (HG : Globs 0 1 2 3 G) {u : Nat} (hu : u < 18446744073709551616) :
  Calls Tryd.prog 50 #[.int .u64 (u : Int), .int .i64 10] w (RetS w0 G L fun v => v = .string (str (Lib.decDigits u))) := by
 refine calls_start (vs := [_, _]) Tryd.func50 rfl (n := 8) rfl rfl ?_
 intro a F
 refine wp_seq <| w_reg <| rl_run F (run_assign (F.ev rfl)) rfl ?_; clear F a; intro a F
 refine rl_nil <| q_tn <| wp_seq <| w_reg ?_
 iterate 2 (refine rl_run F (run_move (F.ev rfl)) rfl ?_; clear F a; intro a F)
 refine rl_callS F ent60 rfl rfl (ifu_spec (u := u) M HG (by omega)) ?_; clear F M a; rintro _ w a M rfl F
 refine rl_run F (run_assign (F.ev rfl)) rfl ?_; clear F a; intro a F
 refine rl_nil <| q_tn <| wp_ret <| fin1 F rfl rfl ?_
 exact ⟨M, rfl⟩
end Go.Proofs.YtmmhmcplegpenaaDoor
