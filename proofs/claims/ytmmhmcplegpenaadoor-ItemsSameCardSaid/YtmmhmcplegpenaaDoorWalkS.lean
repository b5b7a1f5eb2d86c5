/- The walks, part S. -/
import Derived.Test.YtmmhmcplegpenaaDoorWalkC
import Derived.Test.YtmmhmcplegpenaaDoorYB
namespace Go.Proofs.YtmmhmcplegpenaaDoor
open Go Go.Y Go.Proofs
set_option linter.unusedSimpArgs false
set_option linter.unusedVariables false
theorem copyCheck_new {w0 w : World} {G : Ghost} {L : List Res} {b n c : Nat} {ad : Option Addr} (M : Mem w0 G (.blk b [.pointer none, .slice ad n c] 59 :: L) w) :
  Calls Tryd.prog 48 #[.pointer (some ⟨b, 0, none⟩)] w (RetS w0 G (.blk b [.pointer (some ⟨b, 0, none⟩), .slice ad n c] 59 :: L) fun v => v = .tuple #[]) := by
 refine calls_start (vs := [_]) Tryd.func48 rfl (n := 20) rfl rfl ?_
 intro a F
 refine wp_seq <| w_reg <| rl_run F (run_move (F.ev rfl)) rfl ?_; clear F a; intro a F
 refine rl_run F (run_nilCheck (F.ev rfl)) rfl ?_; clear F a; intro a F
 refine rl_run F (run_fieldAddr tok59.k rfl rfl (F.ev rfl)) rfl ?_; clear F a; intro a F
 refine rl_run F (run_load1 (agf tok56 rfl) (F.ev rfl) (M.cellL (k := 0) rfl rfl)) rfl ?_; clear F a; intro a F
 refine rl_run F (run_eqnil tok56.k (F.ev rfl) (F.ev rfl)) rfl ?_; clear F a; intro a F
 refine rl_nil <| q_tn <| w_cond_t F rfl rfl ?_
 refine w_reg ?_
 iterate 2 (refine rl_run F (run_move (F.ev rfl)) rfl ?_; clear F a; intro a F)
 refine rl_run F (run_toUnsafe M (k := 0) rfl (by simp) tok56.k (by kernel_rfl) tok59 (by decide) (F.ev rfl)) rfl ?_; clear F a; intro a F
 refine rl_run F (run_noEscape Tryd.func58 (by kernel_rfl) (by kernel_rfl) (by kernel_rfl) (by kernel_rfl) (F.ev rfl) (F.ev (x := .func 58) rfl)) rfl ?_; clear F a; intro a F
 refine rl_run F (run_fromUnsafe M (k := 0) rfl (by kernel_rfl) tok56.k tok59 (by kernel_rfl) (F.ev rfl)) rfl ?_; clear F a; intro a F
 refine rl_run F (run_nilCheck (F.ev rfl)) rfl ?_; clear F a; intro a F
 refine rl_run F (run_fieldAddr tok59.k rfl rfl (F.ev rfl)) rfl ?_; clear F a; intro a F
 refine rl_store1 F M tok56 rfl (k := 0) rfl rfl rfl rfl rfl ?_; clear F M a; intro w a M F
 refine rl_nil <| fin0n F rfl ?_
 exact ⟨M, rfl⟩
theorem copyCheck_old {w0 w : World} {G : Ghost} {L : List Res} {b n c : Nat} {ad : Option Addr} (M : Mem w0 G (.blk b [.pointer (some ⟨b, 0, none⟩), .slice ad n c] 59 :: L) w) :
  Calls Tryd.prog 48 #[.pointer (some ⟨b, 0, none⟩)] w (RetS w0 G (.blk b [.pointer (some ⟨b, 0, none⟩), .slice ad n c] 59 :: L) fun v => v = .tuple #[]) := by
 refine calls_start (vs := [_]) Tryd.func48 rfl (n := 20) rfl rfl ?_
 intro a F
 refine wp_seq <| w_reg <| rl_run F (run_move (F.ev rfl)) rfl ?_; clear F a; intro a F
 refine rl_run F (run_nilCheck (F.ev rfl)) rfl ?_; clear F a; intro a F
 refine rl_run F (run_fieldAddr tok59.k rfl rfl (F.ev rfl)) rfl ?_; clear F a; intro a F
 refine rl_run F (run_load1 (agf tok56 rfl) (F.ev rfl) (M.cellL (k := 0) rfl rfl)) rfl ?_; clear F a; intro a F
 refine rl_run F (run_eqnil tok56.k (F.ev rfl) (F.ev rfl)) rfl ?_; clear F a; intro a F
 refine rl_nil <| q_tn <| w_cond_f F rfl rfl ?_
 refine wp_seq <| w_reg <| rl_run F (run_move (F.ev rfl)) rfl ?_; clear F a; intro a F
 refine rl_run F (run_nilCheck (F.ev rfl)) rfl ?_; clear F a; intro a F
 refine rl_run F (run_fieldAddr tok59.k rfl rfl (F.ev rfl)) rfl ?_; clear F a; intro a F
 refine rl_run F (run_load1 (agf tok56 rfl) (F.ev rfl) (M.cellL (k := 0) rfl rfl)) rfl ?_; clear F a; intro a F
 refine rl_run F (run_move (F.ev rfl)) rfl ?_; clear F a; intro a F
 refine rl_run F (run_nePtr_same tok56.k tok59 (F.ev rfl) (F.ev rfl)) rfl ?_; clear F a; intro a F
 refine rl_nil <| q_tn <| w_cond_f F rfl rfl ?_
 refine wp_skip <| fin0n F rfl ?_
 exact ⟨M, rfl⟩
theorem copyCheck_spec {w0 w : World} {G : Ghost} {L : List Res} {b n c : Nat} {ad : Option Addr} {p : Value} (hp : p = .pointer none ∨ p = .pointer (some ⟨b, 0, none⟩)) (M : Mem w0 G (.blk b [p, .slice ad n c] 59 :: L) w) :
  Calls Tryd.prog 48 #[.pointer (some ⟨b, 0, none⟩)] w (RetS w0 G (.blk b [.pointer (some ⟨b, 0, none⟩), .slice ad n c] 59 :: L) fun v => v = .tuple #[]) := by
 rcases hp with rfl | rfl
 ·exact copyCheck_new M
 ·exact copyCheck_old M
theorem wstr_spec {w0 w : World} {G : Ghost} {L : List Res} {b n c : Nat} {ad : Option Addr} {l : List UInt8} {p : Value} {s : List UInt8} (hp : p = .pointer none ∨ p = .pointer (some ⟨b, 0, none⟩)) (M : Mem w0 G (.blk b [p, .slice ad n c] 59 :: .row (.slice ad n c) n (bc l) 5 1 :: L) w) (hn : n = l.length) (hnil : l = [] → ad = none) (hlen : l.length + s.length ≤ 140737488355328) :
  Calls Tryd.prog 32 #[.pointer (some ⟨b, 0, none⟩), .string (str s)] w (RetL w0 G fun L' v => v = .tuple #[.int .i64 (s.length : Nat), .nilIface] ∧ ∃ a' n' c', L' = (.blk b [.pointer (some ⟨b, 0, none⟩), .slice a' n' c'] 59 :: .row (.slice a' n' c') n' (bc (l ++ s)) 5 1 :: L) ∧ n' = (l ++ s).length ∧ (l ++ s = [] → a' = none)) := by
 have hrow : ad.isNone = true → ad = none ∧ n = 0 ∧ c = 0 ∧ _ := fun h => M.row_none (k := 1) rfl h
 refine calls_start (vs := [_, _]) Tryd.func32 rfl (n := 19) rfl rfl ?_
 intro a F
 refine wp_seq <| w_reg ?_
 iterate 2 (refine rl_run F (run_assign (F.ev rfl)) rfl ?_; clear F a; intro a F)
 refine rl_nil <| q_tn <| wp_seq <| w_reg <| rl_run F (run_move (F.ev rfl)) rfl ?_; clear F a; intro a F
 change Mem w0 G (_ :: _ :: L) _ at M
 refine rl_callS F ent48 rfl rfl (copyCheck_spec hp M) ?_; clear F M a; rintro _ w a M rfl F
 refine rl_nil <| q_tn <| wp_seq <| w_reg ?_
 iterate 2 (refine rl_run F (run_move (F.ev rfl)) rfl ?_; clear F a; intro a F)
 refine rl_run F (run_nilCheck (F.ev rfl)) rfl ?_; clear F a; intro a F
 refine rl_run F (run_fieldAddr tok59.k rfl rfl (F.ev rfl)) rfl ?_; clear F a; intro a F
 refine rl_run F (run_load1 (agf tok57 rfl) (F.ev rfl) (M.cellL (k := 0) rfl rfl)) rfl ?_; clear F a; intro a F
 refine rl_run F (run_move (F.ev rfl)) rfl ?_; clear F a; intro a F
 refine rl_appendStr F M (k := 1) rfl tok57.k tok9.k tok5 rfl rfl rfl rfl rfl (by omega) rfl ?_; clear F M a; intro v1 w a M hwv1 F
 obtain ⟨av1, cv1, rfl, hlev1, hcmv1, hlv1⟩ := M.row_shape (k := 1) rfl
 rw [← bc_append] at M
 refine rl_run F (run_nilCheck (F.ev rfl)) rfl ?_; clear F a; intro a F
 refine rl_run F (run_fieldAddr tok59.k rfl rfl (F.ev rfl)) rfl ?_; clear F a; intro a F
 refine rl_store1 F M tok57 rfl (k := 0) rfl rfl rfl rfl rfl ?_; clear F M a; intro w a M F
 refine rl_nil <| q_tn <| wp_seq <| w_reg <| rl_run F (run_move (F.ev rfl)) rfl ?_; clear F a; intro a F
 refine rl_run F (run_lenStr tok9.k (F.ev rfl)) rfl ?_; clear F a; intro a F
 iterate 2 (refine rl_run F (run_assign (F.ev rfl)) rfl ?_; clear F a; intro a F)
 refine rl_nil <| q_tn <| wp_ret <| fin2 F rfl rfl rfl ?_
 replace M := M.perm (perm_front _ 1 _ rfl)
 replace M := M.perm (perm_front _ 1 _ rfl)
 change Mem w0 G (.blk b [.pointer (some ⟨b, 0, none⟩), .slice (av1) (n + (s).length) (cv1)] 59 :: _ :: L) _ at M
 exact ⟨_, M, rfl, _, _, _, rfl, by rw [List.length_append, hn], fun h => by obtain ⟨h1, h2⟩ := List.append_eq_nil_iff.1 h; have h3 := hnil h1; subst h3; obtain ⟨_, h4, h5, _⟩ := hrow rfl; subst h4 h5; have h6 := hwv1.2 ⟨rfl, h2⟩; simp only [Value.slice.injEq] at h6; exact h6.1⟩
theorem bstr_none {w0 w : World} {G : Ghost} {L : List Res} {b c gb : Nat} {p : Value} {l : List UInt8} (M : Mem w0 G (.blk b [p, .slice none 0 0] 59 :: .row (.slice none 0 0) 0 (bc []) 5 1 :: L) w) :
  Calls Tryd.prog 34 #[.pointer (some ⟨b, 0, none⟩)] w (RetS w0 G L fun v => v = .string (str [])) := by
 refine calls_start (vs := [_]) Tryd.func34 rfl (n := 14) rfl rfl ?_
 intro a F
 refine wp_seq <| w_reg <| rl_run F (run_assign (F.ev rfl)) rfl ?_; clear F a; intro a F
 refine rl_nil <| q_tn <| wp_seq <| w_plan [(true, 0), (true, 1), (true, 2), (true, 3), (true, 5), (true, 6), (true, 7), (true, 8), (true, 9), (false, 4), (false, 10), (true, 11)] (Keep G [.blk b [p, .slice none (0) (0)] 59]) rfl (by kernel_rfl) (fun c a d v w h => by cases d <;> exact h) ((M.drew _).keep (Gle.refl _) (by simp)) ?_
 replace M := M.drew (w.drawn + 1)
 refine pl_run F (fun w M => run_move (F.ev rfl)) rfl ?_; clear F a; intro a F
 refine pl_run F (fun w M => run_nilCheck (F.ev rfl)) rfl ?_; clear F a; intro a F
 refine pl_run F (fun w M => run_fieldAddr tok59.k rfl rfl (F.ev rfl)) rfl ?_; clear F a; intro a F
 refine pl_run F (fun w M => run_load1 (agf tok57 rfl) (F.ev rfl) (M.cellL (k := 0) rfl rfl)) rfl ?_; clear F a; intro a F
 refine pl_run F (fun w M => run_move (F.ev rfl)) rfl ?_; clear F a; intro a F
 refine pl_run F (fun w M => run_nilCheck (F.ev rfl)) rfl ?_; clear F a; intro a F
 refine pl_run F (fun w M => run_fieldAddr tok59.k rfl rfl (F.ev rfl)) rfl ?_; clear F a; intro a F
 refine pl_run F (fun w M => run_load1 (agf tok57 rfl) (F.ev rfl) (M.cellL (k := 0) rfl rfl)) rfl ?_; clear F a; intro a F
 refine pl_run F (fun w M => run_lenSl tok57.k (F.ev rfl)) rfl ?_; clear F a; intro a F
 refine pl_act ?_ rfl
 refine rl_run F (run_sliceData0 (F.ev rfl)) rfl ?_; clear F a; intro a F
 refine rl_nil <| ⟨Keep G [.blk b [p, .slice none (0) (0)] 59], M.keep (Gle.refl _) (by simp), fun w h => h.mono (Gle.refl _) (by simp), ?_⟩
 refine pl_act ?_ rfl
 refine rl_run F (run_unsafeStr0 (F.ev rfl) (F.ev rfl)) rfl ?_; clear F a; intro a F
 refine rl_nil <| ⟨Keep G [.blk b [p, .slice none (0) (0)] 59], M.keep (Gle.refl _) (by simp), fun w h => h.mono (Gle.refl _) (by simp), ?_⟩
 refine pl_run F (fun w M => run_assign (F.ev rfl)) rfl ?_; clear F a; intro a F
 refine pl_nil <| q_tn <| wp_ret <| fin1 F rfl rfl ?_
 exact ⟨M.weaken (.cons _ (.cons _ (List.Sublist.refl _))), rfl⟩
theorem bstr_some {w0 w : World} {G : Ghost} {L : List Res} {b c gb : Nat} {p : Value} {l : List UInt8} (M : Mem w0 G (.blk b [p, .slice (some ⟨gb, 0, none⟩) (l.length) c] 59 :: .row (.slice (some ⟨gb, 0, none⟩) (l.length) c) (l.length) (bc l) 5 1 :: L) w) (h0 : l ≠ []) (hc : l.length ≤ c) :
  Calls Tryd.prog 34 #[.pointer (some ⟨b, 0, none⟩)] w (RetS w0 G L fun v => v = .string (str l)) := by
 have h0' : 0 < l.length := List.length_pos_iff.2 h0
 refine calls_start (vs := [_]) Tryd.func34 rfl (n := 14) rfl rfl ?_
 intro a F
 refine wp_seq <| w_reg <| rl_run F (run_assign (F.ev rfl)) rfl ?_; clear F a; intro a F
 refine rl_nil <| q_tn <| wp_seq <| w_plan [(true, 0), (true, 1), (true, 2), (true, 3), (true, 5), (true, 6), (true, 7), (true, 8), (true, 9), (false, 4), (false, 10), (true, 11)] (Keep G [.blk b [p, .slice (some ⟨gb, 0, none⟩) (l.length) (c)] 59]) rfl (by kernel_rfl) (fun c a d v w h => by cases d <;> exact h) ((M.drew _).keep (Gle.refl _) (by simp)) ?_
 replace M := M.drew (w.drawn + 1)
 refine pl_run F (fun w M => run_move (F.ev rfl)) rfl ?_; clear F a; intro a F
 refine pl_run F (fun w M => run_nilCheck (F.ev rfl)) rfl ?_; clear F a; intro a F
 refine pl_run F (fun w M => run_fieldAddr tok59.k rfl rfl (F.ev rfl)) rfl ?_; clear F a; intro a F
 refine pl_run F (fun w M => run_load1 (agf tok57 rfl) (F.ev rfl) (M.cellL (k := 0) rfl rfl)) rfl ?_; clear F a; intro a F
 refine pl_run F (fun w M => run_move (F.ev rfl)) rfl ?_; clear F a; intro a F
 refine pl_run F (fun w M => run_nilCheck (F.ev rfl)) rfl ?_; clear F a; intro a F
 refine pl_run F (fun w M => run_fieldAddr tok59.k rfl rfl (F.ev rfl)) rfl ?_; clear F a; intro a F
 refine pl_run F (fun w M => run_load1 (agf tok57 rfl) (F.ev rfl) (M.cellL (k := 0) rfl rfl)) rfl ?_; clear F a; intro a F
 refine pl_run F (fun w M => run_lenSl tok57.k (F.ev rfl)) rfl ?_; clear F a; intro a F
 refine pl_act ?_ rfl
 refine rl_run F (run_sliceData (F.ev rfl) (by omega)) rfl ?_; clear F a; intro a F
 refine rl_nil <| ⟨Keep G [.blk b [p, .slice (some ⟨gb, 0, none⟩) (l.length) (c)] 59], M.keep (Gle.refl _) (by simp), fun w h => h.mono (Gle.refl _) (by simp), ?_⟩
 refine pl_act ?_ rfl
 refine rl_unsafeStr F M (k := 1) rfl tok85.k tok5 rfl h0 rfl rfl rfl ?_; clear F M a; intro w a M F
 refine rl_nil <| ⟨Keep G [.blk b [p, .slice (some ⟨gb, 0, none⟩) (l.length) (c)] 59], M.keep (Gle.refl _) (by simp), fun w h => h.mono (Gle.refl _) (by simp), ?_⟩
 refine pl_run F (fun w M => run_assign (F.ev rfl)) rfl ?_; clear F a; intro a F
 refine pl_nil <| q_tn <| wp_ret <| fin1 F rfl rfl ?_
 exact ⟨M.weaken (.cons _ (List.Sublist.refl _)), rfl⟩
theorem bstr_spec {w0 w : World} {G : Ghost} {L : List Res} {b n c : Nat} {ad : Option Addr} {l : List UInt8} {p : Value} (M : Mem w0 G (.blk b [p, .slice ad n c] 59 :: .row (.slice ad n c) n (bc l) 5 1 :: L) w) (hn : n = l.length) (hnil : l = [] → ad = none) :
  Calls Tryd.prog 34 #[.pointer (some ⟨b, 0, none⟩)] w (RetS w0 G L fun v => v = .string (str l)) := by
 subst hn
 by_cases h0 : l = []
 ·have h1 := hnil h0
  subst h1 h0
  obtain ⟨_, _, h4, _⟩ := M.row_none (k := 1) rfl rfl
  subst h4
  exact bstr_none (gb := 0) (c := 0) (l := []) M
 ·have h0' : 0 < l.length := List.length_pos_iff.2 h0
  obtain ⟨gb, h1⟩ := M.row_some (k := 1) rfl h0'
  subst h1
  obtain ⟨_, _, he, hle, _⟩ := M.row_shape (k := 1) rfl
  simp only [Value.slice.injEq] at he
  exact bstr_some M h0 (by omega)
end Go.Proofs.YtmmhmcplegpenaaDoor
