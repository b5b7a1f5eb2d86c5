/- The walks, part P. -/
import Derived.Test.YtlnehkjmmegkhaaGreatWalkO
namespace Go.Proofs.YtlnehkjmmegkhaaGreat
open Go Go.Y Go.Proofs
set_option linter.unusedSimpArgs false
set_option linter.unusedVariables false
theorem copyCheck_new {w0 w : World} {G : Ghost} {L : List Res} {b n c : Nat} {ad : Option Addr} (M : Mem w0 G (.blk b [.pointer none, .slice ad n c] 113 :: L) w) :
  Calls Tryz.prog 116 #[.pointer (some ⟨b, 0, none⟩)] w (RetS w0 G (.blk b [.pointer (some ⟨b, 0, none⟩), .slice ad n c] 113 :: L) fun v => v = .tuple #[]) := by
 refine calls_start (vs := [_]) Tryz.func116 rfl (n := 20) rfl rfl ?_
 intro a F
 refine wp_seq <| w_reg <| rl_run F (run_move (F.ev rfl)) rfl ?_; clear F a; intro a F
 refine rl_run F (run_nilCheck (F.ev rfl)) rfl ?_; clear F a; intro a F
 refine rl_run F (run_fieldAddr tok113.k rfl rfl (F.ev rfl)) rfl ?_; clear F a; intro a F
 refine rl_run F (run_load1 (agf tok111 rfl) (F.ev rfl) (M.cellL (k := 0) rfl rfl)) rfl ?_; clear F a; intro a F
 refine rl_run F (run_eqnil tok111.k (F.ev rfl) (F.ev rfl)) rfl ?_; clear F a; intro a F
 refine rl_nil <| q_tn <| w_cond_t F rfl rfl ?_
 refine w_reg ?_
 iterate 2 (refine rl_run F (run_move (F.ev rfl)) rfl ?_; clear F a; intro a F)
 refine rl_run F (run_toUnsafe M (k := 0) rfl (by simp) tok111.k (by kernel_rfl) tok113 (by decide) (F.ev rfl)) rfl ?_; clear F a; intro a F
 refine rl_run F (run_noEscape Tryz.func124 (by kernel_rfl) (by kernel_rfl) (by kernel_rfl) (by kernel_rfl) (F.ev rfl) (F.ev (x := .func 124) rfl)) rfl ?_; clear F a; intro a F
 refine rl_run F (run_fromUnsafe M (k := 0) rfl (by kernel_rfl) tok111.k tok113 (by kernel_rfl) (F.ev rfl)) rfl ?_; clear F a; intro a F
 refine rl_run F (run_nilCheck (F.ev rfl)) rfl ?_; clear F a; intro a F
 refine rl_run F (run_fieldAddr tok113.k rfl rfl (F.ev rfl)) rfl ?_; clear F a; intro a F
 refine rl_store1 F M tok111 rfl (k := 0) rfl rfl rfl rfl rfl ?_; clear F M a; intro w a M F
 refine rl_nil <| fin0n F rfl ?_
 exact ⟨M, rfl⟩
theorem copyCheck_old {w0 w : World} {G : Ghost} {L : List Res} {b n c : Nat} {ad : Option Addr} (M : Mem w0 G (.blk b [.pointer (some ⟨b, 0, none⟩), .slice ad n c] 113 :: L) w) :
  Calls Tryz.prog 116 #[.pointer (some ⟨b, 0, none⟩)] w (RetS w0 G (.blk b [.pointer (some ⟨b, 0, none⟩), .slice ad n c] 113 :: L) fun v => v = .tuple #[]) := by
 refine calls_start (vs := [_]) Tryz.func116 rfl (n := 20) rfl rfl ?_
 intro a F
 refine wp_seq <| w_reg <| rl_run F (run_move (F.ev rfl)) rfl ?_; clear F a; intro a F
 refine rl_run F (run_nilCheck (F.ev rfl)) rfl ?_; clear F a; intro a F
 refine rl_run F (run_fieldAddr tok113.k rfl rfl (F.ev rfl)) rfl ?_; clear F a; intro a F
 refine rl_run F (run_load1 (agf tok111 rfl) (F.ev rfl) (M.cellL (k := 0) rfl rfl)) rfl ?_; clear F a; intro a F
 refine rl_run F (run_eqnil tok111.k (F.ev rfl) (F.ev rfl)) rfl ?_; clear F a; intro a F
 refine rl_nil <| q_tn <| w_cond_f F rfl rfl ?_
 refine wp_seq <| w_reg <| rl_run F (run_move (F.ev rfl)) rfl ?_; clear F a; intro a F
 refine rl_run F (run_nilCheck (F.ev rfl)) rfl ?_; clear F a; intro a F
 refine rl_run F (run_fieldAddr tok113.k rfl rfl (F.ev rfl)) rfl ?_; clear F a; intro a F
 refine rl_run F (run_load1 (agf tok111 rfl) (F.ev rfl) (M.cellL (k := 0) rfl rfl)) rfl ?_; clear F a; intro a F
 refine rl_run F (run_move (F.ev rfl)) rfl ?_; clear F a; intro a F
 refine rl_run F (run_nePtr_same tok111.k tok113 (F.ev rfl) (F.ev rfl)) rfl ?_; clear F a; intro a F
 refine rl_nil <| q_tn <| w_cond_f F rfl rfl ?_
 refine wp_skip <| fin0n F rfl ?_
 exact ⟨M, rfl⟩
theorem copyCheck_spec {w0 w : World} {G : Ghost} {L : List Res} {b n c : Nat} {ad : Option Addr} {p : Value} (hp : p = .pointer none ∨ p = .pointer (some ⟨b, 0, none⟩)) (M : Mem w0 G (.blk b [p, .slice ad n c] 113 :: L) w) :
  Calls Tryz.prog 116 #[.pointer (some ⟨b, 0, none⟩)] w (RetS w0 G (.blk b [.pointer (some ⟨b, 0, none⟩), .slice ad n c] 113 :: L) fun v => v = .tuple #[]) := by
 rcases hp with rfl | rfl
 ·exact copyCheck_new M
 ·exact copyCheck_old M
theorem wstr_spec {w0 w : World} {G : Ghost} {L : List Res} {b n c : Nat} {ad : Option Addr} {l : List UInt8} {p : Value} {s : List UInt8} (hp : p = .pointer none ∨ p = .pointer (some ⟨b, 0, none⟩)) (M : Mem w0 G (.blk b [p, .slice ad n c] 113 :: .row (.slice ad n c) n (bc l) 5 1 :: L) w) (hn : n = l.length) (hnil : l = [] → ad = none) (hlen : l.length + s.length ≤ 140737488355328) :
  Calls Tryz.prog 98 #[.pointer (some ⟨b, 0, none⟩), .string (str s)] w (RetL w0 G fun L' v => v = .tuple #[.int .i64 (s.length : Nat), .nilIface] ∧ ∃ a' n' c', L' = (.blk b [.pointer (some ⟨b, 0, none⟩), .slice a' n' c'] 113 :: .row (.slice a' n' c') n' (bc (l ++ s)) 5 1 :: L) ∧ n' = (l ++ s).length ∧ (l ++ s = [] → a' = none)) := by
 have hrow : ad.isNone = true → ad = none ∧ n = 0 ∧ c = 0 ∧ _ := fun h => M.row_none (k := 1) rfl h
 refine calls_start (vs := [_, _]) Tryz.func98 rfl (n := 19) rfl rfl ?_
 intro a F
 refine wp_seq <| w_reg ?_
 iterate 2 (refine rl_run F (run_assign (F.ev rfl)) rfl ?_; clear F a; intro a F)
 refine rl_nil <| q_tn <| wp_seq <| w_reg <| rl_run F (run_move (F.ev rfl)) rfl ?_; clear F a; intro a F
 change Mem w0 G (_ :: _ :: L) _ at M
 refine rl_callS F ent116 rfl rfl (copyCheck_spec hp M) ?_; clear F M a; rintro _ w a M rfl F
 refine rl_nil <| q_tn <| wp_seq <| w_reg ?_
 iterate 2 (refine rl_run F (run_move (F.ev rfl)) rfl ?_; clear F a; intro a F)
 refine rl_run F (run_nilCheck (F.ev rfl)) rfl ?_; clear F a; intro a F
 refine rl_run F (run_fieldAddr tok113.k rfl rfl (F.ev rfl)) rfl ?_; clear F a; intro a F
 refine rl_run F (run_load1 (agf tok22 rfl) (F.ev rfl) (M.cellL (k := 0) rfl rfl)) rfl ?_; clear F a; intro a F
 refine rl_run F (run_move (F.ev rfl)) rfl ?_; clear F a; intro a F
 refine rl_appendStr F M (k := 1) rfl tok22.k tok9.k tok5 rfl rfl rfl rfl rfl (by omega) rfl ?_; clear F M a; intro v1 w a M hwv1 F
 obtain ⟨av1, cv1, rfl, hlev1, hcmv1, hlv1⟩ := M.row_shape (k := 1) rfl
 rw [← bc_append] at M
 refine rl_run F (run_nilCheck (F.ev rfl)) rfl ?_; clear F a; intro a F
 refine rl_run F (run_fieldAddr tok113.k rfl rfl (F.ev rfl)) rfl ?_; clear F a; intro a F
 refine rl_store1 F M tok22 rfl (k := 0) rfl rfl rfl rfl rfl ?_; clear F M a; intro w a M F
 refine rl_nil <| q_tn <| wp_seq <| w_reg <| rl_run F (run_move (F.ev rfl)) rfl ?_; clear F a; intro a F
 refine rl_run F (run_lenStr tok9.k (F.ev rfl)) rfl ?_; clear F a; intro a F
 iterate 2 (refine rl_run F (run_assign (F.ev rfl)) rfl ?_; clear F a; intro a F)
 refine rl_nil <| q_tn <| wp_ret <| fin2 F rfl rfl rfl ?_
 replace M := M.perm (perm_front _ 1 _ rfl)
 replace M := M.perm (perm_front _ 1 _ rfl)
 change Mem w0 G (.blk b [.pointer (some ⟨b, 0, none⟩), .slice (av1) (n + (s).length) (cv1)] 113 :: _ :: L) _ at M
 exact ⟨_, M, rfl, _, _, _, rfl, by rw [List.length_append, hn], fun h => by obtain ⟨h1, h2⟩ := List.append_eq_nil_iff.1 h; have h3 := hnil h1; subst h3; obtain ⟨_, h4, h5, _⟩ := hrow rfl; subst h4 h5; have h6 := hwv1.2 ⟨rfl, h2⟩; simp only [Value.slice.injEq] at h6; exact h6.1⟩
theorem bstr_none {w0 w : World} {G : Ghost} {L : List Res} {b c gb : Nat} {p : Value} {l : List UInt8} (M : Mem w0 G (.blk b [p, .slice none 0 0] 113 :: .row (.slice none 0 0) 0 (bc []) 5 1 :: L) w) :
  Calls Tryz.prog 78 #[.pointer (some ⟨b, 0, none⟩)] w (RetS w0 G L fun v => v = .string (str [])) := by
 refine calls_start (vs := [_]) Tryz.func78 rfl (n := 14) rfl rfl ?_
 intro a F
 refine wp_seq <| w_reg <| rl_run F (run_assign (F.ev rfl)) rfl ?_; clear F a; intro a F
 refine rl_nil <| q_tn <| wp_seq <| w_plan [(true, 0), (true, 1), (true, 2), (true, 3), (true, 5), (true, 6), (true, 7), (true, 8), (true, 9), (false, 4), (false, 10), (true, 11)] (Keep G [.blk b [p, .slice none (0) (0)] 113]) rfl (by kernel_rfl) (fun c a d v w h => by cases d <;> exact h) ((M.drew _).keep (Gle.refl _) (by simp)) ?_
 replace M := M.drew (w.drawn + 1)
 refine pl_run F (fun w M => run_move (F.ev rfl)) rfl ?_; clear F a; intro a F
 refine pl_run F (fun w M => run_nilCheck (F.ev rfl)) rfl ?_; clear F a; intro a F
 refine pl_run F (fun w M => run_fieldAddr tok113.k rfl rfl (F.ev rfl)) rfl ?_; clear F a; intro a F
 refine pl_run F (fun w M => run_load1 (agf tok22 rfl) (F.ev rfl) (M.cellL (k := 0) rfl rfl)) rfl ?_; clear F a; intro a F
 refine pl_run F (fun w M => run_move (F.ev rfl)) rfl ?_; clear F a; intro a F
 refine pl_run F (fun w M => run_nilCheck (F.ev rfl)) rfl ?_; clear F a; intro a F
 refine pl_run F (fun w M => run_fieldAddr tok113.k rfl rfl (F.ev rfl)) rfl ?_; clear F a; intro a F
 refine pl_run F (fun w M => run_load1 (agf tok22 rfl) (F.ev rfl) (M.cellL (k := 0) rfl rfl)) rfl ?_; clear F a; intro a F
 refine pl_run F (fun w M => run_lenSl tok22.k (F.ev rfl)) rfl ?_; clear F a; intro a F
 refine pl_act ?_ rfl
 refine rl_run F (run_sliceData0 (F.ev rfl)) rfl ?_; clear F a; intro a F
 refine rl_nil <| ⟨Keep G [.blk b [p, .slice none (0) (0)] 113], M.keep (Gle.refl _) (by simp), fun w h => h.mono (Gle.refl _) (by simp), ?_⟩
 refine pl_act ?_ rfl
 refine rl_run F (run_unsafeStr0 (F.ev rfl) (F.ev rfl)) rfl ?_; clear F a; intro a F
 refine rl_nil <| ⟨Keep G [.blk b [p, .slice none (0) (0)] 113], M.keep (Gle.refl _) (by simp), fun w h => h.mono (Gle.refl _) (by simp), ?_⟩
 refine pl_run F (fun w M => run_assign (F.ev rfl)) rfl ?_; clear F a; intro a F
 refine pl_nil <| q_tn <| wp_ret <| fin1 F rfl rfl ?_
 exact ⟨M.weaken (.cons _ (.cons _ (List.Sublist.refl _))), rfl⟩
theorem bstr_some {w0 w : World} {G : Ghost} {L : List Res} {b c gb : Nat} {p : Value} {l : List UInt8} (M : Mem w0 G (.blk b [p, .slice (some ⟨gb, 0, none⟩) (l.length) c] 113 :: .row (.slice (some ⟨gb, 0, none⟩) (l.length) c) (l.length) (bc l) 5 1 :: L) w) (h0 : l ≠ []) (hc : l.length ≤ c) :
  Calls Tryz.prog 78 #[.pointer (some ⟨b, 0, none⟩)] w (RetS w0 G L fun v => v = .string (str l)) := by
 have h0' : 0 < l.length := List.length_pos_iff.2 h0
 refine calls_start (vs := [_]) Tryz.func78 rfl (n := 14) rfl rfl ?_
 intro a F
 refine wp_seq <| w_reg <| rl_run F (run_assign (F.ev rfl)) rfl ?_; clear F a; intro a F
 refine rl_nil <| q_tn <| wp_seq <| w_plan [(true, 0), (true, 1), (true, 2), (true, 3), (true, 5), (true, 6), (true, 7), (true, 8), (true, 9), (false, 4), (false, 10), (true, 11)] (Keep G [.blk b [p, .slice (some ⟨gb, 0, none⟩) (l.length) (c)] 113]) rfl (by kernel_rfl) (fun c a d v w h => by cases d <;> exact h) ((M.drew _).keep (Gle.refl _) (by simp)) ?_
 replace M := M.drew (w.drawn + 1)
 refine pl_run F (fun w M => run_move (F.ev rfl)) rfl ?_; clear F a; intro a F
 refine pl_run F (fun w M => run_nilCheck (F.ev rfl)) rfl ?_; clear F a; intro a F
 refine pl_run F (fun w M => run_fieldAddr tok113.k rfl rfl (F.ev rfl)) rfl ?_; clear F a; intro a F
 refine pl_run F (fun w M => run_load1 (agf tok22 rfl) (F.ev rfl) (M.cellL (k := 0) rfl rfl)) rfl ?_; clear F a; intro a F
 refine pl_run F (fun w M => run_move (F.ev rfl)) rfl ?_; clear F a; intro a F
 refine pl_run F (fun w M => run_nilCheck (F.ev rfl)) rfl ?_; clear F a; intro a F
 refine pl_run F (fun w M => run_fieldAddr tok113.k rfl rfl (F.ev rfl)) rfl ?_; clear F a; intro a F
 refine pl_run F (fun w M => run_load1 (agf tok22 rfl) (F.ev rfl) (M.cellL (k := 0) rfl rfl)) rfl ?_; clear F a; intro a F
 refine pl_run F (fun w M => run_lenSl tok22.k (F.ev rfl)) rfl ?_; clear F a; intro a F
 refine pl_act ?_ rfl
 refine rl_run F (run_sliceData (F.ev rfl) (by omega)) rfl ?_; clear F a; intro a F
 refine rl_nil <| ⟨Keep G [.blk b [p, .slice (some ⟨gb, 0, none⟩) (l.length) (c)] 113], M.keep (Gle.refl _) (by simp), fun w h => h.mono (Gle.refl _) (by simp), ?_⟩
 refine pl_act ?_ rfl
 refine rl_unsafeStr F M (k := 1) rfl tok141.k tok5 rfl h0 rfl rfl rfl ?_; clear F M a; intro w a M F
 refine rl_nil <| ⟨Keep G [.blk b [p, .slice (some ⟨gb, 0, none⟩) (l.length) (c)] 113], M.keep (Gle.refl _) (by simp), fun w h => h.mono (Gle.refl _) (by simp), ?_⟩
 refine pl_run F (fun w M => run_assign (F.ev rfl)) rfl ?_; clear F a; intro a F
 refine pl_nil <| q_tn <| wp_ret <| fin1 F rfl rfl ?_
 exact ⟨M.weaken (.cons _ (List.Sublist.refl _)), rfl⟩
theorem bstr_spec {w0 w : World} {G : Ghost} {L : List Res} {b n c : Nat} {ad : Option Addr} {l : List UInt8} {p : Value} (M : Mem w0 G (.blk b [p, .slice ad n c] 113 :: .row (.slice ad n c) n (bc l) 5 1 :: L) w) (hn : n = l.length) (hnil : l = [] → ad = none) :
  Calls Tryz.prog 78 #[.pointer (some ⟨b, 0, none⟩)] w (RetS w0 G L fun v => v = .string (str l)) := by
 subst hn
 by_cases h0 : l = []
 ·have h1 := hnil h0
  subst h1 h0
  obtain ⟨_, _, h4, _⟩ := M.row_none (k := 1) rfl rfl
  subst h4
  exact bstr_none (gb := 0) (c := 0) (l := []) M
 ·have h0' : 0 < l.length := List.length_pos_iff.2 h0
  obtain ⟨gb, h1⟩ := M.row_some (k := 1) rfl h0'
  subst h1
  obtain ⟨_, _, he, hle, _⟩ := M.row_shape (k := 1) rfl
  simp only [Value.slice.injEq] at he
  exact bstr_some M h0 (by omega)
def attrT (a : AttrD) : List UInt8 := [32] ++ a.n ++ [61] ++ quoteF a.v
def attrsT : List AttrD → List UInt8
 | [] => []
 | a :: l => attrT a ++ attrsT l
def keyT (k : List UInt8) : List UInt8 := if k = [] then [] else [58] ++ k
mutual
/-- The text of a tree. -/
def textN : NT → List UInt8
 | .mk k t ky ats tx l => if k = 2 then quoteF tx else [60] ++ t ++ keyT ky ++ attrsT ats ++ (if l.length = 0 then [47, 62] else [62] ++ textsN l ++ ([60, 47] ++ t ++ [62]))
def textsN : List NT → List UInt8
 | [] => []
 | x :: l => textN x ++ textsN l
end
theorem textN_words {x : NT} (h : x.kind = 2) : textN x = quoteF x.text := by
 obtain ⟨k, t, ky, l, tx, c⟩ := x; simp only [Tr.kind] at h; simp only [textN, Tr.text]; rw [if_pos h]
theorem textN_leaf {x : NT} (h : ¬ x.kind = 2) (h2 : x.kids.length = 0) : textN x = [60] ++ x.tag ++ keyT x.key ++ attrsT x.as ++ [47, 62] := by
 obtain ⟨k, t, ky, l, tx, c⟩ := x; simp only [Tr.kind] at h; simp only [Tr.kids] at h2; simp only [textN, Tr.tag, Tr.key, Tr.as]; rw [if_neg h, if_pos h2]
theorem textN_node {x : NT} (h : ¬ x.kind = 2) (h2 : ¬ x.kids.length = 0) : textN x = [60] ++ x.tag ++ keyT x.key ++ attrsT x.as ++ ([62] ++ textsN x.kids ++ ([60, 47] ++ x.tag ++ [62])) := by
 obtain ⟨k, t, ky, l, tx, c⟩ := x; simp only [Tr.kind] at h; simp only [Tr.kids] at h2; simp only [textN, Tr.tag, Tr.key, Tr.as, Tr.kids]; rw [if_neg h, if_neg h2]
theorem attrsT_append : ∀ (l m : List AttrD), attrsT (l ++ m) = attrsT l ++ attrsT m
 | [], m => rfl
 | x :: l, m => by simp only [List.cons_append, attrsT, attrsT_append l m, List.append_assoc]
theorem textsN_append : ∀ (l m : List NT), textsN (l ++ m) = textsN l ++ textsN m
 | [], m => by simp [textsN]
 | x :: l, m => by simp only [List.cons_append, textsN, textsN_append l m, List.append_assoc]
theorem attrsT_snoc {l : List AttrD} {i : Nat} {x : AttrD} (h : l[i]? = some x) : attrsT (l.take (i + 1)) = attrsT (l.take i) ++ attrT x := by
 rw [Tr.take_snoc' h, attrsT_append]; simp [attrsT]
theorem textsN_snoc {l : List NT} {i : Nat} {x : NT} (h : l[i]? = some x) : textsN (l.take (i + 1)) = textsN (l.take i) ++ textN x := by
 rw [Tr.take_snoc' h, textsN_append]; simp [textsN]
theorem attrsT_le {l : List AttrD} {i : Nat} {x : AttrD} (h : l[i]? = some x) : (attrsT (l.take i)).length + (x.n.length + (quoteF x.v).length + 2) ≤ (attrsT l).length := by
 have h1 := congrArg List.length (attrsT_snoc h)
 have h2 : (attrsT l).length = (attrsT (l.take (i + 1))).length + (attrsT (l.drop (i + 1))).length := by rw [← List.length_append, ← attrsT_append, List.take_append_drop]
 simp only [attrT, List.length_append, List.length_cons, List.length_nil] at h1; omega
theorem textsN_le {l : List NT} {i : Nat} {x : NT} (h : l[i]? = some x) : (textsN (l.take i)).length + (textN x).length ≤ (textsN l).length := by
 have h1 := congrArg List.length (textsN_snoc h)
 have h2 : (textsN l).length = (textsN (l.take (i + 1))).length + (textsN (l.drop (i + 1))).length := by rw [← List.length_append, ← textsN_append, List.take_append_drop]
 simp only [List.length_append] at h1; omega
/-- A tree whose strings are short, without quotation mark and backslash. -/
def PlainA (x : NT) : Prop := ShortQ x.text ∧ ∀ a ∈ x.as, ShortQ a.v
theorem keyT_yes {k : List UInt8} (h : ¬ k = []) : keyT k = [58] ++ k := by rw [keyT, if_neg h]
theorem keyT_no {k : List UInt8} (h : k = []) : keyT k = [] := by rw [keyT, if_pos h]
theorem attrsT_all {l : List AttrD} {i : Nat} (h : l.length ≤ i) : attrsT (l.take i) = attrsT l := by rw [List.take_of_length_le h]
theorem textsN_all {l : List NT} {i : Nat} (h : l.length ≤ i) : textsN (l.take i) = textsN l := by rw [List.take_of_length_le h]
theorem textN_len (x : NT) : (x.kind = 2 → (textN x).length = (quoteF x.text).length) ∧ (¬ x.kind = 2 → (textN x).length = x.tag.length + (keyT x.key).length + (attrsT x.as).length + 3 + (if x.kids.length = 0 then 0 else (textsN x.kids).length + x.tag.length + 2)) := by
 refine ⟨fun h => by rw [textN_words h], fun h => ?_⟩
 by_cases h2 : x.kids.length = 0
 ·rw [textN_leaf h h2, if_pos h2]; simp only [List.length_append, List.length_cons, List.length_nil]; omega
 ·rw [textN_node h h2, if_neg h2]; simp only [List.length_append, List.length_cons, List.length_nil]; omega
theorem keyT_len (k : List UInt8) : k.length ≤ (keyT k).length ∧ (¬ k = [] → (keyT k).length = k.length + 1) := by
 by_cases h : k = []
 ·rw [keyT_no h, h]; exact ⟨Nat.le_refl _, fun h => absurd rfl h⟩
 ·rw [keyT_yes h]; simp only [List.length_append, List.length_cons, List.length_nil]; exact ⟨by omega, fun _ => by omega⟩
end Go.Proofs.YtlnehkjmmegkhaaGreat
