/- The walks, part P. -/
import Derived.Test.YtlnehkjmmegkhaaGreatWalkO
namespace Go.Proofs.YtlnehkjmmegkhaaGreat
open Go Go.Y Go.Proofs
set_option linter.unusedSimpArgs false
set_option linter.unusedVariables false
theorem copyCheck_new {w0 w : World} {G : Ghost} {L : List Res} {b n c : Nat} {ad : Option Addr} (M : Mem w0 G (.blk b [.pointer none, .slice ad n c] 113 :: L) w) :
    Calls Tryz.prog 116 #[.pointer (some ⟨b, 0, none⟩)] w (RetS w0 G (.blk b [.pointer (some ⟨b, 0, none⟩), .slice ad n c] 113 :: L) fun v => v = .tuple #[]) := by
  refine calls_start (vs := [_]) Tryz.func116 rfl (n := 20) rfl rfl ?_
  intro a F
  refine wp_seq <| w_reg <| rl_run F (run_move (F.ev rfl)) rfl ?_; clear F a; intro a F
  refine rl_run F (run_nilCheck (F.ev rfl)) rfl ?_; clear F a; intro a F
  refine rl_run F (run_fieldAddr tok113.k rfl rfl (F.ev rfl)) rfl ?_; clear F a; intro a F
  refine rl_run F (run_load1 (agf tok111 rfl) (F.ev rfl) (M.cellL (k := 0) rfl rfl)) rfl ?_; clear F a; intro a F
  refine rl_run F (run_eqnil tok111.k (F.ev rfl) (F.ev rfl)) rfl ?_; clear F a; intro a F
  refine rl_nil <| q_tn <| w_cond_t F rfl rfl ?_
  refine w_reg ?_
  iterate 2 (refine rl_run F (run_move (F.ev rfl)) rfl ?_; clear F a; intro a F)
  refine rl_run F (run_toUnsafe M (k := 0) rfl (by simp) tok111.k (by kernel_rfl) tok113 (by decide) (F.ev rfl)) rfl ?_; clear F a; intro a F
  refine rl_run F (run_noEscape Tryz.func124 (by kernel_rfl) (by kernel_rfl) (by kernel_rfl) (by kernel_rfl) (F.ev rfl) (F.ev (x := .func 124) rfl)) rfl ?_; clear F a; intro a F
  refine rl_run F (run_fromUnsafe M (k := 0) rfl (by kernel_rfl) tok111.k tok113 (by kernel_rfl) (F.ev rfl)) rfl ?_; clear F a; intro a F
  refine rl_run F (run_nilCheck (F.ev rfl)) rfl ?_; clear F a; intro a F
  refine rl_run F (run_fieldAddr tok113.k rfl rfl (F.ev rfl)) rfl ?_; clear F a; intro a F
  refine rl_store1 F M tok111 rfl (k := 0) rfl rfl rfl rfl rfl ?_; clear F M a; intro w a M F
  refine rl_nil <| fin0n F rfl ?_
  exact ⟨M, rfl⟩
theorem copyCheck_old {w0 w : World} {G : Ghost} {L : List Res} {b n c : Nat} {ad : Option Addr} (M : Mem w0 G (.blk b [.pointer (some ⟨b, 0, none⟩), .slice ad n c] 113 :: L) w) :
    Calls Tryz.prog 116 #[.pointer (some ⟨b, 0, none⟩)] w (RetS w0 G (.blk b [.pointer (some ⟨b, 0, none⟩), .slice ad n c] 113 :: L) fun v => v = .tuple #[]) := by
  refine calls_start (vs := [_]) Tryz.func116 rfl (n := 20) rfl rfl ?_
  intro a F
  refine wp_seq <| w_reg <| rl_run F (run_move (F.ev rfl)) rfl ?_; clear F a; intro a F
  refine rl_run F (run_nilCheck (F.ev rfl)) rfl ?_; clear F a; intro a F
  refine rl_run F (run_fieldAddr tok113.k rfl rfl (F.ev rfl)) rfl ?_; clear F a; intro a F
  refine rl_run F (run_load1 (agf tok111 rfl) (F.ev rfl) (M.cellL (k := 0) rfl rfl)) rfl ?_; clear F a; intro a F
  refine rl_run F (run_eqnil tok111.k (F.ev rfl) (F.ev rfl)) rfl ?_; clear F a; intro a F
  refine rl_nil <| q_tn <| w_cond_f F rfl rfl ?_
  refine wp_seq <| w_reg <| rl_run F (run_move (F.ev rfl)) rfl ?_; clear F a; intro a F
  refine rl_run F (run_nilCheck (F.ev rfl)) rfl ?_; clear F a; intro a F
  refine rl_run F (run_fieldAddr tok113.k rfl rfl (F.ev rfl)) rfl ?_; clear F a; intro a F
  refine rl_run F (run_load1 (agf tok111 rfl) (F.ev rfl) (M.cellL (k := 0) rfl rfl)) rfl ?_; clear F a; intro a F
  refine rl_run F (run_move (F.ev rfl)) rfl ?_; clear F a; intro a F
  refine rl_run F (run_nePtr_same tok111.k tok113 (F.ev rfl) (F.ev rfl)) rfl ?_; clear F a; intro a F
  refine rl_nil <| q_tn <| w_cond_f F rfl rfl ?_
  refine wp_skip <| fin0n F rfl ?_
  exact ⟨M, rfl⟩
theorem copyCheck_spec {w0 w : World} {G : Ghost} {L : List Res} {b n c : Nat} {ad : Option Addr} {p : Value} (hp : p = .pointer none ∨ p = .pointer (some ⟨b, 0, none⟩)) (M : Mem w0 G (.blk b [p, .slice ad n c] 113 :: L) w) :
    Calls Tryz.prog 116 #[.pointer (some ⟨b, 0, none⟩)] w (RetS w0 G (.blk b [.pointer (some ⟨b, 0, none⟩), .slice ad n c] 113 :: L) fun v => v = .tuple #[]) := by
  rcases hp with rfl | rfl
  · exact copyCheck_new M
  · exact copyCheck_old M
theorem wstr_spec {w0 w : World} {G : Ghost} {L : List Res} {b n c : Nat} {ad : Option Addr} {l : List UInt8} {p : Value} {s : List UInt8} (hp : p = .pointer none ∨ p = .pointer (some ⟨b, 0, none⟩)) (M : Mem w0 G (.blk b [p, .slice ad n c] 113 :: .row (.slice ad n c) n (bc l) 5 1 :: L) w) (hn : n = l.length) (hnil : l = [] → ad = none) (hlen : l.length + s.length ≤ 140737488355328) :
    Calls Tryz.prog 98 #[.pointer (some ⟨b, 0, none⟩), .string (str s)] w (RetL w0 G fun L' v => v = .tuple #[.int .i64 (s.length : Nat), .nilIface] ∧ ∃ a' n' c', L' = (.blk b [.pointer (some ⟨b, 0, none⟩), .slice a' n' c'] 113 :: .row (.slice a' n' c') n' (bc (l ++ s)) 5 1 :: L) ∧ n' = (l ++ s).length ∧ (l ++ s = [] → a' = none)) := by
  have hrow : ad.isNone = true → ad = none ∧ n = 0 ∧ c = 0 ∧ _ := fun h => M.row_none (k := 1) rfl h
  refine calls_start (vs := [_, _]) Tryz.func98 rfl (n := 19) rfl rfl ?_
  intro a F
  refine wp_seq <| w_reg ?_
  iterate 2 (refine rl_run F (run_assign (F.ev rfl)) rfl ?_; clear F a; intro a F)
  refine rl_nil <| q_tn <| wp_seq <| w_reg <| rl_run F (run_move (F.ev rfl)) rfl ?_; clear F a; intro a F
  change Mem w0 G (.blk b [p, .slice (ad) (n) (c)] 113 :: .row (.slice (ad) (n) (c)) (n) (bc (l)) 5 1 :: L) _ at M
  refine rl_callS F ent116 rfl rfl (copyCheck_spec hp M) ?_; clear F M a; rintro _ w a M rfl F
  refine rl_nil <| q_tn <| wp_seq <| w_reg ?_
  iterate 2 (refine rl_run F (run_move (F.ev rfl)) rfl ?_; clear F a; intro a F)
  refine rl_run F (run_nilCheck (F.ev rfl)) rfl ?_; clear F a; intro a F
  refine rl_run F (run_fieldAddr tok113.k rfl rfl (F.ev rfl)) rfl ?_; clear F a; intro a F
  refine rl_run F (run_load1 (agf tok22 rfl) (F.ev rfl) (M.cellL (k := 0) rfl rfl)) rfl ?_; clear F a; intro a F
  refine rl_run F (run_move (F.ev rfl)) rfl ?_; clear F a; intro a F
  refine rl_appendStr F M (k := 1) rfl tok22.k tok9.k tok5 rfl rfl rfl rfl rfl (by omega) rfl ?_; clear F M a; intro v1 w a M hwv1 F
  obtain ⟨av1, cv1, rfl, hlev1, hcmv1, hlv1⟩ := M.row_shape (k := 1) rfl
  rw [← bc_append] at M
  refine rl_run F (run_nilCheck (F.ev rfl)) rfl ?_; clear F a; intro a F
  refine rl_run F (run_fieldAddr tok113.k rfl rfl (F.ev rfl)) rfl ?_; clear F a; intro a F
  refine rl_store1 F M tok22 rfl (k := 0) rfl rfl rfl rfl rfl ?_; clear F M a; intro w a M F
  refine rl_nil <| q_tn <| wp_seq <| w_reg <| rl_run F (run_move (F.ev rfl)) rfl ?_; clear F a; intro a F
  refine rl_run F (run_lenStr tok9.k (F.ev rfl)) rfl ?_; clear F a; intro a F
  iterate 2 (refine rl_run F (run_assign (F.ev rfl)) rfl ?_; clear F a; intro a F)
  refine rl_nil <| q_tn <| wp_ret <| fin2 F rfl rfl rfl ?_
  replace M := M.perm (perm_front _ 1 _ rfl)
  replace M := M.perm (perm_front _ 1 _ rfl)
  change Mem w0 G (.blk b [.pointer (some ⟨b, 0, none⟩), .slice (av1) (n + (s).length) (cv1)] 113 :: .row (.slice (av1) (n + (s).length) (cv1)) (n + (s).length) (bc (l ++ s)) 5 1 :: L) _ at M
  exact ⟨_, M, rfl, _, _, _, rfl, by rw [List.length_append, hn], fun h => by obtain ⟨h1, h2⟩ := List.append_eq_nil_iff.1 h; have h3 := hnil h1; subst h3; obtain ⟨_, h4, h5, _⟩ := hrow rfl; subst h4 h5; have h6 := hwv1.2 ⟨rfl, h2⟩; simp only [Value.slice.injEq] at h6; exact h6.1⟩
theorem bstr_none {w0 w : World} {G : Ghost} {L : List Res} {b c gb : Nat} {p : Value} {l : List UInt8} (M : Mem w0 G (.blk b [p, .slice none 0 0] 113 :: .row (.slice none 0 0) 0 (bc []) 5 1 :: L) w) :
    Calls Tryz.prog 78 #[.pointer (some ⟨b, 0, none⟩)] w (RetS w0 G L fun v => v = .string (str [])) := by
  refine calls_start (vs := [_]) Tryz.func78 rfl (n := 14) rfl rfl ?_
  intro a F
  refine wp_seq <| w_reg <| rl_run F (run_assign (F.ev rfl)) rfl ?_; clear F a; intro a F
  refine rl_nil <| q_tn <| wp_seq <| w_plan [(true, 0), (true, 1), (true, 2), (true, 3), (true, 5), (true, 6), (true, 7), (true, 8), (true, 9), (false, 4), (false, 10), (true, 11)] (Keep G [.blk b [p, .slice none (0) (0)] 113]) rfl (by kernel_rfl) (fun c a d v w h => by cases d <;> exact h) ((M.drew _).keep (Gle.refl _) (by simp)) ?_
  replace M := M.drew (w.drawn + 1)
  refine pl_run F (fun w M => run_move (F.ev rfl)) rfl ?_; clear F a; intro a F
  refine pl_run F (fun w M => run_nilCheck (F.ev rfl)) rfl ?_; clear F a; intro a F
  refine pl_run F (fun w M => run_fieldAddr tok113.k rfl rfl (F.ev rfl)) rfl ?_; clear F a; intro a F
  refine pl_run F (fun w M => run_load1 (agf tok22 rfl) (F.ev rfl) (M.cellL (k := 0) rfl rfl)) rfl ?_; clear F a; intro a F
  refine pl_run F (fun w M => run_move (F.ev rfl)) rfl ?_; clear F a; intro a F
  refine pl_run F (fun w M => run_nilCheck (F.ev rfl)) rfl ?_; clear F a; intro a F
  refine pl_run F (fun w M => run_fieldAddr tok113.k rfl rfl (F.ev rfl)) rfl ?_; clear F a; intro a F
  refine pl_run F (fun w M => run_load1 (agf tok22 rfl) (F.ev rfl) (M.cellL (k := 0) rfl rfl)) rfl ?_; clear F a; intro a F
  refine pl_run F (fun w M => run_lenSl tok22.k (F.ev rfl)) rfl ?_; clear F a; intro a F
  refine pl_act ?_ rfl
  refine rl_run F (run_sliceData0 (F.ev rfl)) rfl ?_; clear F a; intro a F
  refine rl_nil <| ⟨Keep G [.blk b [p, .slice none (0) (0)] 113], M.keep (Gle.refl _) (by simp), fun w h => h.mono (Gle.refl _) (by simp), ?_⟩
  refine pl_act ?_ rfl
  refine rl_run F (run_unsafeStr0 (F.ev rfl) (F.ev rfl)) rfl ?_; clear F a; intro a F
  refine rl_nil <| ⟨Keep G [.blk b [p, .slice none (0) (0)] 113], M.keep (Gle.refl _) (by simp), fun w h => h.mono (Gle.refl _) (by simp), ?_⟩
  refine pl_run F (fun w M => run_assign (F.ev rfl)) rfl ?_; clear F a; intro a F
  refine pl_nil <| q_tn <| wp_ret <| fin1 F rfl rfl ?_
  exact ⟨M.weaken (.cons _ (.cons _ (List.Sublist.refl _))), rfl⟩
theorem bstr_some {w0 w : World} {G : Ghost} {L : List Res} {b c gb : Nat} {p : Value} {l : List UInt8} (M : Mem w0 G (.blk b [p, .slice (some ⟨gb, 0, none⟩) (l.length) c] 113 :: .row (.slice (some ⟨gb, 0, none⟩) (l.length) c) (l.length) (bc l) 5 1 :: L) w) (h0 : l ≠ []) (hc : l.length ≤ c) :
    Calls Tryz.prog 78 #[.pointer (some ⟨b, 0, none⟩)] w (RetS w0 G L fun v => v = .string (str l)) := by
  have h0' : 0 < l.length := List.length_pos_iff.2 h0
  refine calls_start (vs := [_]) Tryz.func78 rfl (n := 14) rfl rfl ?_
  intro a F
  refine wp_seq <| w_reg <| rl_run F (run_assign (F.ev rfl)) rfl ?_; clear F a; intro a F
  refine rl_nil <| q_tn <| wp_seq <| w_plan [(true, 0), (true, 1), (true, 2), (true, 3), (true, 5), (true, 6), (true, 7), (true, 8), (true, 9), (false, 4), (false, 10), (true, 11)] (Keep G [.blk b [p, .slice (some ⟨gb, 0, none⟩) (l.length) (c)] 113]) rfl (by kernel_rfl) (fun c a d v w h => by cases d <;> exact h) ((M.drew _).keep (Gle.refl _) (by simp)) ?_
  replace M := M.drew (w.drawn + 1)
  refine pl_run F (fun w M => run_move (F.ev rfl)) rfl ?_; clear F a; intro a F
  refine pl_run F (fun w M => run_nilCheck (F.ev rfl)) rfl ?_; clear F a; intro a F
  refine pl_run F (fun w M => run_fieldAddr tok113.k rfl rfl (F.ev rfl)) rfl ?_; clear F a; intro a F
  refine pl_run F (fun w M => run_load1 (agf tok22 rfl) (F.ev rfl) (M.cellL (k := 0) rfl rfl)) rfl ?_; clear F a; intro a F
  refine pl_run F (fun w M => run_move (F.ev rfl)) rfl ?_; clear F a; intro a F
  refine pl_run F (fun w M => run_nilCheck (F.ev rfl)) rfl ?_; clear F a; intro a F
  refine pl_run F (fun w M => run_fieldAddr tok113.k rfl rfl (F.ev rfl)) rfl ?_; clear F a; intro a F
  refine pl_run F (fun w M => run_load1 (agf tok22 rfl) (F.ev rfl) (M.cellL (k := 0) rfl rfl)) rfl ?_; clear F a; intro a F
  refine pl_run F (fun w M => run_lenSl tok22.k (F.ev rfl)) rfl ?_; clear F a; intro a F
  refine pl_act ?_ rfl
  refine rl_run F (run_sliceData (F.ev rfl) (by omega)) rfl ?_; clear F a; intro a F
  refine rl_nil <| ⟨Keep G [.blk b [p, .slice (some ⟨gb, 0, none⟩) (l.length) (c)] 113], M.keep (Gle.refl _) (by simp), fun w h => h.mono (Gle.refl _) (by simp), ?_⟩
  refine pl_act ?_ rfl
  refine rl_unsafeStr F M (k := 1) rfl tok141.k tok5 rfl h0 rfl rfl rfl ?_; clear F M a; intro w a M F
  refine rl_nil <| ⟨Keep G [.blk b [p, .slice (some ⟨gb, 0, none⟩) (l.length) (c)] 113], M.keep (Gle.refl _) (by simp), fun w h => h.mono (Gle.refl _) (by simp), ?_⟩
  refine pl_run F (fun w M => run_assign (F.ev rfl)) rfl ?_; clear F a; intro a F
  refine pl_nil <| q_tn <| wp_ret <| fin1 F rfl rfl ?_
  exact ⟨M.weaken (.cons _ (List.Sublist.refl _)), rfl⟩
theorem bstr_spec {w0 w : World} {G : Ghost} {L : List Res} {b n c : Nat} {ad : Option Addr} {l : List UInt8} {p : Value} (M : Mem w0 G (.blk b [p, .slice ad n c] 113 :: .row (.slice ad n c) n (bc l) 5 1 :: L) w) (hn : n = l.length) (hnil : l = [] → ad = none) :
    Calls Tryz.prog 78 #[.pointer (some ⟨b, 0, none⟩)] w (RetS w0 G L fun v => v = .string (str l)) := by
  subst hn
  by_cases h0 : l = []
  · have h1 := hnil h0
    subst h1 h0
    obtain ⟨_, _, h4, _⟩ := M.row_none (k := 1) rfl rfl
    subst h4
    exact bstr_none (gb := 0) (c := 0) (l := []) M
  · have h0' : 0 < l.length := List.length_pos_iff.2 h0
    obtain ⟨gb, h1⟩ := M.row_some (k := 1) rfl h0'
    subst h1
    obtain ⟨_, _, he, hle, _⟩ := M.row_shape (k := 1) rfl
    simp only [Value.slice.injEq] at he
    exact bstr_some M h0 (by omega)
def attrT (a : AttrD) : List UInt8 := [32] ++ a.n ++ [61] ++ quoteF a.v
def attrsT : List AttrD → List UInt8
  | [] => []
  | a :: l => attrT a ++ attrsT l
def keyT (k : List UInt8) : List UInt8 := if k = [] then [] else [58] ++ k
mutual
/-- The text of a tree. -/
def textN : NT → List UInt8
  | .mk k t ky ats tx l => if k = 2 then quoteF tx else [60] ++ t ++ keyT ky ++ attrsT ats ++ (if l.length = 0 then [47, 62] else [62] ++ textsN l ++ ([60, 47] ++ t ++ [62]))
def textsN : List NT → List UInt8
  | [] => []
  | x :: l => textN x ++ textsN l
end
theorem textN_words {x : NT} (h : x.kind = 2) : textN x = quoteF x.text := by
  obtain ⟨k, t, ky, l, tx, c⟩ := x; simp only [Tr.kind] at h; simp only [textN, Tr.text]; rw [if_pos h]
theorem textN_leaf {x : NT} (h : ¬ x.kind = 2) (h2 : x.kids.length = 0) : textN x = [60] ++ x.tag ++ keyT x.key ++ attrsT x.as ++ [47, 62] := by
  obtain ⟨k, t, ky, l, tx, c⟩ := x; simp only [Tr.kind] at h; simp only [Tr.kids] at h2; simp only [textN, Tr.tag, Tr.key, Tr.as]; rw [if_neg h, if_pos h2]
theorem textN_node {x : NT} (h : ¬ x.kind = 2) (h2 : ¬ x.kids.length = 0) : textN x = [60] ++ x.tag ++ keyT x.key ++ attrsT x.as ++ ([62] ++ textsN x.kids ++ ([60, 47] ++ x.tag ++ [62])) := by
  obtain ⟨k, t, ky, l, tx, c⟩ := x; simp only [Tr.kind] at h; simp only [Tr.kids] at h2; simp only [textN, Tr.tag, Tr.key, Tr.as, Tr.kids]; rw [if_neg h, if_neg h2]
theorem attrsT_append : ∀ (l m : List AttrD), attrsT (l ++ m) = attrsT l ++ attrsT m
  | [], m => rfl
  | x :: l, m => by simp only [List.cons_append, attrsT, attrsT_append l m, List.append_assoc]
theorem textsN_append : ∀ (l m : List NT), textsN (l ++ m) = textsN l ++ textsN m
  | [], m => by simp [textsN]
  | x :: l, m => by simp only [List.cons_append, textsN, textsN_append l m, List.append_assoc]
theorem attrsT_snoc {l : List AttrD} {i : Nat} {x : AttrD} (h : l[i]? = some x) : attrsT (l.take (i + 1)) = attrsT (l.take i) ++ attrT x := by
  rw [Tr.take_snoc' h, attrsT_append]; simp [attrsT]
theorem textsN_snoc {l : List NT} {i : Nat} {x : NT} (h : l[i]? = some x) : textsN (l.take (i + 1)) = textsN (l.take i) ++ textN x := by
  rw [Tr.take_snoc' h, textsN_append]; simp [textsN]
theorem attrsT_le {l : List AttrD} {i : Nat} {x : AttrD} (h : l[i]? = some x) : (attrsT (l.take i)).length + (x.n.length + (quoteF x.v).length + 2) ≤ (attrsT l).length := by
  have h1 := congrArg List.length (attrsT_snoc h)
  have h2 : (attrsT l).length = (attrsT (l.take (i + 1))).length + (attrsT (l.drop (i + 1))).length := by rw [← List.length_append, ← attrsT_append, List.take_append_drop]
  simp only [attrT, List.length_append, List.length_cons, List.length_nil] at h1; omega
theorem textsN_le {l : List NT} {i : Nat} {x : NT} (h : l[i]? = some x) : (textsN (l.take i)).length + (textN x).length ≤ (textsN l).length := by
  have h1 := congrArg List.length (textsN_snoc h)
  have h2 : (textsN l).length = (textsN (l.take (i + 1))).length + (textsN (l.drop (i + 1))).length := by rw [← List.length_append, ← textsN_append, List.take_append_drop]
  simp only [List.length_append] at h1; omega
/-- A tree whose strings are short, without quotation mark and backslash. -/
def PlainA (x : NT) : Prop := ShortQ x.text ∧ ∀ a ∈ x.as, ShortQ a.v
def WrP (x : NT) : Prop := ∀ (d : Nat) (w0 w : World) (G : Ghost) (L : List Res) (b n c : Nat) (ad : Option Addr) (l : List UInt8) (p : Value) (ta ka : Option Addr) (tc kc : Nat), Tr.Ok PlainA d x → (p = .pointer none ∨ p = .pointer (some ⟨b, 0, none⟩)) → Mem w0 G (.blk b [p, .slice ad n c] 113 :: .row (.slice ad n c) n (bc l) 5 1 :: L) w → n = l.length → (l = [] → ad = none) → inKind .u8 x.kind → (x.tag.length ≤ 9223372036854775807 ∧ x.key.length ≤ 9223372036854775807 ∧ x.text.length ≤ 9223372036854775807) →
    RdSl rdAttr 2 G (.slice ta x.as.length tc) x.as → RdSl rdN 6 G (.slice ka x.kids.length kc) x.kids → l.length + (textN x).length ≤ 140737488355328 →
    Calls Tryz.prog 77 #[.pointer (some ⟨b, 0, none⟩), .agg #[.int .u8 (x.kind), .string (str (x.tag)), .string (str (x.key)), .slice (ta) (x.as.length) (tc), .string (str (x.text)), .slice (ka) (x.kids.length) (kc)]] w (RetL w0 G fun L' v => v = .tuple #[] ∧ ∃ a' n' c', L' = (.blk b [.pointer (some ⟨b, 0, none⟩), .slice a' n' c'] 113 :: .row (.slice a' n' c') n' (bc (l ++ textN x)) 5 1 :: L) ∧ n' = (l ++ textN x).length ∧ (l ++ textN x = [] → a' = none))
theorem keyT_yes {k : List UInt8} (h : ¬ k = []) : keyT k = [58] ++ k := by rw [keyT, if_neg h]
theorem keyT_no {k : List UInt8} (h : k = []) : keyT k = [] := by rw [keyT, if_pos h]
theorem attrsT_all {l : List AttrD} {i : Nat} (h : l.length ≤ i) : attrsT (l.take i) = attrsT l := by rw [List.take_of_length_le h]
theorem textsN_all {l : List NT} {i : Nat} (h : l.length ≤ i) : textsN (l.take i) = textsN l := by rw [List.take_of_length_le h]
theorem textN_len (x : NT) : (x.kind = 2 → (textN x).length = (quoteF x.text).length) ∧ (¬ x.kind = 2 → (textN x).length = x.tag.length + (keyT x.key).length + (attrsT x.as).length + 3 + (if x.kids.length = 0 then 0 else (textsN x.kids).length + x.tag.length + 2)) := by
  refine ⟨fun h => by rw [textN_words h], fun h => ?_⟩
  by_cases h2 : x.kids.length = 0
  · rw [textN_leaf h h2, if_pos h2]; simp only [List.length_append, List.length_cons, List.length_nil]; omega
  · rw [textN_node h h2, if_neg h2]; simp only [List.length_append, List.length_cons, List.length_nil]; omega
theorem keyT_len (k : List UInt8) : k.length ≤ (keyT k).length ∧ (¬ k = [] → (keyT k).length = k.length + 1) := by
  by_cases h : k = []
  · rw [keyT_no h, h]; exact ⟨Nat.le_refl _, fun h => absurd rfl h⟩
  · rw [keyT_yes h]; simp only [List.length_append, List.length_cons, List.length_nil]; exact ⟨by omega, fun _ => by omega⟩
set_option maxHeartbeats 2000000 in
theorem write_step {x : NT} (ih : ∀ y ∈ x.kids, WrP y) {d : Nat} {w0 w : World} {G : Ghost} {L : List Res} {b n c : Nat} {ad : Option Addr} {l : List UInt8} {p : Value} {ta ka : Option Addr} {tc kc : Nat} (hok : Tr.Ok PlainA (d + 1) x) (hp : p = .pointer none ∨ p = .pointer (some ⟨b, 0, none⟩)) (M : Mem w0 G (.blk b [p, .slice ad n c] 113 :: .row (.slice ad n c) n (bc l) 5 1 :: L) w) (hn : n = l.length) (hnil : l = [] → ad = none) (hk : inKind .u8 x.kind) (hl : (x.tag.length ≤ 9223372036854775807 ∧ x.key.length ≤ 9223372036854775807 ∧ x.text.length ≤ 9223372036854775807))
    (SA : RdSl rdAttr 2 G (.slice ta x.as.length tc) x.as) (SK : RdSl rdN 6 G (.slice ka x.kids.length kc) x.kids) (hT : l.length + (textN x).length ≤ 140737488355328) :
    Calls Tryz.prog 77 #[.pointer (some ⟨b, 0, none⟩), .agg #[.int .u8 (x.kind), .string (str (x.tag)), .string (str (x.key)), .slice (ta) (x.as.length) (tc), .string (str (x.text)), .slice (ka) (x.kids.length) (kc)]] w (RetL w0 G fun L' v => v = .tuple #[] ∧ ∃ a' n' c', L' = (.blk b [.pointer (some ⟨b, 0, none⟩), .slice a' n' c'] 113 :: .row (.slice a' n' c') n' (bc (l ++ textN x)) 5 1 :: L) ∧ n' = (l ++ textN x).length ∧ (l ++ textN x = [] → a' = none)) := by
  refine calls_start (vs := [_, _]) Tryz.func77 rfl (n := 72) rfl rfl ?_
  intro a F
  refine wp_seq <| w_reg <| rl_box F M rfl (cs := [.int .u8 (x.kind), .string (str (x.tag)), .string (str (x.key)), .slice (ta) (x.as.length) (tc), .string (str (x.text)), .slice (ka) (x.kids.length) (kc)]) rfl rfl ?_; clear F M a; intro b1 w a M F
  refine rl_nil <| q_tn ?_
  iterate 2 (refine wp_seq ?_)
  have bA := SA.bound
  have bK := SK.bound
  obtain ⟨hTW, hTE⟩ := textN_len x
  obtain ⟨hK1, hK2⟩ := keyT_len x.key
  refine w_reg <| rl_run F (run_fieldAddr tok30.k rfl rfl (F.ev rfl)) rfl ?_; clear F a; intro a F
  refine rl_run F (run_load1 (agf tok5 rfl) (F.ev rfl) (M.cellL (k := 0) rfl rfl)) rfl ?_; clear F a; intro a F
  refine rl_run F (run_eqi (F.ev rfl) (F.ev rfl)) rfl ?_; clear F a; intro a F
  refine rl_nil <| q_tn <| w_cond F rfl ?_ ?_
  · intro hc
    have h2b := hc; clear hc
    have h2 : x.kind = 2 := of_decide_eq_true h2b
    refine wp_seq ?_
    have hT2 := hTW (by omega)
    refine w_reg <| rl_run F (run_move (F.ev rfl)) rfl ?_; clear F a; intro a F
    refine rl_run F (run_fieldAddr tok30.k rfl rfl (F.ev rfl)) rfl ?_; clear F a; intro a F
    refine rl_run F (run_load1 (agf tok9 rfl) (F.ev rfl) (M.cellL (k := 0) rfl rfl)) rfl ?_; clear F a; intro a F
    refine rl_callS F ent99 rfl rfl (quoted_spec (s := x.text) M hok.1.1) ?_; clear F M a; rintro _ w a M rfl F
    replace M := M.perm (perm_front _ 2 _ rfl)
    replace M := M.perm (perm_front _ 2 _ rfl)
    change Mem w0 G (.blk b [p, .slice (ad) (n) (c)] 113 :: .row (.slice (ad) (n) (c)) (n) (bc (l)) 5 1 :: .blk b1 [.int .u8 (x.kind), .string (str (x.tag)), .string (str (x.key)), .slice (ta) (x.as.length) (tc), .string (str (x.text)), .slice (ka) (x.kids.length) (kc)] 30 :: L) _ at M
    refine rl_callL F ent98 rfl rfl (wstr_spec (s := (quoteF x.text)) hp M hn hnil (by ((try simp only [List.length_append, List.length_cons, List.length_nil]); omega))) ?_; clear F M a; rintro _ _ w a M ⟨rfl, au3, nu3, cu3, rfl, hnu3, hnilu3⟩ F
    refine rl_nil <| q_tn <| wp_ret <| q_tr <| fin0 F rfl ?_
    replace M := M.perm (perm_front _ 1 _ rfl)
    replace M := M.perm (perm_front _ 1 _ rfl)
    change Mem w0 G (.blk b [.pointer (some ⟨b, 0, none⟩), .slice (au3) (nu3) (cu3)] 113 :: .row (.slice (au3) (nu3) (cu3)) (nu3) (bc (l ++ (quoteF x.text))) 5 1 :: .blk b1 [.int .u8 (x.kind), .string (str (x.tag)), .string (str (x.key)), .slice (ta) (x.as.length) (tc), .string (str (x.text)), .slice (ka) (x.kids.length) (kc)] 30 :: L) _ at M
    have hsn : l ++ (quoteF x.text) = l ++ textN x := by first | (rw [textN_words (by omega)]; done) | (rw [textN_leaf (by omega) (by omega), keyT_yes (by assumption), attrsT_all (by omega)]; simp only [List.append_assoc]; done) | (rw [textN_leaf (by omega) (by omega), keyT_no (by assumption), attrsT_all (by omega)]; simp only [List.append_assoc, List.nil_append]; done) | (rw [textN_node (by omega) (by omega), keyT_yes (by assumption), attrsT_all (by omega), textsN_all (by omega)]; simp only [List.append_assoc]; done) | (rw [textN_node (by omega) (by omega), keyT_no (by assumption), attrsT_all (by omega), textsN_all (by omega)]; simp only [List.append_assoc, List.nil_append]; done)
    rw [hsn] at M hnu3 hnilu3
    exact ⟨_, M.weaken (.cons_cons _ (.cons_cons _ (.cons _ (List.Sublist.refl _)))), rfl, _, _, _, rfl, hnu3, hnilu3⟩
  · intro hc
    have h4b := hc; clear hc
    have h4 : ¬ (x.kind = 2) := of_decide_eq_false h4b
    refine wp_skip <| q_tn <| wp_seq ?_
    have hT2 := hTE (by omega)
    refine w_reg <| rl_run F (run_move (F.ev rfl)) rfl ?_; clear F a; intro a F
    refine rl_run F (run_fieldAddr tok30.k rfl rfl (F.ev rfl)) rfl ?_; clear F a; intro a F
    refine rl_run F (run_load1 (agf tok9 rfl) (F.ev rfl) (M.cellL (k := 0) rfl rfl)) rfl ?_; clear F a; intro a F
    refine rl_run F (run_strAdd (F.ev rfl) (F.ev rfl) (by ((try simp only [List.length_append, List.length_cons, List.length_nil]); omega))) rfl ?_; clear F a; intro a F
    replace M := M.perm (perm_front _ 2 _ rfl)
    replace M := M.perm (perm_front _ 2 _ rfl)
    change Mem w0 G (.blk b [p, .slice (ad) (n) (c)] 113 :: .row (.slice (ad) (n) (c)) (n) (bc (l)) 5 1 :: .blk b1 [.int .u8 (x.kind), .string (str (x.tag)), .string (str (x.key)), .slice (ta) (x.as.length) (tc), .string (str (x.text)), .slice (ka) (x.kids.length) (kc)] 30 :: L) _ at M
    refine rl_callL F ent98 rfl rfl (wstr_spec (s := (([60] : List UInt8) ++ x.tag)) hp M hn hnil (by ((try simp only [List.length_append, List.length_cons, List.length_nil]); omega))) ?_; clear F M a; rintro _ _ w a M ⟨rfl, au5, nu5, cu5, rfl, hnu5, hnilu5⟩ F
    refine rl_nil <| q_tn ?_
    iterate 2 (refine wp_seq ?_)
    refine w_reg <| rl_run F (run_fieldAddr tok30.k rfl rfl (F.ev rfl)) rfl ?_; clear F a; intro a F
    refine rl_run F (run_load1 (agf tok9 rfl) (F.ev rfl) (M.cellL (k := 2) rfl rfl)) rfl ?_; clear F a; intro a F
    refine rl_run F (run_strNe (F.ev rfl) (F.ev rfl)) rfl ?_; clear F a; intro a F
    refine rl_nil <| q_tn <| w_cond F rfl ?_ ?_
    · intro hc
      have h6b := hc; clear hc
      have h6 : ¬ (x.key = ([] : List UInt8)) := of_decide_eq_false (of_not_t h6b)
      have h6c : (decide (x.key = ([] : List UInt8))) = false := (of_not_t h6b)
      have hK3 := hK2 (by assumption)
      refine w_reg <| rl_run F (run_move (F.ev rfl)) rfl ?_; clear F a; intro a F
      refine rl_run F (run_fieldAddr tok30.k rfl rfl (F.ev rfl)) rfl ?_; clear F a; intro a F
      refine rl_run F (run_load1 (agf tok9 rfl) (F.ev rfl) (M.cellL (k := 2) rfl rfl)) rfl ?_; clear F a; intro a F
      refine rl_run F (run_strAdd (F.ev rfl) (F.ev rfl) (by ((try simp only [List.length_append, List.length_cons, List.length_nil]); omega))) rfl ?_; clear F a; intro a F
      replace M := M.perm (perm_front _ 1 _ rfl)
      replace M := M.perm (perm_front _ 1 _ rfl)
      change Mem w0 G (.blk b [.pointer (some ⟨b, 0, none⟩), .slice (au5) (nu5) (cu5)] 113 :: .row (.slice (au5) (nu5) (cu5)) (nu5) (bc (l ++ (([60] : List UInt8) ++ x.tag))) 5 1 :: .blk b1 [.int .u8 (x.kind), .string (str (x.tag)), .string (str (x.key)), .slice (ta) (x.as.length) (tc), .string (str (x.text)), .slice (ka) (x.kids.length) (kc)] 30 :: L) _ at M
      refine rl_callL F ent98 rfl rfl (wstr_spec (s := (([58] : List UInt8) ++ x.key)) (Or.inr rfl) M hnu5 hnilu5 (by ((try simp only [List.length_append, List.length_cons, List.length_nil]); omega))) ?_; clear F M a; rintro _ _ w a M ⟨rfl, au7, nu7, cu7, rfl, hnu7, hnilu7⟩ F
      refine rl_nil <| q_tn ?_
      iterate 2 (refine wp_seq ?_)
      refine w_reg <| rl_run F (run_fieldAddr tok30.k rfl rfl (F.ev rfl)) rfl ?_; clear F a; intro a F
      refine rl_run F (run_load1 (agf tok27 rfl) (F.ev rfl) (M.cellL (k := 2) rfl rfl)) rfl ?_; clear F a; intro a F
      refine rl_run F (run_lenSl tok27.k (F.ev rfl)) rfl ?_; clear F a; intro a F
      refine rl_run F (run_move (F.ev rfl)) rfl ?_; clear F a; intro a F
      refine rl_nil <| q_tn <| wp_block ?_
      have hz : (l ++ (([60] : List UInt8) ++ x.tag)) ++ (([58] : List UInt8) ++ x.key) = ((l ++ (([60] : List UInt8) ++ x.tag)) ++ (([58] : List UInt8) ++ x.key)) ++ attrsT (x.as.take 0) := by simp [attrsT]
      rw [hz] at M hnu7 hnilu7
      refine w_loopN (fun m a' w' => ∃ (i : Nat), ∃ (am : Option Addr), ∃ (nm : Nat), ∃ (cm : Nat), ∃ (pm : Value), m = x.as.length - i ∧ Fits 72 a' [(0, .pointer (some ⟨b, 0, none⟩)), (3, .pointer (some ⟨b1, 0, none⟩)), (30, .slice (ta) (x.as.length) (tc)), (31, .int .i64 (((x.as.length : Nat) : Int))), (32, .int .i64 (((i : Nat) : Int)))] ∧ Mem w0 G (.blk b [pm, .slice (am) (nm) (cm)] 113 :: .row (.slice (am) (nm) (cm)) (nm) (bc (((l ++ (([60] : List UInt8) ++ x.tag)) ++ (([58] : List UInt8) ++ x.key)) ++ attrsT (x.as.take i))) 5 1 :: .blk b1 [.int .u8 (x.kind), .string (str (x.tag)), .string (str (x.key)), .slice (ta) (x.as.length) (tc), .string (str (x.text)), .slice (ka) (x.kids.length) (kc)] 30 :: L) w' ∧ (i ≤ x.as.length) ∧ (pm = .pointer none ∨ pm = .pointer (some ⟨b, 0, none⟩)) ∧ (nm = (((l ++ (([60] : List UInt8) ++ x.tag)) ++ (([58] : List UInt8) ++ x.key)) ++ attrsT (x.as.take i)).length) ∧ ((((l ++ (([60] : List UInt8) ++ x.tag)) ++ (([58] : List UInt8) ++ x.key)) ++ attrsT (x.as.take i)) = [] → am = none)) _ ⟨0, (au7), (nu7), (cu7), (.pointer (some ⟨b, 0, none⟩)), rfl, F.to ⟨rfl, rfl, rfl, rfl, rfl, trivial⟩, M, Nat.zero_le _, (Or.inr rfl), hnu7, hnilu7⟩ ?_
      clear F M
      rintro m a w ⟨i, am, nm, cm, pm, rfl, F, M, hi, hpm, hnm, hnilm⟩
      refine wp_seq <| w_reg <| rl_run F (run_lss (F.ev rfl) (F.ev rfl)) rfl ?_; clear F a; intro a F
      refine rl_nil <| q_tn <| wp_seq <| w_cond F rfl ?_ ?_
      · intro hc
        have h8b := hc; clear hc
        have h8 : ((i : Nat) : Int) < ((x.as.length : Nat) : Int) := of_decide_eq_true h8b
        refine wp_skip <| q_tn <| wp_seq <| wp_block <| wp_seq <| w_reg ?_
        obtain ⟨Xe9, hXe9⟩ := get_of_lt (xs := x.as) (i := i) (by omega)
        obtain ⟨be9, oe9, _, Ie9, _, Ae9, ⟨rfl, hn1e9, hv1e9⟩⟩ := SA.at hXe9
        refine rl_run F (run_indexI tok27.k tok87 (F.ev rfl) (F.ev rfl) (by omega) Ie9) rfl ?_; clear F a; intro a F
        refine rl_run F (run_loadA tok87 rfl (F.ev rfl) (cs := [.string (str (Xe9.n)), .string (str (Xe9.v))]) rfl (M.cellsA Ae9 0 (by omega) rfl)) rfl ?_; clear F a; intro a F
        refine rl_alloc F M tok87 rfl rfl ?_; clear F M a; intro b10 w a M F
        refine rl_storeA F M tok87 (k := 0) rfl rfl rfl (us := [.string (str (Xe9.n)), .string (str (Xe9.v))]) rfl rfl (by simp [Value.oneCell']) (by simp) ?_; clear F M a; intro w a M F
        change Mem w0 G (.blk b10 [.string (str (Xe9.n)), .string (str (Xe9.v))] 87 :: .blk b [pm, .slice (am) (nm) (cm)] 113 :: .row (.slice (am) (nm) (cm)) (nm) (bc (((l ++ (([60] : List UInt8) ++ x.tag)) ++ (([58] : List UInt8) ++ x.key)) ++ attrsT (x.as.take i))) 5 1 :: .blk b1 [.int .u8 (x.kind), .string (str (x.tag)), .string (str (x.key)), .slice (ta) (x.as.length) (tc), .string (str (x.text)), .slice (ka) (x.kids.length) (kc)] 30 :: L) _ at M
        refine rl_nil <| q_tn ?_
        have hA9 := attrsT_le hXe9
        refine w_plan [(true, 0), (true, 1), (true, 2), (true, 3), (true, 4), (true, 5), (true, 6), (false, 7), (true, 8), (false, 9)] (Keep G [.blk b10 [.string (str (Xe9.n)), .string (str (Xe9.v))] 87, .blk b1 [.int .u8 (x.kind), .string (str (x.tag)), .string (str (x.key)), .slice (ta) (x.as.length) (tc), .string (str (x.text)), .slice (ka) (x.kids.length) (kc)] 30]) rfl (by kernel_rfl) (fun c a d v w h => by cases d <;> exact h) ((M.drew _).keep (Gle.refl _) (by simp)) ?_
        replace M := M.drew (w.drawn + 1)
        refine pl_run F (fun w M => run_move (F.ev rfl)) rfl ?_; clear F a; intro a F
        refine pl_run F (fun w M => run_fieldAddr tok87.k rfl rfl (F.ev rfl)) rfl ?_; clear F a; intro a F
        refine pl_run F (fun w M => run_load1 (agf tok9 rfl) (F.ev rfl) (M.cellL (k := 0) rfl rfl)) rfl ?_; clear F a; intro a F
        iterate 2 (refine pl_run F (fun w M => run_strAdd (F.ev rfl) (F.ev rfl) (by ((try simp only [List.length_append, List.length_cons, List.length_nil]); omega))) rfl ?_; clear F a; intro a F)
        refine pl_run F (fun w M => run_fieldAddr tok87.k rfl rfl (F.ev rfl)) rfl ?_; clear F a; intro a F
        refine pl_run F (fun w M => run_load1 (agf tok9 rfl) (F.ev rfl) (M.cellL (k := 0) rfl rfl)) rfl ?_; clear F a; intro a F
        refine pl_act ?_ rfl
        refine rl_callS F ent99 rfl rfl (quoted_spec (s := Xe9.v) M (hok.1.2 _ (List.mem_of_getElem? hXe9))) ?_; clear F M a; rintro _ w a M rfl F
        refine rl_nil <| ⟨Keep G [.blk b10 [.string (str (Xe9.n)), .string (str (Xe9.v))] 87, .blk b1 [.int .u8 (x.kind), .string (str (x.tag)), .string (str (x.key)), .slice (ta) (x.as.length) (tc), .string (str (x.text)), .slice (ka) (x.kids.length) (kc)] 30], M.keep (Gle.refl _) (by simp), fun w h => h.mono (Gle.refl _) (by simp), ?_⟩
        refine pl_run F (fun w M => run_strAdd (F.ev rfl) (F.ev rfl) (by ((try simp only [List.length_append, List.length_cons, List.length_nil]); omega))) rfl ?_; clear F a; intro a F
        refine pl_act ?_ rfl
        replace M := M.perm (perm_front _ 2 _ rfl)
        replace M := M.perm (perm_front _ 2 _ rfl)
        change Mem w0 G (.blk b [pm, .slice (am) (nm) (cm)] 113 :: .row (.slice (am) (nm) (cm)) (nm) (bc (((l ++ (([60] : List UInt8) ++ x.tag)) ++ (([58] : List UInt8) ++ x.key)) ++ attrsT (x.as.take i))) 5 1 :: .blk b10 [.string (str (Xe9.n)), .string (str (Xe9.v))] 87 :: .blk b1 [.int .u8 (x.kind), .string (str (x.tag)), .string (str (x.key)), .slice (ta) (x.as.length) (tc), .string (str (x.text)), .slice (ka) (x.kids.length) (kc)] 30 :: L) _ at M
        refine rl_callL F ent98 rfl rfl (wstr_spec (s := (((([32] : List UInt8) ++ Xe9.n) ++ ([61] : List UInt8)) ++ (quoteF Xe9.v))) hpm M hnm hnilm (by ((try simp only [List.length_append, List.length_cons, List.length_nil]); omega))) ?_; clear F M a; rintro _ _ w a M ⟨rfl, au12, nu12, cu12, rfl, hnu12, hnilu12⟩ F
        refine rl_nil <| ⟨Keep G [.blk b10 [.string (str (Xe9.n)), .string (str (Xe9.v))] 87, .blk b1 [.int .u8 (x.kind), .string (str (x.tag)), .string (str (x.key)), .slice (ta) (x.as.length) (tc), .string (str (x.text)), .slice (ka) (x.kids.length) (kc)] 30], M.keep (Gle.refl _) (by simp), fun w h => h.mono (Gle.refl _) (by simp), ?_⟩
        refine pl_nil <| q_bn <| q_tn <| w_reg <| rl_run F (run_addi (F.ev rfl) (F.ev rfl) (in_i64 (by omega) (by omega))) rfl ?_; clear F a; intro a F
        refine rl_run F (run_move (F.ev rfl)) rfl ?_; clear F a; intro a F
        refine rl_nil <| q_tn ?_
        have hsn : (((l ++ (([60] : List UInt8) ++ x.tag)) ++ (([58] : List UInt8) ++ x.key)) ++ attrsT (x.as.take i)) ++ (((([32] : List UInt8) ++ Xe9.n) ++ ([61] : List UInt8)) ++ (quoteF Xe9.v)) = ((l ++ (([60] : List UInt8) ++ x.tag)) ++ (([58] : List UInt8) ++ x.key)) ++ attrsT (x.as.take (i + 1)) := by rw [attrsT_snoc hXe9, attrT]; simp only [List.append_assoc]
        rw [hsn] at M hnu12 hnilu12
        exact ⟨_, by omega, i + 1, (au12), (nu12), (cu12), (.pointer (some ⟨b, 0, none⟩)), rfl, F.to ⟨rfl, rfl, rfl, rfl, rfl, trivial⟩, (M.weaken (.cons_cons _ (.cons_cons _ (.cons _ (.cons_cons _ (List.Sublist.refl _)))))), by omega, (Or.inr rfl), hnu12, hnilu12⟩
      · intro hc
        have h13b := hc; clear hc
        have h13 : ¬ (((i : Nat) : Int) < ((x.as.length : Nat) : Int)) := of_decide_eq_false h13b
        refine wp_exit ?_
        iterate 2 (refine q_te ?_)
        refine q_bh <| q_tn ?_
        iterate 2 (refine wp_seq ?_)
        have hA0 : (attrsT (x.as.take i)).length = (attrsT x.as).length := by rw [attrsT_all (by omega)]
        refine w_reg <| rl_run F (run_fieldAddr tok30.k rfl rfl (F.ev rfl)) rfl ?_; clear F a; intro a F
        refine rl_run F (run_load1 (agf tok28 rfl) (F.ev rfl) (M.cellL (k := 2) rfl rfl)) rfl ?_; clear F a; intro a F
        refine rl_run F (run_lenSl tok28.k (F.ev rfl)) rfl ?_; clear F a; intro a F
        refine rl_run F (run_eqi (F.ev rfl) (F.ev rfl)) rfl ?_; clear F a; intro a F
        refine rl_nil <| q_tn <| w_cond F rfl ?_ ?_
        · intro hc
          have h14b := hc; clear hc
          have h14 : ((x.kids.length : Nat) : Int) = 0 := of_decide_eq_true h14b
          refine wp_seq ?_
          rw [if_pos (by omega)] at hT2
          refine w_reg <| rl_run F (run_move (F.ev rfl)) rfl ?_; clear F a; intro a F
          replace M := M.perm (perm_front _ 1 _ rfl)
          replace M := M.perm (perm_front _ 1 _ rfl)
          change Mem w0 G (.blk b [pm, .slice (am) (nm) (cm)] 113 :: .row (.slice (am) (nm) (cm)) (nm) (bc (((l ++ (([60] : List UInt8) ++ x.tag)) ++ (([58] : List UInt8) ++ x.key)) ++ attrsT (x.as.take i))) 5 1 :: .blk b1 [.int .u8 (x.kind), .string (str (x.tag)), .string (str (x.key)), .slice (ta) (x.as.length) (tc), .string (str (x.text)), .slice (ka) (x.kids.length) (kc)] 30 :: L) _ at M
          refine rl_callL F ent98 rfl rfl (wstr_spec (s := ([47, 62] : List UInt8)) hpm M hnm hnilm (by ((try simp only [List.length_append, List.length_cons, List.length_nil]); omega))) ?_; clear F M a; rintro _ _ w a M ⟨rfl, au15, nu15, cu15, rfl, hnu15, hnilu15⟩ F
          refine rl_nil <| q_tn <| wp_ret <| q_tr <| fin0 F rfl ?_
          replace M := M.perm (perm_front _ 1 _ rfl)
          replace M := M.perm (perm_front _ 1 _ rfl)
          change Mem w0 G (.blk b [.pointer (some ⟨b, 0, none⟩), .slice (au15) (nu15) (cu15)] 113 :: .row (.slice (au15) (nu15) (cu15)) (nu15) (bc ((((l ++ (([60] : List UInt8) ++ x.tag)) ++ (([58] : List UInt8) ++ x.key)) ++ attrsT (x.as.take i)) ++ ([47, 62] : List UInt8))) 5 1 :: .blk b1 [.int .u8 (x.kind), .string (str (x.tag)), .string (str (x.key)), .slice (ta) (x.as.length) (tc), .string (str (x.text)), .slice (ka) (x.kids.length) (kc)] 30 :: L) _ at M
          have hsn : (((l ++ (([60] : List UInt8) ++ x.tag)) ++ (([58] : List UInt8) ++ x.key)) ++ attrsT (x.as.take i)) ++ ([47, 62] : List UInt8) = l ++ textN x := by first | (rw [textN_words (by omega)]; done) | (rw [textN_leaf (by omega) (by omega), keyT_yes (by assumption), attrsT_all (by omega)]; simp only [List.append_assoc]; done) | (rw [textN_leaf (by omega) (by omega), keyT_no (by assumption), attrsT_all (by omega)]; simp only [List.append_assoc, List.nil_append]; done) | (rw [textN_node (by omega) (by omega), keyT_yes (by assumption), attrsT_all (by omega), textsN_all (by omega)]; simp only [List.append_assoc]; done) | (rw [textN_node (by omega) (by omega), keyT_no (by assumption), attrsT_all (by omega), textsN_all (by omega)]; simp only [List.append_assoc, List.nil_append]; done)
          rw [hsn] at M hnu15 hnilu15
          exact ⟨_, M.weaken (.cons_cons _ (.cons_cons _ (.cons _ (List.Sublist.refl _)))), rfl, _, _, _, rfl, hnu15, hnilu15⟩
        · intro hc
          have h16b := hc; clear hc
          have h16 : ¬ (((x.kids.length : Nat) : Int) = 0) := of_decide_eq_false h16b
          refine wp_skip <| q_tn <| wp_seq ?_
          rw [if_neg (by omega)] at hT2
          refine w_reg <| rl_run F (run_move (F.ev rfl)) rfl ?_; clear F a; intro a F
          replace M := M.perm (perm_front _ 1 _ rfl)
          replace M := M.perm (perm_front _ 1 _ rfl)
          change Mem w0 G (.blk b [pm, .slice (am) (nm) (cm)] 113 :: .row (.slice (am) (nm) (cm)) (nm) (bc (((l ++ (([60] : List UInt8) ++ x.tag)) ++ (([58] : List UInt8) ++ x.key)) ++ attrsT (x.as.take i))) 5 1 :: .blk b1 [.int .u8 (x.kind), .string (str (x.tag)), .string (str (x.key)), .slice (ta) (x.as.length) (tc), .string (str (x.text)), .slice (ka) (x.kids.length) (kc)] 30 :: L) _ at M
          refine rl_callL F ent98 rfl rfl (wstr_spec (s := ([62] : List UInt8)) hpm M hnm hnilm (by ((try simp only [List.length_append, List.length_cons, List.length_nil]); omega))) ?_; clear F M a; rintro _ _ w a M ⟨rfl, au17, nu17, cu17, rfl, hnu17, hnilu17⟩ F
          refine rl_nil <| q_tn ?_
          iterate 2 (refine wp_seq ?_)
          refine w_reg <| rl_run F (run_fieldAddr tok30.k rfl rfl (F.ev rfl)) rfl ?_; clear F a; intro a F
          refine rl_run F (run_load1 (agf tok28 rfl) (F.ev rfl) (M.cellL (k := 2) rfl rfl)) rfl ?_; clear F a; intro a F
          refine rl_run F (run_lenSl tok28.k (F.ev rfl)) rfl ?_; clear F a; intro a F
          refine rl_run F (run_move (F.ev rfl)) rfl ?_; clear F a; intro a F
          refine rl_nil <| q_tn <| wp_block ?_
          have hz2 : (((l ++ (([60] : List UInt8) ++ x.tag)) ++ (([58] : List UInt8) ++ x.key)) ++ attrsT (x.as.take i)) ++ ([62] : List UInt8) = ((((l ++ (([60] : List UInt8) ++ x.tag)) ++ (([58] : List UInt8) ++ x.key)) ++ attrsT (x.as.take i)) ++ ([62] : List UInt8)) ++ textsN (x.kids.take 0) := by simp [textsN]
          rw [hz2] at M hnu17 hnilu17
          refine w_loopN (fun m a' w' => ∃ (j : Nat), ∃ (ak : Option Addr), ∃ (nk : Nat), ∃ (ck : Nat), ∃ (pk : Value), m = x.kids.length - j ∧ Fits 72 a' [(0, .pointer (some ⟨b, 0, none⟩)), (3, .pointer (some ⟨b1, 0, none⟩)), (56, .slice (ka) (x.kids.length) (kc)), (57, .int .i64 (((x.kids.length : Nat) : Int))), (58, .int .i64 (((j : Nat) : Int)))] ∧ Mem w0 G (.blk b [pk, .slice (ak) (nk) (ck)] 113 :: .row (.slice (ak) (nk) (ck)) (nk) (bc (((((l ++ (([60] : List UInt8) ++ x.tag)) ++ (([58] : List UInt8) ++ x.key)) ++ attrsT (x.as.take i)) ++ ([62] : List UInt8)) ++ textsN (x.kids.take j))) 5 1 :: .blk b1 [.int .u8 (x.kind), .string (str (x.tag)), .string (str (x.key)), .slice (ta) (x.as.length) (tc), .string (str (x.text)), .slice (ka) (x.kids.length) (kc)] 30 :: L) w' ∧ (j ≤ x.kids.length) ∧ (pk = .pointer none ∨ pk = .pointer (some ⟨b, 0, none⟩)) ∧ (nk = (((((l ++ (([60] : List UInt8) ++ x.tag)) ++ (([58] : List UInt8) ++ x.key)) ++ attrsT (x.as.take i)) ++ ([62] : List UInt8)) ++ textsN (x.kids.take j)).length) ∧ ((((((l ++ (([60] : List UInt8) ++ x.tag)) ++ (([58] : List UInt8) ++ x.key)) ++ attrsT (x.as.take i)) ++ ([62] : List UInt8)) ++ textsN (x.kids.take j)) = [] → ak = none)) _ ⟨0, (au17), (nu17), (cu17), (.pointer (some ⟨b, 0, none⟩)), rfl, F.to ⟨rfl, rfl, rfl, rfl, rfl, trivial⟩, M, Nat.zero_le _, (Or.inr rfl), hnu17, hnilu17⟩ ?_
          clear F M
          rintro m a w ⟨j, ak, nk, ck, pk, rfl, F, M, hj, hpk, hnk, hnilk⟩
          refine wp_seq <| w_reg <| rl_run F (run_lss (F.ev rfl) (F.ev rfl)) rfl ?_; clear F a; intro a F
          refine rl_nil <| q_tn <| wp_seq <| w_cond F rfl ?_ ?_
          · intro hc
            have h18b := hc; clear hc
            have h18 : ((j : Nat) : Int) < ((x.kids.length : Nat) : Int) := of_decide_eq_true h18b
            refine wp_skip <| q_tn <| wp_seq <| wp_block <| wp_seq <| w_reg ?_
            obtain ⟨Xe19, hXe19⟩ := get_of_lt (xs := x.kids) (i := j) (by omega)
            obtain ⟨be19, oe19, _, Ie19, _, Ae19, hTe19⟩ := SK.at hXe19
            obtain ⟨tae19, tce19, kae19, kce19, rfl, hke19, hle19, SAe19, SKe19⟩ := rdT_open hTe19
            refine rl_run F (run_indexI tok28.k tok30 (F.ev rfl) (F.ev rfl) (by omega) Ie19) rfl ?_; clear F a; intro a F
            refine rl_run F (run_loadA tok30 rfl (F.ev rfl) (cs := [.int .u8 (Xe19.kind), .string (str (Xe19.tag)), .string (str (Xe19.key)), .slice (tae19) (Xe19.as.length) (tce19), .string (str (Xe19.text)), .slice (kae19) (Xe19.kids.length) (kce19)]) rfl (M.cellsA Ae19 0 (by omega) rfl)) rfl ?_; clear F a; intro a F
            refine rl_alloc F M tok30 rfl rfl ?_; clear F M a; intro b20 w a M F
            refine rl_storeA F M tok30 (k := 0) rfl rfl rfl (us := [.int .u8 (Xe19.kind), .string (str (Xe19.tag)), .string (str (Xe19.key)), .slice (tae19) (Xe19.as.length) (tce19), .string (str (Xe19.text)), .slice (kae19) (Xe19.kids.length) (kce19)]) rfl rfl (by simp [Value.oneCell']) (by simp) ?_; clear F M a; intro w a M F
            change Mem w0 G (.blk b20 [.int .u8 (Xe19.kind), .string (str (Xe19.tag)), .string (str (Xe19.key)), .slice (tae19) (Xe19.as.length) (tce19), .string (str (Xe19.text)), .slice (kae19) (Xe19.kids.length) (kce19)] 30 :: .blk b [pk, .slice (ak) (nk) (ck)] 113 :: .row (.slice (ak) (nk) (ck)) (nk) (bc (((((l ++ (([60] : List UInt8) ++ x.tag)) ++ (([58] : List UInt8) ++ x.key)) ++ attrsT (x.as.take i)) ++ ([62] : List UInt8)) ++ textsN (x.kids.take j))) 5 1 :: .blk b1 [.int .u8 (x.kind), .string (str (x.tag)), .string (str (x.key)), .slice (ta) (x.as.length) (tc), .string (str (x.text)), .slice (ka) (x.kids.length) (kc)] 30 :: L) _ at M
            refine rl_nil <| q_tn ?_
            have hK9 := textsN_le hXe19
            refine w_reg <| rl_run F (run_move (F.ev rfl)) rfl ?_; clear F a; intro a F
            refine rl_run F (run_loadA tok30 rfl (F.ev rfl) (cs := [.int .u8 (Xe19.kind), .string (str (Xe19.tag)), .string (str (Xe19.key)), .slice (tae19) (Xe19.as.length) (tce19), .string (str (Xe19.text)), .slice (kae19) (Xe19.kids.length) (kce19)]) rfl (M.cellsL (k := 0) rfl rfl)) rfl ?_; clear F a; intro a F
            replace M := M.perm (perm_front _ 2 _ rfl)
            replace M := M.perm (perm_front _ 2 _ rfl)
            change Mem w0 G (.blk b [pk, .slice (ak) (nk) (ck)] 113 :: .row (.slice (ak) (nk) (ck)) (nk) (bc (((((l ++ (([60] : List UInt8) ++ x.tag)) ++ (([58] : List UInt8) ++ x.key)) ++ attrsT (x.as.take i)) ++ ([62] : List UInt8)) ++ textsN (x.kids.take j))) 5 1 :: .blk b20 [.int .u8 (Xe19.kind), .string (str (Xe19.tag)), .string (str (Xe19.key)), .slice (tae19) (Xe19.as.length) (tce19), .string (str (Xe19.text)), .slice (kae19) (Xe19.kids.length) (kce19)] 30 :: .blk b1 [.int .u8 (x.kind), .string (str (x.tag)), .string (str (x.key)), .slice (ta) (x.as.length) (tc), .string (str (x.text)), .slice (ka) (x.kids.length) (kc)] 30 :: L) _ at M
            refine rl_callL F ent77 rfl rfl (ih Xe19 (List.mem_of_getElem? hXe19) d _ _ _ _ _ _ _ _ _ _ _ _ _ _ (hok.2 _ (List.mem_of_getElem? hXe19)) hpk M hnk hnilk hke19 hle19 SAe19 SKe19 (by (try simp only [List.length_append, List.length_cons, List.length_nil]); omega)) ?_; clear F M a; rintro _ _ w a M ⟨rfl, au22, nu22, cu22, rfl, hnu22, hnilu22⟩ F
            refine rl_nil <| q_bn <| q_tn <| w_reg <| rl_run F (run_addi (F.ev rfl) (F.ev rfl) (in_i64 (by omega) (by omega))) rfl ?_; clear F a; intro a F
            refine rl_run F (run_move (F.ev rfl)) rfl ?_; clear F a; intro a F
            refine rl_nil <| q_tn ?_
            have hsn : (((((l ++ (([60] : List UInt8) ++ x.tag)) ++ (([58] : List UInt8) ++ x.key)) ++ attrsT (x.as.take i)) ++ ([62] : List UInt8)) ++ textsN (x.kids.take j)) ++ textN Xe19 = ((((l ++ (([60] : List UInt8) ++ x.tag)) ++ (([58] : List UInt8) ++ x.key)) ++ attrsT (x.as.take i)) ++ ([62] : List UInt8)) ++ textsN (x.kids.take (j + 1)) := by rw [textsN_snoc hXe19]; simp only [List.append_assoc]
            rw [hsn] at M hnu22 hnilu22
            exact ⟨_, by omega, j + 1, (au22), (nu22), (cu22), (.pointer (some ⟨b, 0, none⟩)), rfl, F.to ⟨rfl, rfl, rfl, rfl, rfl, trivial⟩, (M.weaken (.cons_cons _ (.cons_cons _ (.cons _ (.cons_cons _ (List.Sublist.refl _)))))), by omega, (Or.inr rfl), hnu22, hnilu22⟩
          · intro hc
            have h23b := hc; clear hc
            have h23 : ¬ (((j : Nat) : Int) < ((x.kids.length : Nat) : Int)) := of_decide_eq_false h23b
            refine wp_exit ?_
            iterate 2 (refine q_te ?_)
            refine q_bh <| q_tn ?_
            have hS0 : (textsN (x.kids.take j)).length = (textsN x.kids).length := by rw [textsN_all (by omega)]
            refine w_reg <| rl_run F (run_move (F.ev rfl)) rfl ?_; clear F a; intro a F
            refine rl_run F (run_fieldAddr tok30.k rfl rfl (F.ev rfl)) rfl ?_; clear F a; intro a F
            refine rl_run F (run_load1 (agf tok9 rfl) (F.ev rfl) (M.cellL (k := 2) rfl rfl)) rfl ?_; clear F a; intro a F
            iterate 2 (refine rl_run F (run_strAdd (F.ev rfl) (F.ev rfl) (by ((try simp only [List.length_append, List.length_cons, List.length_nil]); omega))) rfl ?_; clear F a; intro a F)
            replace M := M.perm (perm_front _ 1 _ rfl)
            replace M := M.perm (perm_front _ 1 _ rfl)
            change Mem w0 G (.blk b [pk, .slice (ak) (nk) (ck)] 113 :: .row (.slice (ak) (nk) (ck)) (nk) (bc (((((l ++ (([60] : List UInt8) ++ x.tag)) ++ (([58] : List UInt8) ++ x.key)) ++ attrsT (x.as.take i)) ++ ([62] : List UInt8)) ++ textsN (x.kids.take j))) 5 1 :: .blk b1 [.int .u8 (x.kind), .string (str (x.tag)), .string (str (x.key)), .slice (ta) (x.as.length) (tc), .string (str (x.text)), .slice (ka) (x.kids.length) (kc)] 30 :: L) _ at M
            refine rl_callL F ent98 rfl rfl (wstr_spec (s := ((([60, 47] : List UInt8) ++ x.tag) ++ ([62] : List UInt8))) hpk M hnk hnilk (by ((try simp only [List.length_append, List.length_cons, List.length_nil]); omega))) ?_; clear F M a; rintro _ _ w a M ⟨rfl, au24, nu24, cu24, rfl, hnu24, hnilu24⟩ F
            refine rl_nil <| fin0n F rfl ?_
            replace M := M.perm (perm_front _ 1 _ rfl)
            replace M := M.perm (perm_front _ 1 _ rfl)
            change Mem w0 G (.blk b [.pointer (some ⟨b, 0, none⟩), .slice (au24) (nu24) (cu24)] 113 :: .row (.slice (au24) (nu24) (cu24)) (nu24) (bc ((((((l ++ (([60] : List UInt8) ++ x.tag)) ++ (([58] : List UInt8) ++ x.key)) ++ attrsT (x.as.take i)) ++ ([62] : List UInt8)) ++ textsN (x.kids.take j)) ++ ((([60, 47] : List UInt8) ++ x.tag) ++ ([62] : List UInt8)))) 5 1 :: .blk b1 [.int .u8 (x.kind), .string (str (x.tag)), .string (str (x.key)), .slice (ta) (x.as.length) (tc), .string (str (x.text)), .slice (ka) (x.kids.length) (kc)] 30 :: L) _ at M
            have hsn : (((((l ++ (([60] : List UInt8) ++ x.tag)) ++ (([58] : List UInt8) ++ x.key)) ++ attrsT (x.as.take i)) ++ ([62] : List UInt8)) ++ textsN (x.kids.take j)) ++ ((([60, 47] : List UInt8) ++ x.tag) ++ ([62] : List UInt8)) = l ++ textN x := by first | (rw [textN_words (by omega)]; done) | (rw [textN_leaf (by omega) (by omega), keyT_yes (by assumption), attrsT_all (by omega)]; simp only [List.append_assoc]; done) | (rw [textN_leaf (by omega) (by omega), keyT_no (by assumption), attrsT_all (by omega)]; simp only [List.append_assoc, List.nil_append]; done) | (rw [textN_node (by omega) (by omega), keyT_yes (by assumption), attrsT_all (by omega), textsN_all (by omega)]; simp only [List.append_assoc]; done) | (rw [textN_node (by omega) (by omega), keyT_no (by assumption), attrsT_all (by omega), textsN_all (by omega)]; simp only [List.append_assoc, List.nil_append]; done)
            rw [hsn] at M hnu24 hnilu24
            exact ⟨_, M.weaken (.cons_cons _ (.cons_cons _ (.cons _ (List.Sublist.refl _)))), rfl, _, _, _, rfl, hnu24, hnilu24⟩
    · intro hc
      have h25b := hc; clear hc
      have h25 : x.key = ([] : List UInt8) := of_decide_eq_true (of_not_f h25b)
      have h25c : (decide (x.key = ([] : List UInt8))) = true := (of_not_f h25b)
      refine wp_skip <| q_tn ?_
      iterate 2 (refine wp_seq ?_)
      refine w_reg <| rl_run F (run_fieldAddr tok30.k rfl rfl (F.ev rfl)) rfl ?_; clear F a; intro a F
      refine rl_run F (run_load1 (agf tok27 rfl) (F.ev rfl) (M.cellL (k := 2) rfl rfl)) rfl ?_; clear F a; intro a F
      refine rl_run F (run_lenSl tok27.k (F.ev rfl)) rfl ?_; clear F a; intro a F
      refine rl_run F (run_move (F.ev rfl)) rfl ?_; clear F a; intro a F
      refine rl_nil <| q_tn <| wp_block ?_
      have hz : l ++ (([60] : List UInt8) ++ x.tag) = (l ++ (([60] : List UInt8) ++ x.tag)) ++ attrsT (x.as.take 0) := by simp [attrsT]
      rw [hz] at M hnu5 hnilu5
      refine w_loopN (fun m a' w' => ∃ (i : Nat), ∃ (am : Option Addr), ∃ (nm : Nat), ∃ (cm : Nat), ∃ (pm : Value), m = x.as.length - i ∧ Fits 72 a' [(0, .pointer (some ⟨b, 0, none⟩)), (3, .pointer (some ⟨b1, 0, none⟩)), (30, .slice (ta) (x.as.length) (tc)), (31, .int .i64 (((x.as.length : Nat) : Int))), (32, .int .i64 (((i : Nat) : Int)))] ∧ Mem w0 G (.blk b [pm, .slice (am) (nm) (cm)] 113 :: .row (.slice (am) (nm) (cm)) (nm) (bc ((l ++ (([60] : List UInt8) ++ x.tag)) ++ attrsT (x.as.take i))) 5 1 :: .blk b1 [.int .u8 (x.kind), .string (str (x.tag)), .string (str (x.key)), .slice (ta) (x.as.length) (tc), .string (str (x.text)), .slice (ka) (x.kids.length) (kc)] 30 :: L) w' ∧ (i ≤ x.as.length) ∧ (pm = .pointer none ∨ pm = .pointer (some ⟨b, 0, none⟩)) ∧ (nm = ((l ++ (([60] : List UInt8) ++ x.tag)) ++ attrsT (x.as.take i)).length) ∧ (((l ++ (([60] : List UInt8) ++ x.tag)) ++ attrsT (x.as.take i)) = [] → am = none)) _ ⟨0, (au5), (nu5), (cu5), (.pointer (some ⟨b, 0, none⟩)), rfl, F.to ⟨rfl, rfl, rfl, rfl, rfl, trivial⟩, M, Nat.zero_le _, (Or.inr rfl), hnu5, hnilu5⟩ ?_
      clear F M
      rintro m a w ⟨i, am, nm, cm, pm, rfl, F, M, hi, hpm, hnm, hnilm⟩
      refine wp_seq <| w_reg <| rl_run F (run_lss (F.ev rfl) (F.ev rfl)) rfl ?_; clear F a; intro a F
      refine rl_nil <| q_tn <| wp_seq <| w_cond F rfl ?_ ?_
      · intro hc
        have h26b := hc; clear hc
        have h26 : ((i : Nat) : Int) < ((x.as.length : Nat) : Int) := of_decide_eq_true h26b
        refine wp_skip <| q_tn <| wp_seq <| wp_block <| wp_seq <| w_reg ?_
        obtain ⟨Xe27, hXe27⟩ := get_of_lt (xs := x.as) (i := i) (by omega)
        obtain ⟨be27, oe27, _, Ie27, _, Ae27, ⟨rfl, hn1e27, hv1e27⟩⟩ := SA.at hXe27
        refine rl_run F (run_indexI tok27.k tok87 (F.ev rfl) (F.ev rfl) (by omega) Ie27) rfl ?_; clear F a; intro a F
        refine rl_run F (run_loadA tok87 rfl (F.ev rfl) (cs := [.string (str (Xe27.n)), .string (str (Xe27.v))]) rfl (M.cellsA Ae27 0 (by omega) rfl)) rfl ?_; clear F a; intro a F
        refine rl_alloc F M tok87 rfl rfl ?_; clear F M a; intro b28 w a M F
        refine rl_storeA F M tok87 (k := 0) rfl rfl rfl (us := [.string (str (Xe27.n)), .string (str (Xe27.v))]) rfl rfl (by simp [Value.oneCell']) (by simp) ?_; clear F M a; intro w a M F
        change Mem w0 G (.blk b28 [.string (str (Xe27.n)), .string (str (Xe27.v))] 87 :: .blk b [pm, .slice (am) (nm) (cm)] 113 :: .row (.slice (am) (nm) (cm)) (nm) (bc ((l ++ (([60] : List UInt8) ++ x.tag)) ++ attrsT (x.as.take i))) 5 1 :: .blk b1 [.int .u8 (x.kind), .string (str (x.tag)), .string (str (x.key)), .slice (ta) (x.as.length) (tc), .string (str (x.text)), .slice (ka) (x.kids.length) (kc)] 30 :: L) _ at M
        refine rl_nil <| q_tn ?_
        have hA9 := attrsT_le hXe27
        refine w_plan [(true, 0), (true, 1), (true, 2), (true, 3), (true, 4), (true, 5), (true, 6), (false, 7), (true, 8), (false, 9)] (Keep G [.blk b28 [.string (str (Xe27.n)), .string (str (Xe27.v))] 87, .blk b1 [.int .u8 (x.kind), .string (str (x.tag)), .string (str (x.key)), .slice (ta) (x.as.length) (tc), .string (str (x.text)), .slice (ka) (x.kids.length) (kc)] 30]) rfl (by kernel_rfl) (fun c a d v w h => by cases d <;> exact h) ((M.drew _).keep (Gle.refl _) (by simp)) ?_
        replace M := M.drew (w.drawn + 1)
        refine pl_run F (fun w M => run_move (F.ev rfl)) rfl ?_; clear F a; intro a F
        refine pl_run F (fun w M => run_fieldAddr tok87.k rfl rfl (F.ev rfl)) rfl ?_; clear F a; intro a F
        refine pl_run F (fun w M => run_load1 (agf tok9 rfl) (F.ev rfl) (M.cellL (k := 0) rfl rfl)) rfl ?_; clear F a; intro a F
        iterate 2 (refine pl_run F (fun w M => run_strAdd (F.ev rfl) (F.ev rfl) (by ((try simp only [List.length_append, List.length_cons, List.length_nil]); omega))) rfl ?_; clear F a; intro a F)
        refine pl_run F (fun w M => run_fieldAddr tok87.k rfl rfl (F.ev rfl)) rfl ?_; clear F a; intro a F
        refine pl_run F (fun w M => run_load1 (agf tok9 rfl) (F.ev rfl) (M.cellL (k := 0) rfl rfl)) rfl ?_; clear F a; intro a F
        refine pl_act ?_ rfl
        refine rl_callS F ent99 rfl rfl (quoted_spec (s := Xe27.v) M (hok.1.2 _ (List.mem_of_getElem? hXe27))) ?_; clear F M a; rintro _ w a M rfl F
        refine rl_nil <| ⟨Keep G [.blk b28 [.string (str (Xe27.n)), .string (str (Xe27.v))] 87, .blk b1 [.int .u8 (x.kind), .string (str (x.tag)), .string (str (x.key)), .slice (ta) (x.as.length) (tc), .string (str (x.text)), .slice (ka) (x.kids.length) (kc)] 30], M.keep (Gle.refl _) (by simp), fun w h => h.mono (Gle.refl _) (by simp), ?_⟩
        refine pl_run F (fun w M => run_strAdd (F.ev rfl) (F.ev rfl) (by ((try simp only [List.length_append, List.length_cons, List.length_nil]); omega))) rfl ?_; clear F a; intro a F
        refine pl_act ?_ rfl
        replace M := M.perm (perm_front _ 2 _ rfl)
        replace M := M.perm (perm_front _ 2 _ rfl)
        change Mem w0 G (.blk b [pm, .slice (am) (nm) (cm)] 113 :: .row (.slice (am) (nm) (cm)) (nm) (bc ((l ++ (([60] : List UInt8) ++ x.tag)) ++ attrsT (x.as.take i))) 5 1 :: .blk b28 [.string (str (Xe27.n)), .string (str (Xe27.v))] 87 :: .blk b1 [.int .u8 (x.kind), .string (str (x.tag)), .string (str (x.key)), .slice (ta) (x.as.length) (tc), .string (str (x.text)), .slice (ka) (x.kids.length) (kc)] 30 :: L) _ at M
        refine rl_callL F ent98 rfl rfl (wstr_spec (s := (((([32] : List UInt8) ++ Xe27.n) ++ ([61] : List UInt8)) ++ (quoteF Xe27.v))) hpm M hnm hnilm (by ((try simp only [List.length_append, List.length_cons, List.length_nil]); omega))) ?_; clear F M a; rintro _ _ w a M ⟨rfl, au30, nu30, cu30, rfl, hnu30, hnilu30⟩ F
        refine rl_nil <| ⟨Keep G [.blk b28 [.string (str (Xe27.n)), .string (str (Xe27.v))] 87, .blk b1 [.int .u8 (x.kind), .string (str (x.tag)), .string (str (x.key)), .slice (ta) (x.as.length) (tc), .string (str (x.text)), .slice (ka) (x.kids.length) (kc)] 30], M.keep (Gle.refl _) (by simp), fun w h => h.mono (Gle.refl _) (by simp), ?_⟩
        refine pl_nil <| q_bn <| q_tn <| w_reg <| rl_run F (run_addi (F.ev rfl) (F.ev rfl) (in_i64 (by omega) (by omega))) rfl ?_; clear F a; intro a F
        refine rl_run F (run_move (F.ev rfl)) rfl ?_; clear F a; intro a F
        refine rl_nil <| q_tn ?_
        have hsn : ((l ++ (([60] : List UInt8) ++ x.tag)) ++ attrsT (x.as.take i)) ++ (((([32] : List UInt8) ++ Xe27.n) ++ ([61] : List UInt8)) ++ (quoteF Xe27.v)) = (l ++ (([60] : List UInt8) ++ x.tag)) ++ attrsT (x.as.take (i + 1)) := by rw [attrsT_snoc hXe27, attrT]; simp only [List.append_assoc]
        rw [hsn] at M hnu30 hnilu30
        exact ⟨_, by omega, i + 1, (au30), (nu30), (cu30), (.pointer (some ⟨b, 0, none⟩)), rfl, F.to ⟨rfl, rfl, rfl, rfl, rfl, trivial⟩, (M.weaken (.cons_cons _ (.cons_cons _ (.cons _ (.cons_cons _ (List.Sublist.refl _)))))), by omega, (Or.inr rfl), hnu30, hnilu30⟩
      · intro hc
        have h31b := hc; clear hc
        have h31 : ¬ (((i : Nat) : Int) < ((x.as.length : Nat) : Int)) := of_decide_eq_false h31b
        refine wp_exit ?_
        iterate 2 (refine q_te ?_)
        refine q_bh <| q_tn ?_
        iterate 2 (refine wp_seq ?_)
        have hA0 : (attrsT (x.as.take i)).length = (attrsT x.as).length := by rw [attrsT_all (by omega)]
        refine w_reg <| rl_run F (run_fieldAddr tok30.k rfl rfl (F.ev rfl)) rfl ?_; clear F a; intro a F
        refine rl_run F (run_load1 (agf tok28 rfl) (F.ev rfl) (M.cellL (k := 2) rfl rfl)) rfl ?_; clear F a; intro a F
        refine rl_run F (run_lenSl tok28.k (F.ev rfl)) rfl ?_; clear F a; intro a F
        refine rl_run F (run_eqi (F.ev rfl) (F.ev rfl)) rfl ?_; clear F a; intro a F
        refine rl_nil <| q_tn <| w_cond F rfl ?_ ?_
        · intro hc
          have h32b := hc; clear hc
          have h32 : ((x.kids.length : Nat) : Int) = 0 := of_decide_eq_true h32b
          refine wp_seq ?_
          rw [if_pos (by omega)] at hT2
          refine w_reg <| rl_run F (run_move (F.ev rfl)) rfl ?_; clear F a; intro a F
          replace M := M.perm (perm_front _ 1 _ rfl)
          replace M := M.perm (perm_front _ 1 _ rfl)
          change Mem w0 G (.blk b [pm, .slice (am) (nm) (cm)] 113 :: .row (.slice (am) (nm) (cm)) (nm) (bc ((l ++ (([60] : List UInt8) ++ x.tag)) ++ attrsT (x.as.take i))) 5 1 :: .blk b1 [.int .u8 (x.kind), .string (str (x.tag)), .string (str (x.key)), .slice (ta) (x.as.length) (tc), .string (str (x.text)), .slice (ka) (x.kids.length) (kc)] 30 :: L) _ at M
          refine rl_callL F ent98 rfl rfl (wstr_spec (s := ([47, 62] : List UInt8)) hpm M hnm hnilm (by ((try simp only [List.length_append, List.length_cons, List.length_nil]); omega))) ?_; clear F M a; rintro _ _ w a M ⟨rfl, au33, nu33, cu33, rfl, hnu33, hnilu33⟩ F
          refine rl_nil <| q_tn <| wp_ret <| q_tr <| fin0 F rfl ?_
          replace M := M.perm (perm_front _ 1 _ rfl)
          replace M := M.perm (perm_front _ 1 _ rfl)
          change Mem w0 G (.blk b [.pointer (some ⟨b, 0, none⟩), .slice (au33) (nu33) (cu33)] 113 :: .row (.slice (au33) (nu33) (cu33)) (nu33) (bc (((l ++ (([60] : List UInt8) ++ x.tag)) ++ attrsT (x.as.take i)) ++ ([47, 62] : List UInt8))) 5 1 :: .blk b1 [.int .u8 (x.kind), .string (str (x.tag)), .string (str (x.key)), .slice (ta) (x.as.length) (tc), .string (str (x.text)), .slice (ka) (x.kids.length) (kc)] 30 :: L) _ at M
          have hsn : ((l ++ (([60] : List UInt8) ++ x.tag)) ++ attrsT (x.as.take i)) ++ ([47, 62] : List UInt8) = l ++ textN x := by first | (rw [textN_words (by omega)]; done) | (rw [textN_leaf (by omega) (by omega), keyT_yes (by assumption), attrsT_all (by omega)]; simp only [List.append_assoc]; done) | (rw [textN_leaf (by omega) (by omega), keyT_no (by assumption), attrsT_all (by omega)]; simp only [List.append_assoc, List.nil_append]; done) | (rw [textN_node (by omega) (by omega), keyT_yes (by assumption), attrsT_all (by omega), textsN_all (by omega)]; simp only [List.append_assoc]; done) | (rw [textN_node (by omega) (by omega), keyT_no (by assumption), attrsT_all (by omega), textsN_all (by omega)]; simp only [List.append_assoc, List.nil_append]; done)
          rw [hsn] at M hnu33 hnilu33
          exact ⟨_, M.weaken (.cons_cons _ (.cons_cons _ (.cons _ (List.Sublist.refl _)))), rfl, _, _, _, rfl, hnu33, hnilu33⟩
        · intro hc
          have h34b := hc; clear hc
          have h34 : ¬ (((x.kids.length : Nat) : Int) = 0) := of_decide_eq_false h34b
          refine wp_skip <| q_tn <| wp_seq ?_
          rw [if_neg (by omega)] at hT2
          refine w_reg <| rl_run F (run_move (F.ev rfl)) rfl ?_; clear F a; intro a F
          replace M := M.perm (perm_front _ 1 _ rfl)
          replace M := M.perm (perm_front _ 1 _ rfl)
          change Mem w0 G (.blk b [pm, .slice (am) (nm) (cm)] 113 :: .row (.slice (am) (nm) (cm)) (nm) (bc ((l ++ (([60] : List UInt8) ++ x.tag)) ++ attrsT (x.as.take i))) 5 1 :: .blk b1 [.int .u8 (x.kind), .string (str (x.tag)), .string (str (x.key)), .slice (ta) (x.as.length) (tc), .string (str (x.text)), .slice (ka) (x.kids.length) (kc)] 30 :: L) _ at M
          refine rl_callL F ent98 rfl rfl (wstr_spec (s := ([62] : List UInt8)) hpm M hnm hnilm (by ((try simp only [List.length_append, List.length_cons, List.length_nil]); omega))) ?_; clear F M a; rintro _ _ w a M ⟨rfl, au35, nu35, cu35, rfl, hnu35, hnilu35⟩ F
          refine rl_nil <| q_tn ?_
          iterate 2 (refine wp_seq ?_)
          refine w_reg <| rl_run F (run_fieldAddr tok30.k rfl rfl (F.ev rfl)) rfl ?_; clear F a; intro a F
          refine rl_run F (run_load1 (agf tok28 rfl) (F.ev rfl) (M.cellL (k := 2) rfl rfl)) rfl ?_; clear F a; intro a F
          refine rl_run F (run_lenSl tok28.k (F.ev rfl)) rfl ?_; clear F a; intro a F
          refine rl_run F (run_move (F.ev rfl)) rfl ?_; clear F a; intro a F
          refine rl_nil <| q_tn <| wp_block ?_
          have hz2 : ((l ++ (([60] : List UInt8) ++ x.tag)) ++ attrsT (x.as.take i)) ++ ([62] : List UInt8) = (((l ++ (([60] : List UInt8) ++ x.tag)) ++ attrsT (x.as.take i)) ++ ([62] : List UInt8)) ++ textsN (x.kids.take 0) := by simp [textsN]
          rw [hz2] at M hnu35 hnilu35
          refine w_loopN (fun m a' w' => ∃ (j : Nat), ∃ (ak : Option Addr), ∃ (nk : Nat), ∃ (ck : Nat), ∃ (pk : Value), m = x.kids.length - j ∧ Fits 72 a' [(0, .pointer (some ⟨b, 0, none⟩)), (3, .pointer (some ⟨b1, 0, none⟩)), (56, .slice (ka) (x.kids.length) (kc)), (57, .int .i64 (((x.kids.length : Nat) : Int))), (58, .int .i64 (((j : Nat) : Int)))] ∧ Mem w0 G (.blk b [pk, .slice (ak) (nk) (ck)] 113 :: .row (.slice (ak) (nk) (ck)) (nk) (bc ((((l ++ (([60] : List UInt8) ++ x.tag)) ++ attrsT (x.as.take i)) ++ ([62] : List UInt8)) ++ textsN (x.kids.take j))) 5 1 :: .blk b1 [.int .u8 (x.kind), .string (str (x.tag)), .string (str (x.key)), .slice (ta) (x.as.length) (tc), .string (str (x.text)), .slice (ka) (x.kids.length) (kc)] 30 :: L) w' ∧ (j ≤ x.kids.length) ∧ (pk = .pointer none ∨ pk = .pointer (some ⟨b, 0, none⟩)) ∧ (nk = ((((l ++ (([60] : List UInt8) ++ x.tag)) ++ attrsT (x.as.take i)) ++ ([62] : List UInt8)) ++ textsN (x.kids.take j)).length) ∧ (((((l ++ (([60] : List UInt8) ++ x.tag)) ++ attrsT (x.as.take i)) ++ ([62] : List UInt8)) ++ textsN (x.kids.take j)) = [] → ak = none)) _ ⟨0, (au35), (nu35), (cu35), (.pointer (some ⟨b, 0, none⟩)), rfl, F.to ⟨rfl, rfl, rfl, rfl, rfl, trivial⟩, M, Nat.zero_le _, (Or.inr rfl), hnu35, hnilu35⟩ ?_
          clear F M
          rintro m a w ⟨j, ak, nk, ck, pk, rfl, F, M, hj, hpk, hnk, hnilk⟩
          refine wp_seq <| w_reg <| rl_run F (run_lss (F.ev rfl) (F.ev rfl)) rfl ?_; clear F a; intro a F
          refine rl_nil <| q_tn <| wp_seq <| w_cond F rfl ?_ ?_
          · intro hc
            have h36b := hc; clear hc
            have h36 : ((j : Nat) : Int) < ((x.kids.length : Nat) : Int) := of_decide_eq_true h36b
            refine wp_skip <| q_tn <| wp_seq <| wp_block <| wp_seq <| w_reg ?_
            obtain ⟨Xe37, hXe37⟩ := get_of_lt (xs := x.kids) (i := j) (by omega)
            obtain ⟨be37, oe37, _, Ie37, _, Ae37, hTe37⟩ := SK.at hXe37
            obtain ⟨tae37, tce37, kae37, kce37, rfl, hke37, hle37, SAe37, SKe37⟩ := rdT_open hTe37
            refine rl_run F (run_indexI tok28.k tok30 (F.ev rfl) (F.ev rfl) (by omega) Ie37) rfl ?_; clear F a; intro a F
            refine rl_run F (run_loadA tok30 rfl (F.ev rfl) (cs := [.int .u8 (Xe37.kind), .string (str (Xe37.tag)), .string (str (Xe37.key)), .slice (tae37) (Xe37.as.length) (tce37), .string (str (Xe37.text)), .slice (kae37) (Xe37.kids.length) (kce37)]) rfl (M.cellsA Ae37 0 (by omega) rfl)) rfl ?_; clear F a; intro a F
            refine rl_alloc F M tok30 rfl rfl ?_; clear F M a; intro b38 w a M F
            refine rl_storeA F M tok30 (k := 0) rfl rfl rfl (us := [.int .u8 (Xe37.kind), .string (str (Xe37.tag)), .string (str (Xe37.key)), .slice (tae37) (Xe37.as.length) (tce37), .string (str (Xe37.text)), .slice (kae37) (Xe37.kids.length) (kce37)]) rfl rfl (by simp [Value.oneCell']) (by simp) ?_; clear F M a; intro w a M F
            change Mem w0 G (.blk b38 [.int .u8 (Xe37.kind), .string (str (Xe37.tag)), .string (str (Xe37.key)), .slice (tae37) (Xe37.as.length) (tce37), .string (str (Xe37.text)), .slice (kae37) (Xe37.kids.length) (kce37)] 30 :: .blk b [pk, .slice (ak) (nk) (ck)] 113 :: .row (.slice (ak) (nk) (ck)) (nk) (bc ((((l ++ (([60] : List UInt8) ++ x.tag)) ++ attrsT (x.as.take i)) ++ ([62] : List UInt8)) ++ textsN (x.kids.take j))) 5 1 :: .blk b1 [.int .u8 (x.kind), .string (str (x.tag)), .string (str (x.key)), .slice (ta) (x.as.length) (tc), .string (str (x.text)), .slice (ka) (x.kids.length) (kc)] 30 :: L) _ at M
            refine rl_nil <| q_tn ?_
            have hK9 := textsN_le hXe37
            refine w_reg <| rl_run F (run_move (F.ev rfl)) rfl ?_; clear F a; intro a F
            refine rl_run F (run_loadA tok30 rfl (F.ev rfl) (cs := [.int .u8 (Xe37.kind), .string (str (Xe37.tag)), .string (str (Xe37.key)), .slice (tae37) (Xe37.as.length) (tce37), .string (str (Xe37.text)), .slice (kae37) (Xe37.kids.length) (kce37)]) rfl (M.cellsL (k := 0) rfl rfl)) rfl ?_; clear F a; intro a F
            replace M := M.perm (perm_front _ 2 _ rfl)
            replace M := M.perm (perm_front _ 2 _ rfl)
            change Mem w0 G (.blk b [pk, .slice (ak) (nk) (ck)] 113 :: .row (.slice (ak) (nk) (ck)) (nk) (bc ((((l ++ (([60] : List UInt8) ++ x.tag)) ++ attrsT (x.as.take i)) ++ ([62] : List UInt8)) ++ textsN (x.kids.take j))) 5 1 :: .blk b38 [.int .u8 (Xe37.kind), .string (str (Xe37.tag)), .string (str (Xe37.key)), .slice (tae37) (Xe37.as.length) (tce37), .string (str (Xe37.text)), .slice (kae37) (Xe37.kids.length) (kce37)] 30 :: .blk b1 [.int .u8 (x.kind), .string (str (x.tag)), .string (str (x.key)), .slice (ta) (x.as.length) (tc), .string (str (x.text)), .slice (ka) (x.kids.length) (kc)] 30 :: L) _ at M
            refine rl_callL F ent77 rfl rfl (ih Xe37 (List.mem_of_getElem? hXe37) d _ _ _ _ _ _ _ _ _ _ _ _ _ _ (hok.2 _ (List.mem_of_getElem? hXe37)) hpk M hnk hnilk hke37 hle37 SAe37 SKe37 (by (try simp only [List.length_append, List.length_cons, List.length_nil]); omega)) ?_; clear F M a; rintro _ _ w a M ⟨rfl, au40, nu40, cu40, rfl, hnu40, hnilu40⟩ F
            refine rl_nil <| q_bn <| q_tn <| w_reg <| rl_run F (run_addi (F.ev rfl) (F.ev rfl) (in_i64 (by omega) (by omega))) rfl ?_; clear F a; intro a F
            refine rl_run F (run_move (F.ev rfl)) rfl ?_; clear F a; intro a F
            refine rl_nil <| q_tn ?_
            have hsn : ((((l ++ (([60] : List UInt8) ++ x.tag)) ++ attrsT (x.as.take i)) ++ ([62] : List UInt8)) ++ textsN (x.kids.take j)) ++ textN Xe37 = (((l ++ (([60] : List UInt8) ++ x.tag)) ++ attrsT (x.as.take i)) ++ ([62] : List UInt8)) ++ textsN (x.kids.take (j + 1)) := by rw [textsN_snoc hXe37]; simp only [List.append_assoc]
            rw [hsn] at M hnu40 hnilu40
            exact ⟨_, by omega, j + 1, (au40), (nu40), (cu40), (.pointer (some ⟨b, 0, none⟩)), rfl, F.to ⟨rfl, rfl, rfl, rfl, rfl, trivial⟩, (M.weaken (.cons_cons _ (.cons_cons _ (.cons _ (.cons_cons _ (List.Sublist.refl _)))))), by omega, (Or.inr rfl), hnu40, hnilu40⟩
          · intro hc
            have h41b := hc; clear hc
            have h41 : ¬ (((j : Nat) : Int) < ((x.kids.length : Nat) : Int)) := of_decide_eq_false h41b
            refine wp_exit ?_
            iterate 2 (refine q_te ?_)
            refine q_bh <| q_tn ?_
            have hS0 : (textsN (x.kids.take j)).length = (textsN x.kids).length := by rw [textsN_all (by omega)]
            refine w_reg <| rl_run F (run_move (F.ev rfl)) rfl ?_; clear F a; intro a F
            refine rl_run F (run_fieldAddr tok30.k rfl rfl (F.ev rfl)) rfl ?_; clear F a; intro a F
            refine rl_run F (run_load1 (agf tok9 rfl) (F.ev rfl) (M.cellL (k := 2) rfl rfl)) rfl ?_; clear F a; intro a F
            iterate 2 (refine rl_run F (run_strAdd (F.ev rfl) (F.ev rfl) (by ((try simp only [List.length_append, List.length_cons, List.length_nil]); omega))) rfl ?_; clear F a; intro a F)
            replace M := M.perm (perm_front _ 1 _ rfl)
            replace M := M.perm (perm_front _ 1 _ rfl)
            change Mem w0 G (.blk b [pk, .slice (ak) (nk) (ck)] 113 :: .row (.slice (ak) (nk) (ck)) (nk) (bc ((((l ++ (([60] : List UInt8) ++ x.tag)) ++ attrsT (x.as.take i)) ++ ([62] : List UInt8)) ++ textsN (x.kids.take j))) 5 1 :: .blk b1 [.int .u8 (x.kind), .string (str (x.tag)), .string (str (x.key)), .slice (ta) (x.as.length) (tc), .string (str (x.text)), .slice (ka) (x.kids.length) (kc)] 30 :: L) _ at M
            refine rl_callL F ent98 rfl rfl (wstr_spec (s := ((([60, 47] : List UInt8) ++ x.tag) ++ ([62] : List UInt8))) hpk M hnk hnilk (by ((try simp only [List.length_append, List.length_cons, List.length_nil]); omega))) ?_; clear F M a; rintro _ _ w a M ⟨rfl, au42, nu42, cu42, rfl, hnu42, hnilu42⟩ F
            refine rl_nil <| fin0n F rfl ?_
            replace M := M.perm (perm_front _ 1 _ rfl)
            replace M := M.perm (perm_front _ 1 _ rfl)
            change Mem w0 G (.blk b [.pointer (some ⟨b, 0, none⟩), .slice (au42) (nu42) (cu42)] 113 :: .row (.slice (au42) (nu42) (cu42)) (nu42) (bc (((((l ++ (([60] : List UInt8) ++ x.tag)) ++ attrsT (x.as.take i)) ++ ([62] : List UInt8)) ++ textsN (x.kids.take j)) ++ ((([60, 47] : List UInt8) ++ x.tag) ++ ([62] : List UInt8)))) 5 1 :: .blk b1 [.int .u8 (x.kind), .string (str (x.tag)), .string (str (x.key)), .slice (ta) (x.as.length) (tc), .string (str (x.text)), .slice (ka) (x.kids.length) (kc)] 30 :: L) _ at M
            have hsn : ((((l ++ (([60] : List UInt8) ++ x.tag)) ++ attrsT (x.as.take i)) ++ ([62] : List UInt8)) ++ textsN (x.kids.take j)) ++ ((([60, 47] : List UInt8) ++ x.tag) ++ ([62] : List UInt8)) = l ++ textN x := by first | (rw [textN_words (by omega)]; done) | (rw [textN_leaf (by omega) (by omega), keyT_yes (by assumption), attrsT_all (by omega)]; simp only [List.append_assoc]; done) | (rw [textN_leaf (by omega) (by omega), keyT_no (by assumption), attrsT_all (by omega)]; simp only [List.append_assoc, List.nil_append]; done) | (rw [textN_node (by omega) (by omega), keyT_yes (by assumption), attrsT_all (by omega), textsN_all (by omega)]; simp only [List.append_assoc]; done) | (rw [textN_node (by omega) (by omega), keyT_no (by assumption), attrsT_all (by omega), textsN_all (by omega)]; simp only [List.append_assoc, List.nil_append]; done)
            rw [hsn] at M hnu42 hnilu42
            exact ⟨_, M.weaken (.cons_cons _ (.cons_cons _ (.cons _ (List.Sublist.refl _)))), rfl, _, _, _, rfl, hnu42, hnilu42⟩
theorem write_all (x : NT) : WrP x := by
  induction x using Tr.ind with
  | _ x ih =>
    intro d w0 w G L b n c ad l p ta ka tc kc hok hp M hn hnil hk hl SA SK hT
    cases d with
    | zero => exact hok.elim
    | succ d => exact write_step ih hok hp M hn hnil hk hl SA SK hT
theorem ntextf_spec {w0 w : World} {G : Ghost} {L : List Res} (M : Mem w0 G L w) {x : NT} {ta : Option Addr} {tc : Nat} {ka : Option Addr} {kc : Nat} (hk : inKind .u8 x.kind) (hl : (x.tag.length ≤ 9223372036854775807 ∧ x.key.length ≤ 9223372036854775807 ∧ x.text.length ≤ 9223372036854775807)) (SA : RdSl rdAttr 2 G (.slice ta x.as.length tc) x.as) (SK : RdSl rdN 6 G (.slice ka x.kids.length kc) x.kids) {d : Nat} (hok : Tr.Ok PlainA d x) (hT : (textN x).length ≤ 140737488355328) :
    Calls Tryz.prog 38 #[.agg #[.int .u8 (x.kind), .string (str (x.tag)), .string (str (x.key)), .slice (ta) (x.as.length) (tc), .string (str (x.text)), .slice (ka) (x.kids.length) (kc)]] w (RetS w0 G L fun v => v = .tuple #[.string (str (if chkF x = 0 then textN x else [])), .int .i64 (chkF x)]) := by
  refine calls_start (vs := [_]) Tryz.func38 rfl (n := 14) rfl rfl ?_
  intro a F
  refine wp_seq <| w_reg <| rl_box F M rfl (cs := [.int .u8 (x.kind), .string (str (x.tag)), .string (str (x.key)), .slice (ta) (x.as.length) (tc), .string (str (x.text)), .slice (ka) (x.kids.length) (kc)]) rfl rfl ?_; clear F M a; intro b1 w a M F
  iterate 2 (refine rl_run F (run_assign (F.ev rfl)) rfl ?_; clear F a; intro a F)
  refine rl_nil <| q_tn ?_
  iterate 2 (refine wp_seq ?_)
  refine w_reg <| rl_run F (run_loadA tok30 rfl (F.ev rfl) (cs := [.int .u8 (x.kind), .string (str (x.tag)), .string (str (x.key)), .slice (ta) (x.as.length) (tc), .string (str (x.text)), .slice (ka) (x.kids.length) (kc)]) rfl (M.cellsL (k := 0) rfl rfl)) rfl ?_; clear F a; intro a F
  refine rl_callS F ent30 rfl rfl (ncheck_spec (x := x) M hk hl SA SK) ?_; clear F M a; rintro _ w a M rfl F
  refine rl_run F (run_assign (F.ev rfl)) rfl ?_; clear F a; intro a F
  refine rl_nil <| q_tn <| wp_seq <| w_reg <| rl_run F (run_move (F.ev rfl)) rfl ?_; clear F a; intro a F
  refine rl_run F (run_nei (F.ev rfl) (F.ev rfl)) rfl ?_; clear F a; intro a F
  refine rl_nil <| q_tn <| w_cond F rfl ?_ ?_
  · intro hc
    have h2b := hc; clear hc
    have h2 : ¬ (chkF x = 0) := of_decide_eq_false (of_not_t h2b)
    have h2c : (decide (chkF x = 0)) = false := (of_not_t h2b)
    refine wp_seq <| w_reg <| rl_run F (run_move (F.ev rfl)) rfl ?_; clear F a; intro a F
    iterate 2 (refine rl_run F (run_assign (F.ev rfl)) rfl ?_; clear F a; intro a F)
    refine rl_nil <| q_tn <| wp_ret <| q_tr <| fin2 F rfl rfl rfl ?_
    exact ⟨(M.weaken (.cons _ (List.Sublist.refl _))), by rw [if_neg (by omega)]; rfl⟩
  · intro hc
    have h3b := hc; clear hc
    have h3 : chkF x = 0 := of_decide_eq_true (of_not_f h3b)
    have h3c : (decide (chkF x = 0)) = true := (of_not_f h3b)
    refine wp_skip <| q_tn <| wp_seq <| w_reg <| rl_alloc F M tok113 rfl rfl ?_; clear F M a; intro b4 w a M F
    refine rl_nil <| q_tn <| wp_seq ?_
    change Mem w0 G (.blk b4 [.pointer none, .slice none (0) (0)] 113 :: .blk b1 [.int .u8 (x.kind), .string (str (x.tag)), .string (str (x.key)), .slice (ta) (x.as.length) (tc), .string (str (x.text)), .slice (ka) (x.kids.length) (kc)] 30 :: L) _ at M
    have M := (M.nilrow 5 1).perm (List.Perm.swap _ _ _)
    rw [show ([] : List Value) = bc [] from rfl] at M
    refine w_reg <| rl_run F (run_loadA tok30 rfl (F.ev rfl) (cs := [.int .u8 (x.kind), .string (str (x.tag)), .string (str (x.key)), .slice (ta) (x.as.length) (tc), .string (str (x.text)), .slice (ka) (x.kids.length) (kc)]) rfl (M.cellsL (k := 2) rfl rfl)) rfl ?_; clear F a; intro a F
    replace M := M.perm (perm_front _ 1 _ rfl)
    replace M := M.perm (perm_front _ 1 _ rfl)
    change Mem w0 G (.blk b4 [.pointer none, .slice none (0) (0)] 113 :: .row (.slice none (0) (0)) (0) (bc []) 5 1 :: .blk b1 [.int .u8 (x.kind), .string (str (x.tag)), .string (str (x.key)), .slice (ta) (x.as.length) (tc), .string (str (x.text)), .slice (ka) (x.kids.length) (kc)] 30 :: L) _ at M
    refine rl_callL F ent77 rfl rfl (write_all x d _ _ _ _ _ _ _ _ _ _ _ _ _ _ hok (Or.inl rfl) M rfl (fun _ => rfl) hk hl SA SK (by simpa using hT)) ?_; clear F M a; rintro _ _ w a M ⟨rfl, au6, nu6, cu6, rfl, hnu6, hnilu6⟩ F
    refine rl_nil <| q_tn <| wp_seq <| w_reg ?_
    replace M := M.perm (perm_front _ 1 _ rfl)
    replace M := M.perm (perm_front _ 1 _ rfl)
    change Mem w0 G (.blk b4 [.pointer (some ⟨b4, 0, none⟩), .slice (au6) (nu6) (cu6)] 113 :: .row (.slice (au6) (nu6) (cu6)) (nu6) (bc (([] : List UInt8) ++ textN x)) 5 1 :: .blk b1 [.int .u8 (x.kind), .string (str (x.tag)), .string (str (x.key)), .slice (ta) (x.as.length) (tc), .string (str (x.text)), .slice (ka) (x.kids.length) (kc)] 30 :: L) _ at M
    refine rl_callS F ent78 rfl rfl (bstr_spec M hnu6 hnilu6) ?_; clear F M a; rintro _ w a M rfl F
    iterate 2 (refine rl_run F (run_assign (F.ev rfl)) rfl ?_; clear F a; intro a F)
    refine rl_nil <| q_tn <| wp_ret <| fin2 F rfl rfl rfl ?_
    have hz : chkF x = 0 := by omega
    exact ⟨(M.weaken (.cons _ (List.Sublist.refl _))), by rw [if_pos hz, hz]; rfl⟩
end Go.Proofs.YtlnehkjmmegkhaaGreat
