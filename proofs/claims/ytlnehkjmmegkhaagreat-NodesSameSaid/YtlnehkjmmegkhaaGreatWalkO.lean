/- The walks, part O. -/
import Derived.Test.YtlnehkjmmegkhaaGreatWalkN
import Derived.Test.YtlnehkjmmegkhaaGreatRpl
import Derived.Test.YtlnehkjmmegkhaaGreatTab2
namespace Go.Proofs.YtlnehkjmmegkhaaGreat
open Go Go.Y Go.Proofs
set_option linter.unusedSimpArgs false
set_option linter.unusedVariables false
def repS : List (List UInt8) := [[92], [92, 92], [34], [92, 34]]
theorem repE {G : Ghost} : Els rdStr 1 G [.string (str ([92] : List UInt8)), .string (str ([92, 92] : List UInt8)), .string (str ([34] : List UInt8)), .string (str ([92, 34] : List UInt8))] repS :=
 Els.cons (c := [_]) ⟨rfl, by decide⟩ rfl (Els.cons (c := [_]) ⟨rfl, by decide⟩ rfl (Els.cons (c := [_]) ⟨rfl, by decide⟩ rfl (Els.one ⟨rfl, by decide⟩ rfl)))
theorem newrep_spec {w0 w : World} {G : Ghost} {L : List Res} {ra : Option Addr} {rc : Nat} (M : Mem w0 G (.row (.slice (ra) (4) (rc)) (4) ([.string (str ([92] : List UInt8)), .string (str ([92, 92] : List UInt8)), .string (str ([34] : List UInt8)), .string (str ([92, 34] : List UInt8))]) 9 1 :: L) w) : Calls Tryz.prog 117 #[.slice (ra) (4) (rc)] w
  (RetL w0 G fun L' v => ∃ b a c, v = .pointer (some ⟨b, 0, none⟩) ∧ L' = .blk b [.int .u32 (0), .int .i32 (0), .int .u32 (0), .nilIface, .slice (a) (4) (c)] 177 :: .row (.slice (a) (4) (c)) (4) ([.string (str ([92] : List UInt8)), .string (str ([92, 92] : List UInt8)), .string (str ([34] : List UInt8)), .string (str ([92, 34] : List UInt8))]) 9 1 :: L) := by
 refine calls_start (vs := [_]) Tryz.func117 rfl (n := 12) rfl rfl ?_
 intro a F
 refine wp_seq <| w_reg <| rl_run F (run_assign (F.ev rfl)) rfl ?_; clear F a; intro a F
 refine rl_nil <| q_tn ?_
 iterate 2 (refine wp_seq ?_)
 refine w_reg <| rl_run F (run_move (F.ev rfl)) rfl ?_; clear F a; intro a F
 refine rl_run F (run_lenSl tok49.k (F.ev rfl)) rfl ?_; clear F a; intro a F
 refine rl_run F (run_remi (F.ev rfl) (F.ev rfl) (by omega) (by omega)) rfl ?_; clear F a; intro a F
 refine rl_run F (run_eqi (F.ev rfl) (F.ev rfl)) rfl ?_; clear F a; intro a F
 refine rl_nil <| q_tn <| w_cond_f F rfl (decide_eq_false (by decide)) ?_
 refine wp_skip <| q_tn <| wp_seq <| w_reg <| rl_run F (run_move (F.ev rfl)) rfl ?_; clear F a; intro a F
 have M := M.nilrow 9 1
 refine rl_append_row F M (k := 0) (k2 := 1) rfl rfl tok49.k tok9 rfl rfl (by decide) rfl rfl (by show _ * 16 ≤ _; (try simp only [List.length_drop, List.length_take, List.length_append, List.length_cons, List.length_nil]); omega) (by (try simp only [List.length_drop, List.length_take, List.length_append, List.length_cons, List.length_nil]); omega) rfl ?_; clear F M a; intro v1 w a M F
 obtain ⟨av1, cv1, rfl, hlev1, hcmv1, hlv1⟩ := M.row_shape (k := 0) rfl
 refine rl_run F (run_buildS (cs := [.int .u32 (0), .int .i32 (0), .int .u32 (0), .nilIface, .slice (av1) (0 + 4) (cv1)]) (ps := [(2, .slice (av1) (0 + 4) (cv1))]) tok177.k rfl tok177 (F.evp rfl) rfl) rfl ?_; clear F a; intro a F
 refine rl_box F M rfl (cs := [.int .u32 (0), .int .i32 (0), .int .u32 (0), .nilIface, .slice (av1) (0 + 4) (cv1)]) rfl rfl ?_; clear F M a; intro b2 w a M F
 refine rl_run F (run_assign (F.ev rfl)) rfl ?_; clear F a; intro a F
 refine rl_nil <| q_tn <| wp_ret <| fin1 F rfl rfl ?_
 replace M := M.perm (perm_front _ 1 _ rfl)
 replace M := M.perm (perm_front _ 1 _ rfl)
 change Mem w0 G (_ :: _ :: _ :: L) _ at M
 exact ⟨_, M.weaken (.cons_cons _ (.cons_cons _ (.cons _ (List.Sublist.refl _)))), _, _, _, rfl, rfl⟩
theorem tab0_len (v : Value) : (tab0 v).length = 257 := (tab0_is v).len
theorem tab0_mem {u v : Value} (h : u ∈ tab0 v) : u = .slice none 0 0 ∨ u = v := by
 unfold tab0 at h; rcases List.mem_append.1 h with h | h
 ·exact Or.inl (List.eq_of_mem_replicate h)
 ·exact Or.inr (List.mem_singleton.1 h)
theorem tab0_last (v : Value) : (tab0 v)[256]? = some v := by
 unfold tab0; rw [List.getElem?_append_right (by rw [List.length_replicate]; exact Nat.le_refl _), List.length_replicate]; rfl
theorem over_app : ∀ (us pre cs : List Value), cs.length = us.length → over (pre ++ cs) pre.length us = pre ++ us
 | [], pre, cs, h => by rw [List.eq_nil_of_length_eq_zero h]; simp [over]
 | u :: us, pre, [], h => by simp at h
 | u :: us, pre, c :: cs, h => by
  have h1 : (pre ++ c :: cs).set pre.length u = (pre ++ [u]) ++ cs := by simp
  have h2 := over_app us (pre ++ [u]) cs (by simpa using h)
  rw [over, h1]
  simpa using h2
theorem over_all {cs us : List Value} (h : cs.length = us.length) : over cs 0 us = us := over_app us [] cs h
theorem tab0_zero : ti195.zero.cells = (tab0 (.slice none 0 0)).toArray := by kernel_rfl
theorem tab0_fill {a : Option Addr} {n c : Nat} : Instr.fill (fun j => ([(0, 256), (256, 1)] : List (Nat × Nat))[j]?) ti195.zero.cells [(1, .slice a n c)] = some (tab0 (.slice a n c)).toArray := by kernel_rfl
/-- A short string without quotation mark and without backslash. -/
def ShortQ (s : List UInt8) : Prop := s.length < 16 ∧ ∀ c ∈ s, c.toNat ≠ 34 ∧ c.toNat ≠ 92
theorem ShortQ.at {s : List UInt8} (h : ShortQ s) {i : Nat} {c : UInt8} (hi : s[i]? = some c) : c.toNat ∉ ([92, 34] : List Nat) := by
 have := h.2 c (List.mem_of_getElem? hi)
 simp only [List.mem_cons, List.not_mem_nil, or_false, not_or]; exact ⟨this.2, this.1⟩
theorem meth_rep {x : Value} {w : World} : (Go.method (Tryz.prog.types.size + Made.depth) 196 x "Replace").run Tryz.prog w = .ok (188, x) w := by kernel_rfl
/-- A string between quotation marks, as it is written. -/
def escF : List UInt8 → List UInt8
 | [] => []
 | c :: l => (if c = 92 then [92, 92] else if c = 34 then [92, 34] else [c]) ++ escF l
def quoteF (s : List UInt8) : List UInt8 := [34] ++ escF s ++ [34]
theorem escF_plain : ∀ {s : List UInt8}, (∀ c ∈ s, c.toNat ≠ 34 ∧ c.toNat ≠ 92) → escF s = s
 | [], _ => rfl
 | c :: l, h => by
  have h1 := h c (by simp)
  have h2 : ¬ c = 92 := by rintro rfl; exact h1.2 rfl
  have h3 : ¬ c = 34 := by rintro rfl; exact h1.1 rfl
  rw [escF, if_neg h2, if_neg h3, escF_plain (fun c hc => h c (by simp [hc]))]; rfl
end Go.Proofs.YtlnehkjmmegkhaaGreat
