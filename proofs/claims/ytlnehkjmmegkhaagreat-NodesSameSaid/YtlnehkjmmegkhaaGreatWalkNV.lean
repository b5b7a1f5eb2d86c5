/- The walks, part NV. -/
import Derived.Test.YtlnehkjmmegkhaaGreatWalkNU
namespace Go.Proofs.YtlnehkjmmegkhaaGreat
open Go Go.Y Go.Proofs
set_option linter.unusedSimpArgs false
set_option linter.unusedVariables false
section
variable {P : Program} {w0 w : World} {G : Ghost} {L : List Res}
theorem calls_startD {R : Ending → World → Prop} {f : FuncId} {fn : Func} {c : Code} {vs : List Value} (hf : P.funcs[f]? = some fn) (hb : fn.body = some c) {n : Nat} (hn : fn.ntmps = n) (hs : Nat.ble vs.length n = true)
  (h : ∀ a, Fits n a (envOf 0 vs) → c.wp P (bodyPostD P fn R) a w) : Calls P f vs.toArray w R := by
 have hs' := Nat.le_of_ble_eq_true hs
 refine calls_of_wp_defers hf hb (h _ ⟨by simp [hn]; omega, rfl, ?_⟩)
 intro i v hi
 obtain ⟨_, h2⟩ := look_envOf vs 0 i v hi
 have hlt : i < vs.length := by
  rcases Nat.lt_or_ge i vs.length with h' | h'
  ·exact h'
  ·simp [List.getElem?_eq_none h'] at h2
 simp only [Nat.sub_zero] at h2
 rw [Array.getElem?_append_left (by simpa using hlt)]
 simpa using h2
theorem run_deferF {n : Nat} {a : Act} {e : Env} {t : TypeId} {p : String} {af : Array Edge} {x : Operand} {f : FuncId} {caps : Array Value} (F : Fits n a e) (hx : ev e x = some (.func (.func f) #[] caps)) :
  (execOp a.eval ⟨none, .defer ⟨.value x, #[], #[]⟩, t, p, af, none⟩).run P w = .ok (.defer { target := .fn (.func f) caps, args := #[] }) w := by
 simp [execOp, resolve, F.ev hx, Deferred.ofValue]
def Res3 (fn : Func) (e : Env) (y1 y2 y3 b1 b2 b3 : Nat) : Prop := ∃ t1 t2 t3, fn.results = #[.cell t1 y1, .cell t2 y2, .cell t3 y3] ∧ Go.Y.look e t1 = some (.pointer (some ⟨b1, 0, none⟩)) ∧ Go.Y.look e t2 = some (.pointer (some ⟨b2, 0, none⟩)) ∧ Go.Y.look e t3 = some (.pointer (some ⟨b3, 0, none⟩))
theorem results3 {fn : Func} {n : Nat} {a : Act} {e : Env} (F : Fits n a e) {y1 y2 y3 b1 b2 b3 : Nat} {i : TI} {cs : List Value} {x y : Value} (M : Mem w0 G (.blk b1 cs y1 :: .blk b2 [x] y2 :: .blk b3 [y] y3 :: L) w)
  (h : Res3 fn e y1 y2 y3 b1 b2 b3) (hty : TOK P y1 i) (hag : i.k.agg = some true) (hl : cs.length = i.size) (h2 : (tk P y2).agg = some false) (h3 : (tk P y3).agg = some false) : (results fn a.tmps).run P w = .ok (.tuple #[.agg cs.toArray, x, y]) w := by
 obtain ⟨t1, t2, t3, hf, v1, v2, v3⟩ := h
 have l1 : (loadVar y1 ⟨b1, 0, none⟩).run P w = .ok (.agg cs.toArray) w := run_loadVarA hty hag hl (M.cellsL (k := 0) rfl (by rw [List.drop_zero, ← hl, List.take_length]))
 have l2 : (loadVar y2 ⟨b2, 0, none⟩).run P w = .ok x w := run_loadVar1 h2 (M.cellL (k := 1) rfl rfl)
 have l3 : (loadVar y3 ⟨b3, 0, none⟩).run P w = .ok y w := run_loadVar1 h3 (M.cellL (k := 2) rfl rfl)
 simp [results, hf, F.slot _ _ v1, F.slot _ _ v2, F.slot _ _ v3, asAddr, l1, l2, l3]
end
def D1 (b2 b3 b4 : Nat) : Deferred := { target := .fn (.func 80) #[.pointer (some ⟨b2, 0, none⟩), .pointer (some ⟨b3, 0, none⟩), .pointer (some ⟨b4, 0, none⟩)], args := #[] }
theorem parse_leave {n : Nat} {a : Act} {e : Env} {fn : Func} {b2 b3 b4 : Nat} {u : FrameMode} {w : World} {R : Ending → World → Prop} (F : Fits n a e) (hu : u ≠ .run)
  (h : CallsD Tryz.prog 80 #[.pointer (some ⟨b2, 0, none⟩), .pointer (some ⟨b3, 0, none⟩), .pointer (some ⟨b4, 0, none⟩)] u w (fun e u' w' => e = .returned (.tuple #[]) ∧ settle u' = .returning ∧ ∃ v, (results fn a.tmps).run Tryz.prog w' = .ok v w' ∧ R (.returned v) w')) :
  Leaves Tryz.prog fn (addD [D1 b2 b3 b4] a).tmps R (addD [D1 b2 b3 b4] a).defers u w := by
 have hd : (addD [D1 b2 b3 b4] a).defers = [D1 b2 b3 b4] := by unfold addD; simp [F.defers]
 rw [hd]
 refine leaves_cons hu (f := 80) (args := #[.pointer (some ⟨b2, 0, none⟩), .pointer (some ⟨b3, 0, none⟩), .pointer (some ⟨b4, 0, none⟩)]) (run_enter ent80) (h.mono ?_)
 rintro e u' w' ⟨rfl, hs, v, h1, h2⟩
 show Leaves _ _ _ _ [] (settle u') w'
 rw [hs]; exact ⟨v, h1, h2⟩
theorem parse_out {n : Nat} {a : Act} {e : Env} {fn : Func} {w0 w : World} {G : Ghost} {L : List Res} {b2 b3 b4 : Nat} {R : Ending → World → Prop} {cs : List Value} {x y : Value} (F : Fits n a e) (h : Res3 fn e 30 3 32 b2 b3 b4) (hl : cs.length = 6)
  (M : Mem w0 G (.blk b2 cs 30 :: .blk b3 [x] 3 :: .blk b4 [y] 32 :: L) w) (k : ∀ w, Mem w0 G L w → R (.returned (.tuple #[.agg cs.toArray, x, y])) w) : bodyPostD Tryz.prog fn R .ret (addD [D1 b2 b3 b4] a) w := by
 refine parse_leave F (by simp) ((parse1_ret M).mono ?_)
 rintro e u' w' ⟨rfl, rfl, M'⟩
 exact ⟨rfl, rfl, _, results3 F M' h tok30 rfl hl (agf tok3 rfl) (agf tok32 rfl), k _ (M'.weaken (.cons _ (.cons _ (.cons _ (List.Sublist.refl _)))))⟩
theorem parse_pan {n : Nat} {a : Act} {ev : Env} {fn : Func} {w0 w : World} {G : Ghost} {L : List Res} {b2 b3 b4 : Nat} {R : Ending → World → Prop} {v0 v1 v2 v3 v4 v5 x y : Value} {e : Nat × Int} (F : Fits n a ev) (h : Res3 fn ev 30 3 32 b2 b3 b4)
  (M : Mem w0 G (.blk b2 [v0, v1, v2, v3, v4, v5] 30 :: .blk b3 [x] 3 :: .blk b4 [y] 32 :: L) w) (k : ∀ w, Mem w0 G L w → R (.returned (.tuple #[.agg #[.int .u8 0, .string (str []), .string (str []), .slice none 0 0, .string (str []), .slice none 0 0], .int .i64 (e.1 : Int), .int .i64 e.2])) w) : bodyPostD Tryz.prog fn R (.panic (wrongV e)) (addD [D1 b2 b3 b4] a) w := by
 refine parse_leave F (by simp) ((parse1_pan (i := e.1) (er := e.2) M).mono ?_)
 rintro e' u' w' ⟨rfl, rfl, M'⟩
 exact ⟨rfl, rfl, _, results3 F M' h tok30 rfl rfl (agf tok3 rfl) (agf tok32 rfl), k _ (M'.weaken (.cons _ (.cons _ (.cons _ (List.Sublist.refl _)))))⟩
theorem parse_early {n : Nat} {a : Act} {e : Env} {fn : Func} {w0 w : World} {G : Ghost} {L : List Res} {b2 b3 b4 : Nat} {R : Ending → World → Prop} {cs : List Value} {x y : Value} (F : Fits n a e) (h : Res3 fn e 30 3 32 b2 b3 b4) (hl : cs.length = 6)
  (M : Mem w0 G (.blk b2 cs 30 :: .blk b3 [x] 3 :: .blk b4 [y] 32 :: L) w) (k : ∀ w, Mem w0 G L w → R (.returned (.tuple #[.agg cs.toArray, x, y])) w) : bodyPostD Tryz.prog fn R .ret a w := by
 show Leaves _ _ _ _ a.defers .returning w
 rw [F.defers]
 exact ⟨_, results3 F M h tok30 rfl hl (agf tok3 rfl) (agf tok32 rfl), k _ (M.weaken (.cons _ (.cons _ (.cons _ (List.Sublist.refl _)))))⟩
/-- What Parse returns: the tree, the offset and the error. -/
noncomputable def parR (s : List UInt8) : NT × Nat × Int :=
 if 1048576 < s.length then (zeroN, 0, 3) else match nodeF s 6 0 0 with
  | .error e => (zeroN, e.1, e.2)
  | .ok (x, i, _) => if i < s.length then (zeroN, i, 5) else if chkF x = 0 then (copF true x, 0, 0) else (zeroN, 0, chkF x)
theorem parR_long {s : List UInt8} (h : 1048576 < s.length) : parR s = (zeroN, 0, 3) := by unfold parR; rw [if_pos h]
theorem parR_err {s : List UInt8} {e : Nat × Int} (h : ¬ 1048576 < s.length) (h2 : nodeF s 6 0 0 = .error e) : parR s = (zeroN, e.1, e.2) := by unfold parR; rw [if_neg h, h2]
theorem parR_rest {s : List UInt8} {x : NT} {i nd : Nat} (h : ¬ 1048576 < s.length) (h2 : nodeF s 6 0 0 = .ok (x, i, nd)) (h3 : i < s.length) : parR s = (zeroN, i, 5) := by unfold parR; rw [if_neg h, h2]; simp only; rw [if_pos h3]
theorem parR_bad {s : List UInt8} {x : NT} {i nd : Nat} (h : ¬ 1048576 < s.length) (h2 : nodeF s 6 0 0 = .ok (x, i, nd)) (h3 : ¬ i < s.length) (h4 : ¬ chkF x = 0) : parR s = (zeroN, 0, chkF x) := by unfold parR; rw [if_neg h, h2]; simp only; rw [if_neg h3, if_neg h4]
theorem parR_ok {s : List UInt8} {x : NT} {i nd : Nat} (h : ¬ 1048576 < s.length) (h2 : nodeF s 6 0 0 = .ok (x, i, nd)) (h3 : ¬ i < s.length) (h4 : chkF x = 0) : parR s = (copF true x, 0, 0) := by unfold parR; rw [if_neg h, h2]; simp only; rw [if_neg h3, if_pos h4]
theorem zeroN_k : inKind .u8 zeroN.kind := ⟨by decide, by decide⟩
theorem zeroN_l : (zeroN.tag.length ≤ 9223372036854775807 ∧ zeroN.key.length ≤ 9223372036854775807 ∧ zeroN.text.length ≤ 9223372036854775807) := ⟨by decide, by decide, by decide⟩
set_option maxHeartbeats 1000000 in
theorem parse_spec {w0 w : World} {G : Ghost} {L : List Res} (M : Mem w0 G L w) {s : List UInt8} : Calls Tryz.prog 40 #[.string (str s)] w (Ret w0 G L fun G' v => ∃ a1 a2, v = .tuple #[.agg #[.int .u8 (parR s).1.kind, .string (str (parR s).1.tag), .string (str (parR s).1.key), .slice a1 (parR s).1.as.length (parR s).1.as.length, .string (str (parR s).1.text), .slice a2 (parR s).1.kids.length (parR s).1.kids.length], .int .i64 (((parR s).2.1 : Nat) : Int), .int .i64 (parR s).2.2] ∧ inKind .u8 (parR s).1.kind ∧ ((parR s).1.tag.length ≤ 9223372036854775807 ∧ (parR s).1.key.length ≤ 9223372036854775807 ∧ (parR s).1.text.length ≤ 9223372036854775807) ∧ RdSl rdAttr 2 G' (.slice a1 (parR s).1.as.length (parR s).1.as.length) (parR s).1.as ∧ RdSl rdNE 6 G' (.slice a2 (parR s).1.kids.length (parR s).1.kids.length) (parR s).1.kids) := by
 refine calls_startD (vs := [_]) Tryz.func40 rfl (n := 34) rfl rfl ?_
 intro a F
 refine wp_seq <| w_reg <| rl_alloc F M tok30 rfl rfl ?_; clear F M a; intro b1 w a M F
 refine rl_alloc F M tok3 rfl rfl ?_; clear F M a; intro b3 w a M F
 refine rl_alloc F M tok32 rfl rfl ?_; clear F M a; intro b5 w a M F
 refine rl_nil <| q_tn ?_
 iterate 2 (refine wp_seq ?_)
 refine w_reg <| rl_run F (run_move (F.ev rfl)) rfl ?_; clear F a; intro a F
 refine rl_run F (run_lenStr tok9.k (F.ev rfl)) rfl ?_; clear F a; intro a F
 refine rl_run F (run_gtr (F.ev rfl) (F.ev rfl)) rfl ?_; clear F a; intro a F
 refine rl_nil <| q_tn <| w_cond F rfl ?_ ?_
 ·intro hc
  have h7b := hc; clear hc
  have h7 : 1048576 < (((s).length : Nat) : Int) := of_decide_eq_true h7b
  refine wp_seq <| w_reg <| rl_run F (run_buildS (cs := [.int .u8 (0), .string (str ([] : List UInt8)), .string (str ([] : List UInt8)), .slice none (0) (0), .string (str ([] : List UInt8)), .slice none (0) (0)]) (ps := []) tok30.k rfl tok30 (F.evp rfl) rfl) rfl ?_; clear F a; intro a F
  refine rl_storeA F M tok30 (k := 2) rfl rfl rfl (us := [.int .u8 (0), .string (str ([] : List UInt8)), .string (str ([] : List UInt8)), .slice none (0) (0), .string (str ([] : List UInt8)), .slice none (0) (0)]) rfl rfl (by simp [Value.oneCell']) (by simp) ?_; clear F M a; intro w a M F
  change Mem w0 G (_ :: _ :: .blk b1 [.int .u8 (0), .string (str ([] : List UInt8)), .string (str ([] : List UInt8)), .slice none (0) (0), .string (str ([] : List UInt8)), .slice none (0) (0)] 30 :: L) _ at M
  refine rl_store1 F M tok3 rfl (k := 1) rfl rfl rfl rfl rfl ?_; clear F M a; intro w a M F
  refine rl_store1 F M tok32 rfl (k := 0) rfl rfl rfl rfl rfl ?_; clear F M a; intro w a M F
  refine rl_nil <| q_tn <| wp_ret <| q_tr ?_
  replace M := M.perm (perm_front _ 1 _ rfl)
  replace M := M.perm (perm_front _ 2 _ rfl)
  change Mem w0 G (.blk b1 [.int .u8 (0), .string (str ([] : List UInt8)), .string (str ([] : List UInt8)), .slice none (0) (0), .string (str ([] : List UInt8)), .slice none (0) (0)] 30 :: .blk b3 [.int .i64 (0)] 3 :: .blk b5 [.int .i64 (3)] 32 :: L) _ at M
  exact parse_early (R := (Ret w0 G L fun G' v => ∃ a1 a2, v = .tuple #[.agg #[.int .u8 (parR s).1.kind, .string (str (parR s).1.tag), .string (str (parR s).1.key), .slice a1 (parR s).1.as.length (parR s).1.as.length, .string (str (parR s).1.text), .slice a2 (parR s).1.kids.length (parR s).1.kids.length], .int .i64 (((parR s).2.1 : Nat) : Int), .int .i64 (parR s).2.2] ∧ inKind .u8 (parR s).1.kind ∧ ((parR s).1.tag.length ≤ 9223372036854775807 ∧ (parR s).1.key.length ≤ 9223372036854775807 ∧ (parR s).1.text.length ≤ 9223372036854775807) ∧ RdSl rdAttr 2 G' (.slice a1 (parR s).1.as.length (parR s).1.as.length) (parR s).1.as ∧ RdSl rdNE 6 G' (.slice a2 (parR s).1.kids.length (parR s).1.kids.length) (parR s).1.kids)) F ⟨2, 3, 4, rfl, rfl, rfl, rfl⟩ rfl M (fun w_ M_ => by rw [parR_long (by omega)]; exact ⟨_, (Gle.refl _), M_.weaken (List.Sublist.refl _), none, none, rfl, zeroN_k, zeroN_l, RdSl.nil, RdSl.nil⟩)
 ·intro hc
  have h8b := hc; clear hc
  have h8 : ¬ (1048576 < (((s).length : Nat) : Int)) := of_decide_eq_false h8b
  refine wp_skip <| q_tn <| wp_seq ?_
  have hlim : ¬ 1048576 < s.length := by omega
  refine w_reg <| rl_run F (run_makeFunc (vs := #[.pointer (some ⟨b1, 0, none⟩), .pointer (some ⟨b3, 0, none⟩), .pointer (some ⟨b5, 0, none⟩)]) (by simp only [List.map_toArray, List.map_cons, List.map_nil, F.ev (x := .tmp 2) rfl, F.ev (x := .tmp 3) rfl, F.ev (x := .tmp 4) rfl])) rfl ?_; clear F a; intro a F
  refine rl_defer (d := D1 b1 b3 b5) F (run_deferF F rfl) ?_
  refine rl_addD _ _ _ ?_
  refine rl_nil <| q_tn <| wp_seq <| w_regD <| rl_run F (run_move (F.ev rfl)) rfl ?_; clear F a; intro a F
  refine rl_run F (run_buildS (cs := [.string (str (s)), .int .i64 (0), .int .i64 (0)]) (ps := [(0, .string (str (s)))]) tok122.k rfl tok122 (F.evp rfl) rfl) rfl ?_; clear F a; intro a F
  refine rl_box F M rfl (cs := [.string (str (s)), .int .i64 (0), .int .i64 (0)]) rfl rfl ?_; clear F M a; intro b9 w a M F
  refine rl_run F (run_assign (F.ev rfl)) rfl ?_; clear F a; intro a F
  refine rl_nil <| q_tn <| wp_seq <| w_regD <| rl_run F (run_move (F.ev rfl)) rfl ?_; clear F a; intro a F
  replace M := M.perm (perm_front _ 1 _ rfl)
  replace M := M.perm (perm_front _ 2 _ rfl)
  replace M := M.perm (perm_front _ 3 _ rfl)
  replace M := M.perm (perm_front _ 3 _ rfl)
  change Mem w0 G (_ :: _ :: _ :: _ :: L) _ at M
  refine rl_callRd (G := G) (L := .blk b1 [.int .u8 (0), .string (str ([] : List UInt8)), .string (str ([] : List UInt8)), .slice none (0) (0), .string (str ([] : List UInt8)), .slice none (0) (0)] 30 :: .blk b3 [.int .i64 (0)] 3 :: .blk b5 [.int .i64 (0)] 32 :: L) (rb := b9) (s := s) F ent81 (run_callF F ent81 rfl rfl) rfl (rnode_all 6 _ _ _ _ _ 0 0 1 _ (by decide) (Nat.zero_le _) (by omega) (by decide) M) (fun e_ w_ G_ i_ nd_ hg_ M_ h_ => parse_pan (R := (Ret w0 G L fun G' v => ∃ a1 a2, v = .tuple #[.agg #[.int .u8 (parR s).1.kind, .string (str (parR s).1.tag), .string (str (parR s).1.key), .slice a1 (parR s).1.as.length (parR s).1.as.length, .string (str (parR s).1.text), .slice a2 (parR s).1.kids.length (parR s).1.kids.length], .int .i64 (((parR s).2.1 : Nat) : Int), .int .i64 (parR s).2.2] ∧ inKind .u8 (parR s).1.kind ∧ ((parR s).1.tag.length ≤ 9223372036854775807 ∧ (parR s).1.key.length ≤ 9223372036854775807 ∧ (parR s).1.text.length ≤ 9223372036854775807) ∧ RdSl rdAttr 2 G' (.slice a1 (parR s).1.as.length (parR s).1.as.length) (parR s).1.as ∧ RdSl rdNE 6 G' (.slice a2 (parR s).1.kids.length (parR s).1.kids.length) (parR s).1.kids)) (fn := Tryz.f40) F ⟨2, 3, 4, rfl, rfl, rfl, rfl⟩ (M_.weaken (.cons _ (List.Sublist.refl _))) (fun w_ M_ => by rw [parR_err hlim h_]; exact ⟨_, hg_, M_, none, none, rfl, zeroN_k, zeroN_l, RdSl.nil, RdSl.nil⟩)) ?_; clear F M a; rintro v_ Gk10 ik10 ndk10 w a hGk10 M ⟨xk10, tak10, tck10, kak10, kck10, hNk10, rfl, hkk10, hlk10, SAk10, SKk10, hik10, hjk10, hdk10⟩ F
  change Mem w0 Gk10 (.blk b9 [.string (str (s)), .int .i64 (((ik10 : Nat) : Int)), .int .i64 (((ndk10 : Nat) : Int))] 122 :: .blk b1 [.int .u8 (0), .string (str ([] : List UInt8)), .string (str ([] : List UInt8)), .slice none (0) (0), .string (str ([] : List UInt8)), .slice none (0) (0)] 30 :: .blk b3 [.int .i64 (0)] 3 :: .blk b5 [.int .i64 (0)] 32 :: L) _ at M
  refine rl_storeA F M tok30 (k := 1) rfl rfl rfl (us := [.int .u8 (xk10.kind), .string (str (xk10.tag)), .string (str (xk10.key)), .slice (tak10) (xk10.as.length) (tck10), .string (str (xk10.text)), .slice (kak10) (xk10.kids.length) (kck10)]) rfl rfl (by simp [Value.oneCell']) (by simp) ?_; clear F M a; intro w a M F
  change Mem w0 Gk10 (_ :: .blk b1 [.int .u8 (xk10.kind), .string (str (xk10.tag)), .string (str (xk10.key)), .slice (tak10) (xk10.as.length) (tck10), .string (str (xk10.text)), .slice (kak10) (xk10.kids.length) (kck10)] 30 :: _ :: _ :: L) _ at M
  refine rl_nil <| q_tn ?_
  iterate 2 (refine wp_seq ?_)
  refine w_regD <| rl_run F (run_move (F.ev rfl)) rfl ?_; clear F a; intro a F
  refine rl_run F (run_nilCheck (F.ev rfl)) rfl ?_; clear F a; intro a F
  refine rl_run F (run_fieldAddr tok122.k rfl rfl (F.ev rfl)) rfl ?_; clear F a; intro a F
  refine rl_run F (run_load1 (agf tok3 rfl) (F.ev rfl) (M.cellL (k := 0) rfl rfl)) rfl ?_; clear F a; intro a F
  refine rl_run F (run_move (F.ev rfl)) rfl ?_; clear F a; intro a F
  refine rl_run F (run_lenStr tok9.k (F.ev rfl)) rfl ?_; clear F a; intro a F
  refine rl_run F (run_lss (F.ev rfl) (F.ev rfl)) rfl ?_; clear F a; intro a F
  refine rl_nil <| q_tn <| w_condD F rfl ?_ ?_
  ·intro hc
   have h11b := hc; clear hc
   have h11 : ((ik10 : Nat) : Int) < (((s).length : Nat) : Int) := of_decide_eq_true h11b
   refine w_regD <| rl_run F (run_move (F.ev rfl)) rfl ?_; clear F a; intro a F
   replace M := M.perm (perm_front _ 3 _ rfl)
   replace M := M.perm (perm_front _ 3 _ rfl)
   replace M := M.perm (perm_front _ 3 _ rfl)
   replace M := M.perm (perm_front _ 3 _ rfl)
   change Mem w0 Gk10 (_ :: .blk b1 [.int .u8 (xk10.kind), .string (str (xk10.tag)), .string (str (xk10.key)), .slice (tak10) (xk10.as.length) (tck10), .string (str (xk10.text)), .slice (kak10) (xk10.kids.length) (kck10)] 30 :: _ :: _ :: L) _ at M
   exact rl_callRd (G := Gk10) (L := .blk b1 [.int .u8 (xk10.kind), .string (str (xk10.tag)), .string (str (xk10.key)), .slice (tak10) (xk10.as.length) (tck10), .string (str (xk10.text)), .slice (kak10) (xk10.kids.length) (kck10)] 30 :: .blk b3 [.int .i64 (0)] 3 :: .blk b5 [.int .i64 (0)] 32 :: L) (rb := b9) (s := s) F ent82 (run_callF F ent82 rfl rfl) rfl (rfail_spec (er := 5) M) (fun e_ w_ G_ i_ nd_ hg_ M_ h_ => parse_pan (R := (Ret w0 G L fun G' v => ∃ a1 a2, v = .tuple #[.agg #[.int .u8 (parR s).1.kind, .string (str (parR s).1.tag), .string (str (parR s).1.key), .slice a1 (parR s).1.as.length (parR s).1.as.length, .string (str (parR s).1.text), .slice a2 (parR s).1.kids.length (parR s).1.kids.length], .int .i64 (((parR s).2.1 : Nat) : Int), .int .i64 (parR s).2.2] ∧ inKind .u8 (parR s).1.kind ∧ ((parR s).1.tag.length ≤ 9223372036854775807 ∧ (parR s).1.key.length ≤ 9223372036854775807 ∧ (parR s).1.text.length ≤ 9223372036854775807) ∧ RdSl rdAttr 2 G' (.slice a1 (parR s).1.as.length (parR s).1.as.length) (parR s).1.as ∧ RdSl rdNE 6 G' (.slice a2 (parR s).1.kids.length (parR s).1.kids.length) (parR s).1.kids)) (fn := Tryz.f40) F ⟨2, 3, 4, rfl, rfl, rfl, rfl⟩ (M_.weaken (.cons _ (List.Sublist.refl _))) (fun w_ M_ => by subst h_; rw [parR_rest hlim hNk10 (by omega)]; exact ⟨_, (hGk10.trans hg_), M_, none, none, rfl, zeroN_k, zeroN_l, RdSl.nil, RdSl.nil⟩)) (fun _ _ _ _ _ _ _ _ h_ _ => h_.elim)
  ·intro hc
   have h12b := hc; clear hc
   have h12 : ¬ (((ik10 : Nat) : Int) < (((s).length : Nat) : Int)) := of_decide_eq_false h12b
   refine wp_skip <| q_tn ?_
   iterate 2 (refine wp_seq ?_)
   refine w_regD <| rl_run F (run_loadA tok30 rfl (F.ev rfl) (cs := [.int .u8 (xk10.kind), .string (str (xk10.tag)), .string (str (xk10.key)), .slice (tak10) (xk10.as.length) (tck10), .string (str (xk10.text)), .slice (kak10) (xk10.kids.length) (kck10)]) rfl (M.cellsL (k := 1) rfl rfl)) rfl ?_; clear F a; intro a F
   refine rl_callS F ent30 rfl rfl (ncheck_spec (x := xk10) M hkk10 hlk10 SAk10 SKk10) ?_; clear F M a; rintro _ w a M rfl F
   refine rl_run F (run_assign (F.ev rfl)) rfl ?_; clear F a; intro a F
   refine rl_nil <| q_tn <| wp_seq <| w_regD <| rl_run F (run_move (F.ev rfl)) rfl ?_; clear F a; intro a F
   refine rl_run F (run_nei (F.ev rfl) (F.ev rfl)) rfl ?_; clear F a; intro a F
   refine rl_nil <| q_tn <| w_condD F rfl ?_ ?_
   ·intro hc
    have h13b := hc; clear hc
    have h13 : ¬ (chkF xk10 = 0) := of_decide_eq_false (of_not_t h13b)
    have h13c : (decide (chkF xk10 = 0)) = false := (of_not_t h13b)
    refine wp_seq <| w_regD <| rl_run F (run_buildS (cs := [.int .u8 (0), .string (str ([] : List UInt8)), .string (str ([] : List UInt8)), .slice none (0) (0), .string (str ([] : List UInt8)), .slice none (0) (0)]) (ps := []) tok30.k rfl tok30 (F.evp rfl) rfl) rfl ?_; clear F a; intro a F
    refine rl_run F (run_move (F.ev rfl)) rfl ?_; clear F a; intro a F
    refine rl_storeA F M tok30 (k := 1) rfl rfl rfl (us := [.int .u8 (0), .string (str ([] : List UInt8)), .string (str ([] : List UInt8)), .slice none (0) (0), .string (str ([] : List UInt8)), .slice none (0) (0)]) rfl rfl (by simp [Value.oneCell']) (by simp) ?_; clear F M a; intro w a M F
    change Mem w0 Gk10 (_ :: .blk b1 [.int .u8 (0), .string (str ([] : List UInt8)), .string (str ([] : List UInt8)), .slice none (0) (0), .string (str ([] : List UInt8)), .slice none (0) (0)] 30 :: _ :: _ :: L) _ at M
    refine rl_store1 F M tok3 rfl (k := 2) rfl rfl rfl rfl rfl ?_; clear F M a; intro w a M F
    refine rl_store1 F M tok32 rfl (k := 3) rfl rfl rfl rfl rfl ?_; clear F M a; intro w a M F
    refine rl_nil <| q_tn <| wp_ret <| q_tr ?_
    replace M := M.perm (perm_front _ 3 _ rfl)
    replace M := M.perm (perm_front _ 3 _ rfl)
    replace M := M.perm (perm_front _ 3 _ rfl)
    change Mem w0 Gk10 (.blk b1 [.int .u8 (0), .string (str ([] : List UInt8)), .string (str ([] : List UInt8)), .slice none (0) (0), .string (str ([] : List UInt8)), .slice none (0) (0)] 30 :: .blk b3 [.int .i64 (0)] 3 :: .blk b5 [.int .i64 (chkF xk10)] 32 :: _ :: L) _ at M
    exact parse_out (R := (Ret w0 G L fun G' v => ∃ a1 a2, v = .tuple #[.agg #[.int .u8 (parR s).1.kind, .string (str (parR s).1.tag), .string (str (parR s).1.key), .slice a1 (parR s).1.as.length (parR s).1.as.length, .string (str (parR s).1.text), .slice a2 (parR s).1.kids.length (parR s).1.kids.length], .int .i64 (((parR s).2.1 : Nat) : Int), .int .i64 (parR s).2.2] ∧ inKind .u8 (parR s).1.kind ∧ ((parR s).1.tag.length ≤ 9223372036854775807 ∧ (parR s).1.key.length ≤ 9223372036854775807 ∧ (parR s).1.text.length ≤ 9223372036854775807) ∧ RdSl rdAttr 2 G' (.slice a1 (parR s).1.as.length (parR s).1.as.length) (parR s).1.as ∧ RdSl rdNE 6 G' (.slice a2 (parR s).1.kids.length (parR s).1.kids.length) (parR s).1.kids)) F ⟨2, 3, 4, rfl, rfl, rfl, rfl⟩ rfl M (fun w_ M_ => by rw [parR_bad hlim hNk10 (by omega) (by omega)]; exact ⟨_, hGk10, M_.weaken (.cons _ (List.Sublist.refl _)), none, none, rfl, zeroN_k, zeroN_l, RdSl.nil, RdSl.nil⟩)
   ·intro hc
    have h14b := hc; clear hc
    have h14 : chkF xk10 = 0 := of_decide_eq_true (of_not_f h14b)
    have h14c : (decide (chkF xk10 = 0)) = true := (of_not_f h14b)
    refine wp_skip <| q_tn <| wp_seq <| w_regD <| rl_run F (run_loadA tok30 rfl (F.ev rfl) (cs := [.int .u8 (xk10.kind), .string (str (xk10.tag)), .string (str (xk10.key)), .slice (tak10) (xk10.as.length) (tck10), .string (str (xk10.text)), .slice (kak10) (xk10.kids.length) (kck10)]) rfl (M.cellsL (k := 1) rfl rfl)) rfl ?_; clear F a; intro a F
    refine rl_call F ent56 rfl rfl (copied_all xk10 _ _ _ _ _ _ _ _ _ M hkk10 hlk10 SAk10 SKk10 (valid_ok (chkF_zero.1 (by omega)))) ?_; clear F M a; rintro _ Gk15 w a hGk15 M ⟨tak15, kak15, rfl, SAk15, SKk15⟩ F
    replace SAk10 := SAk10.mono mono_rdAttr hGk15
    replace SKk10 := SKk10.mono mono_rdN hGk15
    have hkk15 : inKind .u8 (copF true xk10).kind := by rw [copF_kind]; exact hkk10
    have hlk15 := copF_len (keys := true) (x := xk10) hlk10
    refine rl_storeA F M tok30 (k := 1) rfl rfl rfl (us := [.int .u8 ((copF true xk10).kind), .string (str ((copF true xk10).tag)), .string (str ((copF true xk10).key)), .slice (tak15) ((copF true xk10).as.length) ((copF true xk10).as.length), .string (str ((copF true xk10).text)), .slice (kak15) ((copF true xk10).kids.length) ((copF true xk10).kids.length)]) rfl rfl (by simp [Value.oneCell']) (by simp) ?_; clear F M a; intro w a M F
    change Mem w0 Gk15 (_ :: .blk b1 [.int .u8 ((copF true xk10).kind), .string (str ((copF true xk10).tag)), .string (str ((copF true xk10).key)), .slice (tak15) ((copF true xk10).as.length) ((copF true xk10).as.length), .string (str ((copF true xk10).text)), .slice (kak15) ((copF true xk10).kids.length) ((copF true xk10).kids.length)] 30 :: _ :: _ :: L) _ at M
    refine rl_store1 F M tok3 rfl (k := 2) rfl rfl rfl rfl rfl ?_; clear F M a; intro w a M F
    refine rl_store1 F M tok32 rfl (k := 3) rfl rfl rfl rfl rfl ?_; clear F M a; intro w a M F
    refine rl_nil <| q_tn <| wp_ret ?_
    replace M := M.perm (perm_front _ 3 _ rfl)
    replace M := M.perm (perm_front _ 3 _ rfl)
    replace M := M.perm (perm_front _ 3 _ rfl)
    change Mem w0 Gk15 (.blk b1 [.int .u8 ((copF true xk10).kind), .string (str ((copF true xk10).tag)), .string (str ((copF true xk10).key)), .slice (tak15) ((copF true xk10).as.length) ((copF true xk10).as.length), .string (str ((copF true xk10).text)), .slice (kak15) ((copF true xk10).kids.length) ((copF true xk10).kids.length)] 30 :: .blk b3 [.int .i64 (0)] 3 :: .blk b5 [.int .i64 (0)] 32 :: _ :: L) _ at M
    exact parse_out (R := (Ret w0 G L fun G' v => ∃ a1 a2, v = .tuple #[.agg #[.int .u8 (parR s).1.kind, .string (str (parR s).1.tag), .string (str (parR s).1.key), .slice a1 (parR s).1.as.length (parR s).1.as.length, .string (str (parR s).1.text), .slice a2 (parR s).1.kids.length (parR s).1.kids.length], .int .i64 (((parR s).2.1 : Nat) : Int), .int .i64 (parR s).2.2] ∧ inKind .u8 (parR s).1.kind ∧ ((parR s).1.tag.length ≤ 9223372036854775807 ∧ (parR s).1.key.length ≤ 9223372036854775807 ∧ (parR s).1.text.length ≤ 9223372036854775807) ∧ RdSl rdAttr 2 G' (.slice a1 (parR s).1.as.length (parR s).1.as.length) (parR s).1.as ∧ RdSl rdNE 6 G' (.slice a2 (parR s).1.kids.length (parR s).1.kids.length) (parR s).1.kids)) F ⟨2, 3, 4, rfl, rfl, rfl, rfl⟩ rfl M (fun w_ M_ => by rw [parR_ok hlim hNk10 (by omega) (by omega)]; exact ⟨_, (hGk10.trans hGk15), M_.weaken (.cons _ (List.Sublist.refl _)), _, _, rfl, hkk15, hlk15, SAk15, SKk15⟩)
end Go.Proofs.YtlnehkjmmegkhaaGreat
