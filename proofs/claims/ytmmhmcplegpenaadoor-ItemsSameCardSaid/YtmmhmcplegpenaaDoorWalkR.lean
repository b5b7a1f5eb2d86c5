/- The walks, part R. -/
import Derived.Test.YtmmhmcplegpenaaDoorWalkK
import Derived.Test.YtmmhmcplegpenaaDoorRng
namespace Go.Proofs.YtmmhmcplegpenaaDoor
open Go Go.Y Go.Proofs
set_option linter.unusedSimpArgs false
set_option linter.unusedVariables false
theorem cut_lt9 {s : List UInt8} (h : ¬ s = []) : (Lib.cut s [10]).2.1.length < s.length := by
 have h0 := List.length_pos_iff.2 h
 rw [cut_ix]
 split
 ·simp only [List.length_drop]; omega
 ·simpa using h0
theorem lines1_spec {w0 : World} {Rc : LoopState → Option Code → Res} {DD : Res} {l sb : Nat} {J : List UInt8 → Ghost → List Res → Prop} {Jx : Code → Ghost → List Res → Prop}
  (hy : ∀ (c : List UInt8) (G : Ghost) (L : List Res) (W : World), Globs 0 1 2 3 G → ¬ c = [] → c.length ≤ 1048576 → J c G L → Mem w0 G (Rc .ready none :: DD :: .blk sb [.string (str c)] 9 :: L) W →
   YieldAt W0 0 Tryd.prog l #[.string (str (Lib.cut c [10]).1), .bool (Lib.cut c [10]).2.2] W fun x W' =>
    (x = .returned (.bool true) ∧ ∃ G2 L2, Gle G G2 ∧ Mem w0 G2 (Rc .ready none :: DD :: .blk sb [.string (str c)] 9 :: L2) W' ∧ J (Lib.cut c [10]).2.1 G2 L2) ∨
    (x = .returned (.bool false) ∧ ∃ pe G2 L2, Gle G G2 ∧ Mem w0 G2 (Rc .done (some pe) :: DD :: .blk sb [.string (str c)] 9 :: L2) W' ∧ Jx pe G2 L2))
  {w : World} {G : Ghost} {L : List Res} {c0 : List UInt8} (HG : Globs 0 1 2 3 G) (hc : c0.length ≤ 1048576) (hJ0 : J c0 G L) (M : Mem w0 G (Rc .ready none :: DD :: .blk sb [.string (str c0)] 9 :: L) w) :
  Calls Tryd.prog 52 #[.func (.yield l) #[] #[], .pointer (some ⟨sb, 0, none⟩)] w fun x W' => ∃ v, x = .returned v ∧
   ((∃ G2 L2 c2, Gle G G2 ∧ Mem w0 G2 (Rc .ready none :: DD :: .blk sb [.string (str c2)] 9 :: L2) W' ∧ J [] G2 L2) ∨ (∃ pe G2 L2 c2, Gle G G2 ∧ Mem w0 G2 (Rc .done (some pe) :: DD :: .blk sb [.string (str c2)] 9 :: L2) W' ∧ Jx pe G2 L2)) := by
 refine calls_startM (vs := [_, _]) Tryd.func52 rfl (n := 20) rfl rfl ?_
 intro a F
 refine wpIn_block <| w_loopIn (fun m a' w' => ∃ (c : List UInt8), ∃ (Lq : List Res), m = c.length ∧ ∃ G1, Gle G G1 ∧ Fits 20 a' [(0, .func (.yield l) #[] #[]), (1, .pointer (some ⟨sb, 0, none⟩))] ∧ Mem w0 G1 ((Rc .ready none) :: DD :: .blk sb [.string (str (c))] 9 :: Lq) w' ∧ (c.length ≤ 1048576) ∧ (J c G1 Lq)) _ ⟨c0, L, rfl, G, Gle.refl _, F.to ⟨rfl, rfl, trivial⟩, M, hc, hJ0⟩ ?_
 clear F M
 rintro m a w ⟨c, Lq, rfl, G1, hG1, F, M, hcl, hJ⟩
 replace HG := HG.mono hG1
 iterate 2 (refine wpIn_seq ?_)
 refine w_regX <| rl_run F (run_load1 (agf tok9 rfl) (F.ev rfl) (M.cellL (k := 2) rfl rfl)) rfl ?_; clear F a; intro a F
 refine rl_run F (run_strNe (F.ev rfl) (F.ev rfl)) rfl ?_; clear F a; intro a F
 refine rl_nil <| q_tn <| w_condIn F rfl ?_ ?_
 ·intro hc
  have h2b := hc; clear hc
  have h2 : ¬ (c = ([] : List UInt8)) := of_decide_eq_false (of_not_t h2b)
  have h2c : (decide (c = ([] : List UInt8))) = false := (of_not_t h2b)
  refine wpIn_skip <| q_tn <| wpIn_block <| wpIn_seq <| w_regX <| rl_run F (run_load1 (agf tok9 rfl) (F.ev rfl) (M.cellL (k := 2) rfl rfl)) rfl ?_; clear F a; intro a F
  refine rl_callS F ent53 rfl rfl (cut_spec (s := c) (sep := ([10] : List UInt8)) M HG (by omega)) ?_; clear F M a; rintro _ w a M rfl F
  have hclc3 := cut_lens 10 c
  refine rl_run F (run_move (F.ev rfl)) rfl ?_; clear F a; intro a F
  refine rl_run F (run_extract (v := .string (str ((Lib.cut c ([10] : List UInt8)).1))) (F.ev rfl) rfl) rfl ?_; clear F a; intro a F
  refine rl_run F (run_extract (v := .string (str ((Lib.cut c ([10] : List UInt8)).2.1))) (F.ev rfl) rfl) rfl ?_; clear F a; intro a F
  refine rl_run F (run_extract (v := .bool ((Lib.cut c ([10] : List UInt8)).2.2)) (F.ev rfl) rfl) rfl ?_; clear F a; intro a F
  iterate 3 (refine rl_run F (run_assign (F.ev rfl)) rfl ?_; clear F a; intro a F)
  refine rl_nil <| q_tn ?_
  iterate 2 (refine wpIn_seq ?_)
  refine w_regW ?_
  iterate 3 (refine rlW_run F (run_move (F.ev rfl)) rfl ?_; clear F a; intro a F)
  refine rlW_yield (m := 0) (vs := [.string (str ((Lib.cut c ([10] : List UInt8)).1)), .bool ((Lib.cut c ([10] : List UInt8)).2.2)]) F rfl rfl rfl (hy _ _ _ _ HG (by assumption) hcl hJ M) ?_; clear F M a
  rintro x w (⟨rfl, G9, L9, hG9, M, hJ9⟩ | ⟨rfl, pe9, G9, L9, hG9, M, hJx9⟩)
  ·skip
   refine ⟨true, rfl, fun a F => ?_⟩
   replace HG := HG.mono hG9
   refine rlW_run F (run_not (F.ev rfl)) rfl ?_; clear F a; intro a F
   refine rlW_nil <| q_tn <| w_condIn_f F rfl rfl ?_
   refine wpIn_skip <| q_tn <| w_regX <| rl_run F (run_move (F.ev rfl)) rfl ?_; clear F a; intro a F
   refine rl_store1 F M tok9 rfl (k := 2) rfl rfl rfl rfl rfl ?_; clear F M a; intro w a M F
   refine rl_nil <| q_bn <| q_tn ?_
   exact ⟨_, (by have h9_ := cut_lt9 (s := c) (by assumption); omega), _, L9, rfl, G9, (hG1.trans hG9), F.to ⟨rfl, rfl, trivial⟩, M, by omega, hJ9⟩
  ·skip
   refine ⟨false, rfl, fun a F => ?_⟩
   replace HG := HG.mono hG9
   refine rlW_run F (run_not (F.ev rfl)) rfl ?_; clear F a; intro a F
   refine rlW_nil <| q_tn <| w_condIn_t F rfl rfl ?_
   refine wpIn_ret <| q_tr <| q_br <| q_tr <| q_br <| finM F (v := .tuple #[]) (results_none rfl _ _ _) ?_
   exact ⟨_, rfl, Or.inr ⟨_, _, _, _, (hG1.trans hG9), M, hJx9⟩⟩
 ·intro hc
  have h4b := hc; clear hc
  have h4 : c = ([] : List UInt8) := of_decide_eq_true (of_not_f h4b)
  have h4c : (decide (c = ([] : List UInt8))) = true := (of_not_f h4b)
  refine wpIn_exit ?_
  iterate 2 (refine q_te ?_)
  refine q_bh <| finMn F (v := .tuple #[]) (results_none rfl _ _ _) ?_
  exact ⟨_, rfl, Or.inl ⟨_, _, _, hG1, M, by rw [← (show c = [] by assumption)]; exact hJ⟩⟩
theorem lines_spec {w0 w : World} {G : Ghost} {L : List Res} (M : Mem w0 G L w) {s : List UInt8} : Calls Tryd.prog 36 #[.string (str s)] w (RetL w0 G fun L' v => ∃ b : Nat, v = .func (.func 52) #[] #[.pointer (some ⟨b, 0, none⟩)] ∧ L' = (.blk b [.string (str s)] 9 :: L)) := by
 refine calls_start (vs := [_]) Tryd.func36 rfl (n := 4) rfl rfl ?_
 intro a F
 refine wp_seq <| w_reg <| rl_box F M rfl (cs := [.string (str (s))]) rfl rfl ?_; clear F M a; intro b1 w a M F
 refine rl_run F (run_assign (F.ev rfl)) rfl ?_; clear F a; intro a F
 refine rl_nil <| q_tn <| wp_seq <| w_reg <| rl_run F (run_makeFunc (vs := #[.pointer (some ⟨b1, 0, none⟩)]) (by simp only [List.map_toArray, List.map_cons, List.map_nil, F.ev (x := .tmp 1) rfl])) rfl ?_; clear F a; intro a F
 refine rl_run F (run_assign (F.ev rfl)) rfl ?_; clear F a; intro a F
 refine rl_nil <| q_tn <| wp_ret <| fin1 F rfl rfl ?_
 exact ⟨_, M, _, rfl, rfl⟩
theorem parse_spec {w0 w : World} {G : Ghost} {L : List Res} (M : Mem w0 G L w) (HG : Globs 0 1 2 3 G) {s : List UInt8} (hs : s.length ≤ 9223372036854775807) : Calls Tryd.prog 13 #[.string (str s)] w (Ret w0 G L fun G' v => ∃ a : Option Addr, v = .tuple #[.slice a (parseF s).1.length (parseF s).1.length, .int .i64 (((parseF s).2.1 : Nat) : Int), .int .i64 (parseF s).2.2] ∧ RdSl rdItem 4 G' (.slice a (parseF s).1.length (parseF s).1.length) (parseF s).1) := by
 refine calls_startM (vs := [_]) Tryd.func13 rfl (n := 42) rfl rfl ?_
 intro a F
 refine wpIn_seq <| w_regX <| rl_alloc F M tok22 rfl rfl ?_; clear F M a; intro b1 w a M F
 refine rl_alloc F M tok3 rfl rfl ?_; clear F M a; intro b3 w a M F
 refine rl_alloc F M tok25 rfl rfl ?_; clear F M a; intro b5 w a M F
 refine rl_nil <| q_tn ?_
 iterate 2 (refine wpIn_seq ?_)
 refine w_regX <| rl_run F (run_move (F.ev rfl)) rfl ?_; clear F a; intro a F
 refine rl_run F (run_lenStr tok9.k (F.ev rfl)) rfl ?_; clear F a; intro a F
 refine rl_run F (run_gtr (F.ev rfl) (F.ev rfl)) rfl ?_; clear F a; intro a F
 refine rl_nil <| q_tn <| w_condIn F rfl ?_ ?_
 ·intro hc
  have h7b := hc; clear hc
  have h7 : 1048576 < (((s).length : Nat) : Int) := of_decide_eq_true h7b
  refine wpIn_seq <| w_regX <| rl_store1 F M tok22 rfl (k := 2) rfl rfl rfl rfl rfl ?_; clear F M a; intro w a M F
  refine rl_store1 F M tok3 rfl (k := 1) rfl rfl rfl rfl rfl ?_; clear F M a; intro w a M F
  refine rl_store1 F M tok25 rfl (k := 0) rfl rfl rfl rfl rfl ?_; clear F M a; intro w a M F
  refine rl_nil <| q_tn <| wpIn_ret <| q_tr <| finM F (res_ccc F M (k1 := 2) (k2 := 1) (k3 := 0) rfl rfl rfl rfl (agf tok22 rfl) (agf tok3 rfl) (agf tok25 rfl) rfl rfl rfl) ?_
  exact ⟨_, (Gle.refl _), M.weaken (.cons _ (.cons _ (.cons _ (List.Sublist.refl _)))), by rw [parse_big (by omega)]; exact ⟨none, rfl, RdSl.nil⟩⟩
 ·intro hc
  have h8b := hc; clear hc
  have h8 : ¬ (1048576 < (((s).length : Nat) : Int)) := of_decide_eq_false h8b
  refine wpIn_skip <| q_tn ?_
  iterate 2 (refine wpIn_seq ?_)
  refine w_regX <| rl_run F (run_move (F.ev rfl)) rfl ?_; clear F a; intro a F
  refine rl_callL F ent36 rfl rfl (lines_spec (s := s) M) ?_; clear F M a; rintro _ _ w a M ⟨bs9, rfl, rfl⟩ F
  refine rl_nil <| q_tn <| wpIn_block ?_
  replace M := M.perm (perm_front _ 3 _ rfl)
  change Mem w0 G (_ :: _ :: _ :: _ :: L) _ at M
  have M := (M.nilrow 30 4).perm (List.Perm.swap _ _ _)
  replace M := M.perm (perm_front _ 1 _ rfl)
  replace M := M.perm (perm_front _ 3 _ rfl)
  replace M := M.perm (perm_front _ 4 _ rfl)
  replace M := M.perm (perm_front _ 3 _ rfl)
  replace M := M.perm (perm_front _ 4 _ rfl)
  change Mem w0 G (_ :: _ :: _ :: _ :: _ :: L) _ at M
  change Mem w0 G (.blk bs9 [.string (str (s))] 9 :: .blk b1 [.slice none (0) (0)] 22 :: .blk b3 [.int .i64 (0)] 3 :: .blk b5 [.int .i64 (0)] 25 :: .row (.slice none (0) (0)) (0) ([]) 30 4 :: L) _ at M
  refine w_rangeFuncR F M rfl ent52 (fun fn l D Rc W hRc M2 => ?_)
  clear M
  refine Calls.mono (lines1_spec (Rc := Rc) (DD := .obj D (.deferred (some []))) (l := l) (sb := bs9) (J := (fun c G' L' => Gle G G' ∧ ∃ (ar : Option Addr) (nr cr : Nat) (csr : List Value) (xs : List ItemD), L' = (.blk b1 [.slice ar nr cr] 22 :: .blk b3 [.int .i64 0] 3 :: .blk b5 [.int .i64 0] 25 :: .row (.slice ar nr cr) nr csr 30 4 :: L) ∧ Els rdItem 4 G' csr xs ∧ nr = xs.length ∧ PInv s xs c)) (Jx := (fun pe G' L' => Gle G G' ∧ pe = Code.ret ∧ ∃ (n : Nat) (e : Int), L' = (.blk b1 [.slice none 0 0] 22 :: .blk b3 [.int .i64 ((n : Nat) : Int)] 3 :: .blk b5 [.int .i64 e] 25 :: L) ∧ parseF s = ([], n, e))) ?_ HG (by omega) ⟨Gle.refl _, _, _, _, _, _, rfl, Els.nil, rfl, PInv.start (by omega)⟩ M2) ?_
  ·intro c Gc Lc Wc HGc hne hcl hJ M
   obtain ⟨hGc, ar, nr, cr, csr, xs, rfl, Er, hnr, hP⟩ := hJ
   subst hnr
   obtain ⟨f9, hf9, hp9, hx9, hok9⟩ := id hP
   rw [hRc] at M
   clear HG M2
   have HG := HGc
   have hcl9 := cut_lens 10 c
   refine yield2 F rfl rfl M (fun a F => ?_)
   refine wpIn_seq <| w_regIn (by kernel_rfl) ?_
   refine rl_run F (run_assign (F.ev rfl)) rfl ?_; clear F; intro a F
   refine rl_nil <| q_tn <| w_regIn (by kernel_rfl) ?_
   refine rl_run F (run_assign (F.ev rfl)) rfl ?_; clear F; intro a F
   refine rl_nil <| q_tn ?_
   intro W2 M3
   refine ⟨rfl, ?_⟩
   clear M; have M := M3; clear M3
   refine wpIn_block <| wpIn_seq <| w_regIn (by kernel_rfl) ?_
   refine rl_run F (run_move (F.ev rfl)) rfl ?_; clear F; intro a F
   refine rl_call F ent37 rfl rfl (item_spec (s := (Lib.cut c [10]).1) M HG (by omega)) ?_; clear F M; rintro _ Gk10 w a hGk10 M ⟨xk10, mak10, mck10, bk10, rfl, hIk10, SMk10, hyk10, hnk10⟩ F
   replace HG := HG.mono hGk10
   replace Er := Er.mono mono_rdItem hGk10
   refine rl_run F (run_move (F.ev rfl)) rfl ?_; clear F; intro a F
   refine rl_run F (run_extract (v := .agg #[.int .u64 (((xk10.key : Nat) : Int)), .int .u8 (((xk10.typ : Nat) : Int)), .string (str (xk10.text)), .slice (mak10) (xk10.marks.length) (mck10)]) (F.ev rfl) rfl) rfl ?_; clear F; intro a F
   refine rl_run F (run_extract (v := .bool (bk10)) (F.ev rfl) rfl) rfl ?_; clear F; intro a F
   refine rl_alloc F M tok30 rfl rfl ?_; clear F M; intro b11 w a M F
   refine rl_storeA F M tok30 (k := 0) rfl rfl rfl (us := [.int .u64 (((xk10.key : Nat) : Int)), .int .u8 (((xk10.typ : Nat) : Int)), .string (str (xk10.text)), .slice (mak10) (xk10.marks.length) (mck10)]) rfl rfl (by simp [Value.oneCell']) (by simp) ?_; clear F M; intro w a M F
   change Mem w0 Gk10 (.blk b11 [.int .u64 (((xk10.key : Nat) : Int)), .int .u8 (((xk10.typ : Nat) : Int)), .string (str (xk10.text)), .slice (mak10) (xk10.marks.length) (mck10)] 30 :: _ :: _ :: _ :: _ :: _ :: _ :: _ :: L) _ at M
   refine rl_run F (run_assign (F.ev rfl)) rfl ?_; clear F; intro a F
   refine rl_nil <| q_tn ?_
   iterate 2 (refine wpIn_seq ?_)
   refine w_regIn (by kernel_rfl) ?_
   refine rl_run F (run_move (F.ev rfl)) rfl ?_; clear F; intro a F
   refine rl_run F (run_not (F.ev rfl)) rfl ?_; clear F; intro a F
   refine rl_run F (run_move (F.ev rfl)) rfl ?_; clear F; intro a F
   rcases Bool.eq_false_or_eq_true (!((Lib.cut c [10]).2.2)) with hc | hc
   ·skip
    have h13b := hc; clear hc
    have h13 : ((Lib.cut c [10]).2.2) = false := (of_not_t h13b)
    have h13c : ((Lib.cut c [10]).2.2) = false := (of_not_t h13b)
    iterate 2 (refine rl_guard_f F rfl rfl rfl (not_t h13c) ?_; clear F; intro a F)
    refine rl_run F (run_pick_t (F.ev rfl) (not_t h13c) (F.ev rfl)) rfl ?_; clear F; intro a F
    refine rl_nil <| q_tn <| w_condIn_t F rfl rfl ?_
    refine wpIn_seq <| w_regIn (by kernel_rfl) ?_
    refine rl_run F (run_load1 (agf tok22 rfl) (F.ev rfl) (M.cellL (k := 4) rfl rfl)) rfl ?_; clear F; intro a F
    refine rl_run F (run_lenSl tok22.k (F.ev rfl)) rfl ?_; clear F; intro a F
    refine rl_run F (run_addi (F.ev rfl) (F.ev rfl) (in_i64 (by omega) (by omega))) rfl ?_; clear F; intro a F
    refine rl_store1 F M tok22 rfl (k := 4) rfl rfl rfl rfl rfl ?_; clear F M; intro w a M F
    refine rl_store1 F M tok3 rfl (k := 5) rfl rfl rfl rfl rfl ?_; clear F M; intro w a M F
    refine rl_store1 F M tok25 rfl (k := 6) rfl rfl rfl rfl rfl ?_; clear F M; intro w a M F
    refine rl_nil <| q_tn <| wpIn_ret <| q_tr <| q_br ?_
    replace M := M.perm (perm_front _ 6 _ rfl)
    replace M := M.perm (perm_front _ 6 _ rfl)
    replace M := M.perm (perm_front _ 6 _ rfl)
    replace M := M.perm (perm_front _ 6 _ rfl)
    replace M := M.perm (perm_front _ 6 _ rfl)
    replace M := M.perm (perm_front _ 6 _ rfl)
    change Mem w0 Gk10 (_ :: _ :: _ :: .blk b1 [.slice none (0) (0)] 22 :: .blk b3 [.int .i64 ((((xs.length : Nat) : Int)) + 1)] 3 :: .blk b5 [.int .i64 (5)] 25 :: .blk b11 [.int .u64 (((xk10.key : Nat) : Int)), .int .u8 (((xk10.typ : Nat) : Int)), .string (str (xk10.text)), .slice (mak10) (xk10.marks.length) (mck10)] 30 :: _ :: L) _ at M
    rw [show (((xs.length : Nat) : Int) + 1) = (((xs.length + 1 : Nat)) : Int) by omega] at M
    obtain ⟨w', hend, M⟩ := round_end (some .ret) (M.weaken (.cons_cons _ (.cons_cons _ (.cons_cons _ (.cons_cons _ (.cons_cons _ (.cons_cons _ (.cons _ (.cons _ (List.Sublist.refl _))))))))))
    exact ⟨_, w', hend, Or.inr ⟨rfl, .ret, _, _, hGk10, by rw [hRc]; exact M, hGc.trans hGk10, rfl, _, _, rfl, by first | exact hP.bad hne (Or.inl (fun h_ => absurd (show true = false from h_.symm.trans (by assumption)) (by decide))) | exact hP.bad hne (Or.inr (hnk10 (by assumption)))⟩⟩
   ·skip
    have h14b := hc; clear hc
    have h14 : ((Lib.cut c [10]).2.2) = true := (of_not_f h14b)
    have h14c : ((Lib.cut c [10]).2.2) = true := (of_not_f h14b)
    refine rl_guard_t F rfl rfl rfl (not_f h14c) ?_
    refine rl_run F (run_move (F.ev rfl)) rfl ?_; clear F; intro a F
    refine rl_guard_t F rfl rfl rfl (not_f h14c) ?_
    refine rl_run F (run_not (F.ev rfl)) rfl ?_; clear F; intro a F
    refine rl_run F (run_pick_f (F.ev rfl) (not_f h14c) (F.ev rfl)) rfl ?_; clear F; intro a F
    refine rl_nil <| q_tn <| w_condIn F rfl ?_ ?_
    ·intro hc
     have h15b := hc; clear hc
     have h15 : (bk10) = false := (of_not_t h15b)
     have h15c : (bk10) = false := (of_not_t h15b)
     refine wpIn_seq <| w_regIn (by kernel_rfl) ?_
     refine rl_run F (run_load1 (agf tok22 rfl) (F.ev rfl) (M.cellL (k := 4) rfl rfl)) rfl ?_; clear F; intro a F
     refine rl_run F (run_lenSl tok22.k (F.ev rfl)) rfl ?_; clear F; intro a F
     refine rl_run F (run_addi (F.ev rfl) (F.ev rfl) (in_i64 (by omega) (by omega))) rfl ?_; clear F; intro a F
     refine rl_store1 F M tok22 rfl (k := 4) rfl rfl rfl rfl rfl ?_; clear F M; intro w a M F
     refine rl_store1 F M tok3 rfl (k := 5) rfl rfl rfl rfl rfl ?_; clear F M; intro w a M F
     refine rl_store1 F M tok25 rfl (k := 6) rfl rfl rfl rfl rfl ?_; clear F M; intro w a M F
     refine rl_nil <| q_tn <| wpIn_ret <| q_tr <| q_br ?_
     replace M := M.perm (perm_front _ 6 _ rfl)
     replace M := M.perm (perm_front _ 6 _ rfl)
     replace M := M.perm (perm_front _ 6 _ rfl)
     replace M := M.perm (perm_front _ 6 _ rfl)
     replace M := M.perm (perm_front _ 6 _ rfl)
     replace M := M.perm (perm_front _ 6 _ rfl)
     change Mem w0 Gk10 (_ :: _ :: _ :: .blk b1 [.slice none (0) (0)] 22 :: .blk b3 [.int .i64 ((((xs.length : Nat) : Int)) + 1)] 3 :: .blk b5 [.int .i64 (5)] 25 :: .blk b11 [.int .u64 (((xk10.key : Nat) : Int)), .int .u8 (((xk10.typ : Nat) : Int)), .string (str (xk10.text)), .slice (mak10) (xk10.marks.length) (mck10)] 30 :: _ :: L) _ at M
     rw [show (((xs.length : Nat) : Int) + 1) = (((xs.length + 1 : Nat)) : Int) by omega] at M
     obtain ⟨w', hend, M⟩ := round_end (some .ret) (M.weaken (.cons_cons _ (.cons_cons _ (.cons_cons _ (.cons_cons _ (.cons_cons _ (.cons_cons _ (.cons _ (.cons _ (List.Sublist.refl _))))))))))
     exact ⟨_, w', hend, Or.inr ⟨rfl, .ret, _, _, hGk10, by rw [hRc]; exact M, hGc.trans hGk10, rfl, _, _, rfl, by first | exact hP.bad hne (Or.inl (fun h_ => absurd (show true = false from h_.symm.trans (by assumption)) (by decide))) | exact hP.bad hne (Or.inr (hnk10 (by assumption)))⟩⟩
    ·intro hc
     have h16b := hc; clear hc
     have h16 : (bk10) = true := (of_not_f h16b)
     have h16c : (bk10) = true := (of_not_f h16b)
     refine wpIn_skip <| q_tn ?_
     iterate 2 (refine wpIn_seq ?_)
     refine w_regIn (by kernel_rfl) ?_
     refine rl_run F (run_load1 (agf tok22 rfl) (F.ev rfl) (M.cellL (k := 4) rfl rfl)) rfl ?_; clear F; intro a F
     refine rl_run F (run_lenSl tok22.k (F.ev rfl)) rfl ?_; clear F; intro a F
     refine rl_run F (run_eqi (F.ev rfl) (F.ev rfl)) rfl ?_; clear F; intro a F
     refine rl_nil <| q_tn <| w_condIn F rfl ?_ ?_
     ·intro hc
      have h17b := hc; clear hc
      have h17 : ((xs.length : Nat) : Int) = 1024 := of_decide_eq_true h17b
      refine wpIn_seq <| w_regIn (by kernel_rfl) ?_
      refine rl_run F (run_load1 (agf tok22 rfl) (F.ev rfl) (M.cellL (k := 4) rfl rfl)) rfl ?_; clear F; intro a F
      refine rl_run F (run_lenSl tok22.k (F.ev rfl)) rfl ?_; clear F; intro a F
      refine rl_run F (run_addi (F.ev rfl) (F.ev rfl) (in_i64 (by omega) (by omega))) rfl ?_; clear F; intro a F
      refine rl_store1 F M tok22 rfl (k := 4) rfl rfl rfl rfl rfl ?_; clear F M; intro w a M F
      refine rl_store1 F M tok3 rfl (k := 5) rfl rfl rfl rfl rfl ?_; clear F M; intro w a M F
      refine rl_store1 F M tok25 rfl (k := 6) rfl rfl rfl rfl rfl ?_; clear F M; intro w a M F
      refine rl_nil <| q_tn <| wpIn_ret <| q_tr <| q_br ?_
      replace M := M.perm (perm_front _ 6 _ rfl)
      replace M := M.perm (perm_front _ 6 _ rfl)
      replace M := M.perm (perm_front _ 6 _ rfl)
      replace M := M.perm (perm_front _ 6 _ rfl)
      replace M := M.perm (perm_front _ 6 _ rfl)
      replace M := M.perm (perm_front _ 6 _ rfl)
      change Mem w0 Gk10 (_ :: _ :: _ :: .blk b1 [.slice none (0) (0)] 22 :: .blk b3 [.int .i64 ((((xs.length : Nat) : Int)) + 1)] 3 :: .blk b5 [.int .i64 (3)] 25 :: .blk b11 [.int .u64 (((xk10.key : Nat) : Int)), .int .u8 (((xk10.typ : Nat) : Int)), .string (str (xk10.text)), .slice (mak10) (xk10.marks.length) (mck10)] 30 :: _ :: L) _ at M
      rw [show (((xs.length : Nat) : Int) + 1) = (((xs.length + 1 : Nat)) : Int) by omega] at M
      obtain ⟨w', hend, M⟩ := round_end (some .ret) (M.weaken (.cons_cons _ (.cons_cons _ (.cons_cons _ (.cons_cons _ (.cons_cons _ (.cons_cons _ (.cons _ (.cons _ (List.Sublist.refl _))))))))))
      exact ⟨_, w', hend, Or.inr ⟨rfl, .ret, _, _, hGk10, by rw [hRc]; exact M, hGc.trans hGk10, rfl, _, _, rfl, by exact hP.full hne (by assumption) (hyk10 (by assumption)) (by omega)⟩⟩
     ·intro hc
      have h18b := hc; clear hc
      have h18 : ¬ (((xs.length : Nat) : Int) = 1024) := of_decide_eq_false h18b
      refine wpIn_skip <| q_tn <| w_regIn (by kernel_rfl) ?_
      refine rl_run F (run_load1 (agf tok22 rfl) (F.ev rfl) (M.cellL (k := 4) rfl rfl)) rfl ?_; clear F; intro a F
      refine rl_run F (run_loadA tok30 rfl (F.ev rfl) (cs := [.int .u64 (((xk10.key : Nat) : Int)), .int .u8 (((xk10.typ : Nat) : Int)), .string (str (xk10.text)), .slice (mak10) (xk10.marks.length) (mck10)]) rfl (M.cellsL (k := 0) rfl rfl)) rfl ?_; clear F; intro a F
      refine rl_buildSlice1 F M tok22.k tok30 rfl rfl (cs := [.int .u64 (((xk10.key : Nat) : Int)), .int .u8 (((xk10.typ : Nat) : Int)), .string (str (xk10.text)), .slice (mak10) (xk10.marks.length) (mck10)]) rfl rfl (by simp [Value.oneCell']) (by decide) rfl ?_; clear F M; intro v19 w a M F
      obtain ⟨av19, cv19, rfl, hlev19, hcmv19, hlv19⟩ := M.row_shape (k := 0) rfl
      have Eb : Els rdItem 4 Gk10 [.int .u64 (((xk10.key : Nat) : Int)), .int .u8 (((xk10.typ : Nat) : Int)), .string (str (xk10.text)), .slice (mak10) (xk10.marks.length) (mck10)] [xk10] := ⟨[.int .u64 (((xk10.key : Nat) : Int)), .int .u8 (((xk10.typ : Nat) : Int)), .string (str (xk10.text)), .slice (mak10) (xk10.marks.length) (mck10)], [], rfl, rfl, ⟨mak10, mck10, rfl, hIk10.1, hIk10.2.1, hIk10.2.2, (by have h_ := SMk10.bound; omega), SMk10⟩, rfl⟩
      refine rl_append_row F M (k := 8) (k2 := 0) rfl rfl tok22.k tok30 rfl rfl (by decide) rfl rfl (by show _ * 56 ≤ _; (try simp only [List.length_drop, List.length_take, List.length_append, List.length_cons, List.length_nil]); omega) (by (try simp only [List.length_drop, List.length_take, List.length_append, List.length_cons, List.length_nil]); omega) rfl ?_; clear F M; intro v20 w a M F
      have Ev20 := Els.append Er Eb
      obtain ⟨av20, cv20, rfl, hlev20, hcmv20, hlv20⟩ := M.row_shape (k := 8) rfl
      refine rl_store1 F M tok22 rfl (k := 5) rfl rfl rfl rfl rfl ?_; clear F M; intro w a M F
      refine rl_nil <| q_bn ?_
      replace M := M.perm (perm_front _ 8 _ rfl)
      replace M := M.perm (perm_front _ 8 _ rfl)
      replace M := M.perm (perm_front _ 8 _ rfl)
      replace M := M.perm (perm_front _ 8 _ rfl)
      replace M := M.perm (perm_front _ 8 _ rfl)
      replace M := M.perm (perm_front _ 8 _ rfl)
      replace M := M.perm (perm_front _ 8 _ rfl)
      change Mem w0 Gk10 (_ :: _ :: _ :: .blk b1 [.slice (av20) (xs.length + 1) (cv20)] 22 :: _ :: _ :: _ :: _ :: .blk b11 [.int .u64 (((xk10.key : Nat) : Int)), .int .u8 (((xk10.typ : Nat) : Int)), .string (str (xk10.text)), .slice (mak10) (xk10.marks.length) (mck10)] 30 :: L) _ at M
      obtain ⟨w', hend, M⟩ := round_end none (M.weaken (.cons_cons _ (.cons_cons _ (.cons_cons _ (.cons_cons _ (.cons_cons _ (.cons_cons _ (.cons_cons _ (.cons _ (.cons _ (List.Sublist.refl _)))))))))))
      exact ⟨_, w', hend, Or.inl ⟨rfl, _, _, hGk10, by rw [hRc]; exact M, hGc.trans hGk10, _, _, _, _, _, rfl, Ev20, by simp, hP.next hne (by assumption) (hyk10 (by assumption)) (by omega)⟩⟩
  ·rintro x W' ⟨v, rfl, (⟨G2, L2, c2, hG2, M, hJ⟩ | ⟨pe, G2, L2, c2, hG2, M, hJ⟩)⟩
   ·skip
    obtain ⟨hG9, ar, nr, cr, csr, xs, rfl, Er, hnr, hP⟩ := hJ
    subst hnr
    have hp := hP.fin
    obtain ⟨f9, hf9, hp9, hx9, hok9⟩ := id hP
    refine ⟨v, none, G2, _, .ready, rfl, (fun h => by cases h), hG2, M, fun w M => ?_⟩
    clear hRc M2
    replace HG := HG.mono hG2
    refine q_bn <| q_tn <| wpIn_seq ?_
    obtain ⟨hnz21, Gz21, az21, cz21, hGz21, hez21, Sz21, M⟩ := M.freeze_row mono_rdItem (k := 5) rfl Er (by decide)
    clear hez21 az21 cz21
    replace HG := HG.mono hGz21
    change Mem w0 Gz21 ((.obj D (.deferred (some []))) :: .blk bs9 [.string (str (c2))] 9 :: .blk b1 [.slice (ar) (xs.length) (cr)] 22 :: .blk b3 [.int .i64 (0)] 3 :: .blk b5 [.int .i64 (0)] 25 :: L) _ at M
    refine w_regXD <| rl_run F (run_load1 (agf tok22 rfl) (F.ev rfl) (M.cellL (k := 2) rfl rfl)) rfl ?_; clear F a; intro a F
    refine rl_call F ent21 rfl rfl (copy_spec (xs := xs) M Sz21 (by omega) (fun x hx => by have := (hok9 x hx).2.2.2.1; omega)) ?_; clear F M a; rintro _ Gq22 w a hGq22 M ⟨aq22, rfl, Sq22⟩ F
    replace HG := HG.mono hGq22
    replace Sz21 := Sz21.mono mono_rdItem hGq22
    refine rl_store1 F M tok22 rfl (k := 2) rfl rfl rfl rfl rfl ?_; clear F M a; intro w a M F
    refine rl_store1 F M tok3 rfl (k := 3) rfl rfl rfl rfl rfl ?_; clear F M a; intro w a M F
    refine rl_store1 F M tok25 rfl (k := 4) rfl rfl rfl rfl rfl ?_; clear F M a; intro w a M F
    refine rl_nil <| q_tn <| wpIn_ret ?_
    change Mem w0 Gq22 (_ :: _ :: .blk b1 [.slice (aq22) (xs.length) (xs.length)] 22 :: .blk b3 [.int .i64 (0)] 3 :: .blk b5 [.int .i64 (0)] 25 :: L) _ at M
    refine finMD F M (v := .tuple #[.slice (aq22) (xs.length) (xs.length), .int .i64 (0), .int .i64 (0)]) (fun w_ M_ => res_ccc F M_ (k1 := 1) (k2 := 2) (k3 := 3) rfl rfl rfl rfl (agf tok22 rfl) (agf tok3 rfl) (agf tok25 rfl) rfl rfl rfl) (fun w_ M_ => ?_)
    exact ⟨_, ((hG2.trans hGz21).trans hGq22), M_.weaken (.cons _ (.cons _ (.cons _ (.cons _ (List.Sublist.refl _))))), by rw [hp]; exact ⟨aq22, rfl, Sq22⟩⟩
   ·skip
    obtain ⟨hG9, rfl, n9, e9, rfl, hp⟩ := hJ
    refine ⟨v, some .ret, G2, _, .done, rfl, (fun h => by cases h), hG2, M, fun w M => ?_⟩
    clear hRc M2
    replace HG := HG.mono hG2
    refine wpIn_ret <| q_br <| q_tr ?_
    change Mem w0 G2 (_ :: _ :: _ :: _ :: _ :: L) _ at M
    refine finMD F M (v := .tuple #[.slice none (0) (0), .int .i64 (((n9 : Nat) : Int)), .int .i64 (e9)]) (fun w_ M_ => res_ccc F M_ (k1 := 1) (k2 := 2) (k3 := 3) rfl rfl rfl rfl (agf tok22 rfl) (agf tok3 rfl) (agf tok25 rfl) rfl rfl rfl) (fun w_ M_ => ?_)
    exact ⟨_, hG2, M_.weaken (.cons _ (.cons _ (.cons _ (.cons _ (List.Sublist.refl _))))), by rw [hp]; exact ⟨none, rfl, RdSl.nil⟩⟩
end Go.Proofs.YtmmhmcplegpenaaDoor
