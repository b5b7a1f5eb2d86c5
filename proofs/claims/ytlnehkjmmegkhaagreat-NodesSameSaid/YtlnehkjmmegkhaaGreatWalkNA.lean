/- The walks, part NA. -/
import Derived.Test.YtlnehkjmmegkhaaGreatWalkP
namespace Go.Proofs.YtlnehkjmmegkhaaGreat
open Go Go.Y Go.Proofs
set_option linter.unusedSimpArgs false
set_option linter.unusedVariables false
mutual
def stripF : NT → NT
 | .mk k t _ a x l => .mk k t [] a x (stripsF l)
def stripsF : List NT → List NT
 | [] => []
 | c :: l => stripF c :: stripsF l
end
theorem stripsF_map : ∀ l : List NT, stripsF l = l.map stripF
 | [] => rfl
 | c :: l => by rw [stripsF, stripsF_map l]; rfl
def copF (keys : Bool) (x : NT) : NT := if keys = true then x else stripF x
theorem copF_false {x : NT} : copF false x = stripF x := rfl
theorem copF_eq (keys : Bool) (x : NT) : copF keys x = .mk x.kind x.tag (if keys = true then x.key else []) x.as x.text (x.kids.map (copF keys)) := by
 cases keys with
 | true => cases x; simp only [copF, if_true, Tr.kind, Tr.tag, Tr.key, Tr.as, Tr.text, Tr.kids, Tr.mk.injEq, true_and]; exact (List.map_id _).symm
 | false =>
  obtain ⟨k, t, q, a, s, l⟩ := x
  simp only [copF, Bool.false_eq_true, if_false, stripF, Tr.kind, Tr.tag, Tr.as, Tr.text, Tr.kids]
  rw [stripsF_map]; rfl
theorem map_fill {α β : Type} {f : α → β} {z : β} {xs : List α} {i : Nat} {s : α} (h : xs[i]? = some s) :
  ((xs.take i).map f ++ List.replicate (xs.length - i) z).set i (f s) = (xs.take (i + 1)).map f ++ List.replicate (xs.length - (i + 1)) z := by
 have hi := lt_of_get h
 rw [Tr.take_snoc' h, List.map_append, List.set_append_right _ _ (by simp; omega)]
 have e : xs.length - i = (xs.length - (i + 1)) + 1 := by omega
 have e2 : i - ((xs.take i).map f).length = 0 := by simp; omega
 rw [e2, e, List.replicate_succ]
 simp
theorem clipa_spec {w0 w : World} {G : Ghost} {L : List Res} (M : Mem w0 G L w) {n c : Nat} {ad : Option Addr} (h : n ≤ c) (hc : c ≤ 9223372036854775807) : Calls Tryz.prog 85 #[.slice ad n c] w (RetS w0 G L fun v => v = .slice ad n n) := by
 refine calls_start (vs := [_]) Tryz.func85 rfl (n := 9) rfl rfl ?_
 intro a F
 refine wp_seq <| w_reg <| rl_run F (run_assign (F.ev rfl)) rfl ?_; clear F a; intro a F
 refine rl_nil <| q_tn <| wp_seq <| w_reg ?_
 iterate 2 (refine rl_run F (run_move (F.ev rfl)) rfl ?_; clear F a; intro a F)
 refine rl_run F (run_lenSl tok27.k (F.ev rfl)) rfl ?_; clear F a; intro a F
 refine rl_run F (run_move (F.ev rfl)) rfl ?_; clear F a; intro a F
 refine rl_run F (run_lenSl tok27.k (F.ev rfl)) rfl ?_; clear F a; intro a F
 refine rl_run F (run_slice3 (h := n) (q := n) tok27.k tok87 (F.ev rfl) (F.ev rfl) (by omega) (F.ev rfl) (by omega) (by omega) (by omega)) rfl ?_; clear F a; intro a F
 refine rl_run F (run_assign (F.ev rfl)) rfl ?_; clear F a; intro a F
 refine rl_nil <| q_tn <| wp_ret <| fin1 F rfl rfl ?_
 exact ⟨M, rfl⟩
theorem clonea_spec {w0 w : World} {G : Ghost} {L : List Res} (M : Mem w0 G L w) {ad : Option Addr} {c : Nat} {xs : List AttrD} (S : RdSl rdAttr 2 G (.slice ad xs.length c) xs) (hlen : xs.length ≤ 1000000) :
  Calls Tryz.prog 86 #[.slice ad xs.length c] w (RetL w0 G fun L' v => ∃ a' n' c' cs', v = .slice a' n' c' ∧ L' = (.row (.slice a' n' c') n' cs' 87 2 :: L) ∧ n' = xs.length ∧ Els rdAttr 2 G cs' xs) := by
 refine calls_start (vs := [_]) Tryz.func86 rfl (n := 8) rfl rfl ?_
 intro a F
 refine wp_seq <| w_reg <| rl_run F (run_assign (F.ev rfl)) rfl ?_; clear F a; intro a F
 refine rl_nil <| q_tn ?_
 iterate 2 (refine wp_seq ?_)
 refine w_reg <| rl_run F (run_move (F.ev rfl)) rfl ?_; clear F a; intro a F
 refine rl_run F (run_eqnilS tok27.k (F.ev rfl) (F.ev rfl)) rfl ?_; clear F a; intro a F
 refine rl_nil <| q_tn <| w_cond F rfl ?_ ?_
 ·intro hc
  have h1b := hc; clear hc
  have h1 : ((ad).isNone) = true := h1b
  refine wp_seq <| w_reg <| rl_run F (run_assign (F.ev rfl)) rfl ?_; clear F a; intro a F
  refine rl_nil <| q_tn <| wp_ret <| q_tr <| fin1 F rfl rfl ?_
  have h0 := S.nilz (by assumption)
  exact ⟨_, M.nilrow 87 2, none, 0, 0, [], rfl, rfl, by rw [h0]; rfl, by rw [h0]; exact Els.nil⟩
 ·intro hc
  have h2b := hc; clear hc
  have h2 : ((ad).isNone) = false := h2b
  refine wp_skip <| q_tn <| wp_seq <| w_reg <| rl_buildSlice0 F M tok27.k tok87 rfl ?_; clear F M a; intro v3 w a M F
  obtain ⟨av3, cv3, rfl, hlev3, hcmv3, hlv3⟩ := M.row_shape (k := 0) rfl
  refine rl_run F (run_move (F.ev rfl)) rfl ?_; clear F a; intro a F
  refine rl_append F M (k := 0) rfl tok27.k tok87 rfl rfl (by decide) rfl S rfl (by show _ * 32 ≤ _; (try simp only [List.length_drop, List.length_take, List.length_append, List.length_cons, List.length_nil]); omega) (by (try simp only [List.length_drop, List.length_take, List.length_append, List.length_cons, List.length_nil]); omega) rfl ?_; clear F M a; intro v4 csv4 w a M Ev4 F
  have Ev4 := Els.append Els.nil Ev4
  obtain ⟨av4, cv4, rfl, hlev4, hcmv4, hlv4⟩ := M.row_shape (k := 0) rfl
  refine rl_run F (run_assign (F.ev rfl)) rfl ?_; clear F a; intro a F
  refine rl_nil <| q_tn <| wp_ret <| fin1 F rfl rfl ?_
  change Mem w0 G (_ :: L) _ at M
  simp only [Nat.zero_add, List.nil_append] at M ⊢
  exact ⟨_, M, _, _, _, _, rfl, rfl, rfl, by have h := Ev4; simp only [List.nil_append] at h; exact h⟩
def CopP (x : NT) : Prop := ∀ (w0 w : World) (G : Ghost) (L : List Res) (ta ka : Option Addr) (tc kc : Nat) (keys : Bool), Mem w0 G L w → inKind .u8 x.kind → (x.tag.length ≤ 9223372036854775807 ∧ x.key.length ≤ 9223372036854775807 ∧ x.text.length ≤ 9223372036854775807) → RdSl rdAttr 2 G (.slice ta x.as.length tc) x.as → RdSl rdN 6 G (.slice ka x.kids.length kc) x.kids → (∃ n, Tr.Ok Alone n x) →
  Calls Tryz.prog 56 #[.agg #[.int .u8 (x.kind), .string (str (x.tag)), .string (str (x.key)), .slice (ta) (x.as.length) (tc), .string (str (x.text)), .slice (ka) (x.kids.length) (kc)], .bool keys] w (Ret w0 G L fun G' v => ∃ a1 a2, v = .agg #[.int .u8 (copF keys x).kind, .string (str (copF keys x).tag), .string (str (copF keys x).key), .slice a1 (copF keys x).as.length (copF keys x).as.length, .string (str (copF keys x).text), .slice a2 (copF keys x).kids.length (copF keys x).kids.length] ∧ RdSl rdAttr 2 G' (.slice a1 (copF keys x).as.length (copF keys x).as.length) (copF keys x).as ∧ RdSl rdNE 6 G' (.slice a2 (copF keys x).kids.length (copF keys x).kids.length) (copF keys x).kids)
theorem alone_small {n : Nat} {x : NT} (h : Tr.Ok Alone n x) : x.as.length ≤ 8 ∧ x.kids.length ≤ 16 := by
 cases n with
 | zero => exact h.elim
 | succ n => have := h.1; unfold Alone at this; grind
theorem alone_kids {n : Nat} {x c : NT} (h : Tr.Ok Alone n x) (hc : c ∈ x.kids) : ∃ m, Tr.Ok Alone m c := by
 cases n with
 | zero => exact h.elim
 | succ n => exact ⟨n, h.2 c hc⟩
theorem copF_kind {keys : Bool} {x : NT} : (copF keys x).kind = x.kind := by rw [copF_eq]; rfl
theorem copF_len {keys : Bool} {x : NT} (h : (x.tag.length ≤ 9223372036854775807 ∧ x.key.length ≤ 9223372036854775807 ∧ x.text.length ≤ 9223372036854775807)) : ((copF keys x).tag.length ≤ 9223372036854775807 ∧ (copF keys x).key.length ≤ 9223372036854775807 ∧ (copF keys x).text.length ≤ 9223372036854775807) := by
 rw [copF_eq]
 refine ⟨h.1, ?_, h.2.2⟩
 show (if keys = true then x.key else []).length ≤ _
 split
 ·exact h.2.1
 ·exact Nat.zero_le _
theorem copied_step {x : NT} (ih : ∀ y ∈ x.kids, CopP y) {w0 w : World} {G : Ghost} {L : List Res} (M : Mem w0 G L w) {ta : Option Addr} {tc : Nat} {ka : Option Addr} {kc : Nat} (hk : inKind .u8 x.kind) (hl : (x.tag.length ≤ 9223372036854775807 ∧ x.key.length ≤ 9223372036854775807 ∧ x.text.length ≤ 9223372036854775807)) (SA : RdSl rdAttr 2 G (.slice ta x.as.length tc) x.as) (SK : RdSl rdN 6 G (.slice ka x.kids.length kc) x.kids) {keys : Bool} (hok : ∃ n, Tr.Ok Alone n x) : Calls Tryz.prog 56 #[.agg #[.int .u8 (x.kind), .string (str (x.tag)), .string (str (x.key)), .slice (ta) (x.as.length) (tc), .string (str (x.text)), .slice (ka) (x.kids.length) (kc)], .bool keys] w (Ret w0 G L fun G' v => ∃ a1 a2, v = .agg #[.int .u8 (copF keys x).kind, .string (str (copF keys x).tag), .string (str (copF keys x).key), .slice a1 (copF keys x).as.length (copF keys x).as.length, .string (str (copF keys x).text), .slice a2 (copF keys x).kids.length (copF keys x).kids.length] ∧ RdSl rdAttr 2 G' (.slice a1 (copF keys x).as.length (copF keys x).as.length) (copF keys x).as ∧ RdSl rdNE 6 G' (.slice a2 (copF keys x).kids.length (copF keys x).kids.length) (copF keys x).kids) := by
 obtain ⟨nk, hOk⟩ := hok
 have hsm := alone_small hOk
 have bK := SK.bound
 have bA := SA.bound
 refine calls_start (vs := [_, _]) Tryz.func56 rfl (n := 38) rfl rfl ?_
 intro a F
 refine wp_seq <| w_reg <| rl_box F M rfl (cs := [.int .u8 (x.kind), .string (str (x.tag)), .string (str (x.key)), .slice (ta) (x.as.length) (tc), .string (str (x.text)), .slice (ka) (x.kids.length) (kc)]) rfl rfl ?_; clear F M a; intro b1 w a M F
 refine rl_alloc F M tok30 rfl rfl ?_; clear F M a; intro b2 w a M F
 refine rl_nil <| q_tn ?_
 iterate 2 (refine wp_seq ?_)
 refine w_reg <| rl_run F (run_move (F.ev rfl)) rfl ?_; clear F a; intro a F
 refine rl_run F (run_not (F.ev rfl)) rfl ?_; clear F a; intro a F
 refine rl_nil <| q_tn <| w_cut (fun a' w' => ∃ (kk9 : List UInt8), Fits 38 a' [(1, .bool (keys)), (2, .pointer (some ⟨b1, 0, none⟩)), (4, .pointer (some ⟨b2, 0, none⟩))] ∧ Mem w0 G (.blk b2 [.int .u8 (0), .string (str ([] : List UInt8)), .string (str ([] : List UInt8)), .slice none (0) (0), .string (str ([] : List UInt8)), .slice none (0) (0)] 30 :: .blk b1 [.int .u8 (x.kind), .string (str (x.tag)), .string (str (kk9)), .slice (ta) (x.as.length) (tc), .string (str (x.text)), .slice (ka) (x.kids.length) (kc)] 30 :: L) w' ∧ (kk9 = (if keys = true then x.key else []))) ?_ ?_
 ·skip
  refine w_cond F rfl ?_ ?_
  ·intro hc
   have h4b := hc; clear hc
   have h4 : (keys) = false := (of_not_t h4b)
   have h4c : (keys) = false := (of_not_t h4b)
   refine w_reg <| rl_run F (run_fieldAddr tok30.k rfl rfl (F.ev rfl)) rfl ?_; clear F a; intro a F
   refine rl_store1 F M tok9 rfl (k := 1) rfl rfl rfl rfl rfl ?_; clear F M a; intro w a M F
   refine rl_nil ?_
   exact ⟨([] : List UInt8), F.to ⟨rfl, rfl, rfl, trivial⟩, M, (by rw [if_neg (by simp_all)])⟩
  ·intro hc
   have h5b := hc; clear hc
   have h5 : (keys) = true := (of_not_f h5b)
   have h5c : (keys) = true := (of_not_f h5b)
   refine wp_skip ?_
   exact ⟨x.key, F.to ⟨rfl, rfl, rfl, trivial⟩, M, (by rw [if_pos (by simp_all)])⟩
 ·clear F M
  rintro a w ⟨kk9, F, M, hkk9⟩
  refine q_tn <| wp_seq <| w_reg <| rl_run F (run_fieldAddr tok30.k rfl rfl (F.ev rfl)) rfl ?_; clear F a; intro a F
  refine rl_run F (run_load1 (agf tok27 rfl) (F.ev rfl) (M.cellL (k := 1) rfl rfl)) rfl ?_; clear F a; intro a F
  refine rl_callL F ent86 rfl rfl (clonea_spec (xs := x.as) M SA (by omega)) ?_; clear F M a; rintro _ _ w a M ⟨ak6, nk6, ck6, csk6, rfl, rfl, hnk6, Ek6⟩ F
  subst hnk6
  have sh7 := M.row_bound (k := 0) rfl
  refine rl_callS F ent85 rfl rfl (clipa_spec M sh7.1 sh7.2) ?_; clear F M a; rintro _ w a M rfl F
  obtain ⟨hnz8, Gz8, az8, cz8, hGz8, hez8, Sz8, M⟩ := M.freeze_row mono_rdAttr (k := 0) rfl Ek6 (by decide)
  clear hez8 az8 cz8
  replace SA := SA.mono mono_rdAttr hGz8
  replace SK := SK.mono mono_rdN hGz8
  have S9 : RdSl rdAttr 2 Gz8 (.slice (ak6) ((x.as).length) ((x.as).length)) (x.as) := Sz8.clip
  refine rl_run F (run_fieldAddr tok30.k rfl rfl (F.ev rfl)) rfl ?_; clear F a; intro a F
  refine rl_store1 F M tok27 rfl (k := 1) rfl rfl rfl rfl rfl ?_; clear F M a; intro w a M F
  refine rl_nil <| q_tn <| wp_seq <| w_reg <| rl_run F (run_fieldAddr tok30.k rfl rfl (F.ev rfl)) rfl ?_; clear F a; intro a F
  refine rl_run F (run_load1 (agf tok28 rfl) (F.ev rfl) (M.cellL (k := 1) rfl rfl)) rfl ?_; clear F a; intro a F
  refine rl_run F (run_lenSl tok28.k (F.ev rfl)) rfl ?_; clear F a; intro a F
  refine rl_makeE (rd := rdNE) (Z := zeroN) F M tok28.k tok30 rfl (by decide) rfl rfl (l := x.kids.length) (by omega) rfl (by omega) (by show 104 * _ ≤ _; omega) (by omega) (by simp [ti30, Value.cells, Value.oneCell']) (rdNE_close (x := zeroN) ⟨by decide, by decide⟩ ⟨by decide, by decide, by decide⟩ RdSl.nil RdSl.nil) rfl ?_; clear F M a; intro bv10 csv10 w a M Ev10 F
  refine rl_run F (run_assign (F.ev rfl)) rfl ?_; clear F a; intro a F
  refine rl_nil <| q_tn ?_
  iterate 2 (refine wp_seq ?_)
  refine w_reg <| rl_run F (run_fieldAddr tok30.k rfl rfl (F.ev rfl)) rfl ?_; clear F a; intro a F
  refine rl_run F (run_load1 (agf tok28 rfl) (F.ev rfl) (M.cellL (k := 2) rfl rfl)) rfl ?_; clear F a; intro a F
  refine rl_run F (run_lenSl tok28.k (F.ev rfl)) rfl ?_; clear F a; intro a F
  refine rl_run F (run_move (F.ev rfl)) rfl ?_; clear F a; intro a F
  refine rl_nil <| q_tn <| wp_block <| w_loopN (fun m a' w' => ∃ (i : Nat), ∃ (cso : List Value), ∃ (ys : List NT), m = x.kids.length - i ∧ ∃ G11, Gle Gz8 G11 ∧ Fits 38 a' [(1, .bool (keys)), (2, .pointer (some ⟨b1, 0, none⟩)), (4, .pointer (some ⟨b2, 0, none⟩)), (5, .slice (some ⟨bv10, 0, none⟩) (x.kids.length) (x.kids.length)), (21, .slice (ka) (x.kids.length) (kc)), (22, .int .i64 (((x.kids.length : Nat) : Int))), (23, .int .i64 (((i : Nat) : Int)))] ∧ Mem w0 G11 (.row (.slice (some ⟨bv10, 0, none⟩) (x.kids.length) (x.kids.length)) (x.kids.length) (cso) 30 6 :: .blk b2 [.int .u8 (0), .string (str ([] : List UInt8)), .string (str ([] : List UInt8)), .slice none (0) (0), .string (str ([] : List UInt8)), .slice none (0) (0)] 30 :: .blk b1 [.int .u8 (x.kind), .string (str (x.tag)), .string (str (kk9)), .slice (ak6) ((x.as).length) ((x.as).length), .string (str (x.text)), .slice (ka) (x.kids.length) (kc)] 30 :: L) w' ∧ (i ≤ x.kids.length) ∧ (ys = (x.kids.take i).map (copF keys) ++ List.replicate (x.kids.length - i) zeroN) ∧ (Els rdNE 6 G11 cso ys)) _ ⟨0, csv10, _, rfl, Gz8, Gle.refl _, F.to ⟨rfl, rfl, rfl, rfl, rfl, rfl, rfl, trivial⟩, M, Nat.zero_le _, by simp, Ev10⟩ ?_
  clear F M
  rintro m a w ⟨i, cso, ys, rfl, G11, hG11, F, M, hi, hys, Eo⟩
  replace SA := SA.mono mono_rdAttr hG11
  replace SK := SK.mono mono_rdN hG11
  replace Sz8 := Sz8.mono mono_rdAttr hG11
  replace S9 := S9.mono mono_rdAttr hG11
  refine wp_seq <| w_reg <| rl_run F (run_lss (F.ev rfl) (F.ev rfl)) rfl ?_; clear F a; intro a F
  refine rl_nil <| q_tn <| wp_seq <| w_cond F rfl ?_ ?_
  ·intro hc
   have h12b := hc; clear hc
   have h12 : ((i : Nat) : Int) < ((x.kids.length : Nat) : Int) := of_decide_eq_true h12b
   refine wp_skip <| q_tn <| wp_seq <| wp_block <| wp_seq <| w_reg <| rl_run F (run_move (F.ev rfl)) rfl ?_; clear F a; intro a F
   obtain ⟨Xe13, hXe13⟩ := get_of_lt (xs := x.kids) (i := i) (by omega)
   obtain ⟨be13, oe13, _, Ie13, _, Ae13, hTe13⟩ := SK.at hXe13
   obtain ⟨tae13, tce13, kae13, kce13, rfl, hke13, hle13, SAe13, SKe13⟩ := rdT_open hTe13
   refine rl_run F (run_indexI tok28.k tok30 (F.ev rfl) (F.ev rfl) (by omega) Ie13) rfl ?_; clear F a; intro a F
   refine rl_run F (run_loadA tok30 rfl (F.ev rfl) (cs := [.int .u8 (Xe13.kind), .string (str (Xe13.tag)), .string (str (Xe13.key)), .slice (tae13) (Xe13.as.length) (tce13), .string (str (Xe13.text)), .slice (kae13) (Xe13.kids.length) (kce13)]) rfl (M.cellsA Ae13 0 (by omega) rfl)) rfl ?_; clear F a; intro a F
   refine rl_alloc F M tok30 rfl rfl ?_; clear F M a; intro b14 w a M F
   refine rl_run F (run_assign (F.ev rfl)) rfl ?_; clear F a; intro a F
   refine rl_storeA F M tok30 (k := 0) rfl rfl rfl (us := [.int .u8 (Xe13.kind), .string (str (Xe13.tag)), .string (str (Xe13.key)), .slice (tae13) (Xe13.as.length) (tce13), .string (str (Xe13.text)), .slice (kae13) (Xe13.kids.length) (kce13)]) rfl rfl (by simp [Value.oneCell']) (by simp) ?_; clear F M a; intro w a M F
   change Mem w0 G11 (.blk b14 [.int .u8 (Xe13.kind), .string (str (Xe13.tag)), .string (str (Xe13.key)), .slice (tae13) (Xe13.as.length) (tce13), .string (str (Xe13.text)), .slice (kae13) (Xe13.kids.length) (kce13)] 30 :: _ :: _ :: .blk b1 [.int .u8 (x.kind), .string (str (x.tag)), .string (str (kk9)), .slice (ak6) ((x.as).length) ((x.as).length), .string (str (x.text)), .slice (ka) (x.kids.length) (kc)] 30 :: L) _ at M
   refine rl_nil <| q_tn ?_
   have hyl : ys.length = x.kids.length := by rw [hys]; simp; omega
   refine w_reg ?_
   iterate 2 (refine rl_run F (run_move (F.ev rfl)) rfl ?_; clear F a; intro a F)
   refine rl_run F (run_loadA tok30 rfl (F.ev rfl) (cs := [.int .u8 (Xe13.kind), .string (str (Xe13.tag)), .string (str (Xe13.key)), .slice (tae13) (Xe13.as.length) (tce13), .string (str (Xe13.text)), .slice (kae13) (Xe13.kids.length) (kce13)]) rfl (M.cellsL (k := 0) rfl rfl)) rfl ?_; clear F a; intro a F
   refine rl_run F (run_move (F.ev rfl)) rfl ?_; clear F a; intro a F
   refine rl_call F ent56 rfl rfl (ih Xe13 (List.mem_of_getElem? hXe13) _ _ _ _ _ _ _ _ _ M hke13 hle13 SAe13 SKe13 (alone_kids hOk (List.mem_of_getElem? hXe13))) ?_; clear F M a; rintro _ Gk16 w a hGk16 M ⟨tak16, kak16, rfl, SAk16, SKk16⟩ F
   replace SA := SA.mono mono_rdAttr hGk16
   replace SK := SK.mono mono_rdN hGk16
   replace Sz8 := Sz8.mono mono_rdAttr hGk16
   replace S9 := S9.mono mono_rdAttr hGk16
   replace Eo := Eo.mono mono_rdNE hGk16
   replace Ae13 := Ae13.mono hGk16
   replace SAe13 := SAe13.mono mono_rdAttr hGk16
   replace SKe13 := SKe13.mono mono_rdN hGk16
   have hkk16 : inKind .u8 (copF (keys) Xe13).kind := by rw [copF_kind]; exact hke13
   have hlk16 := copF_len (keys := (keys)) (x := Xe13) hle13
   obtain ⟨Xe17, hXe17⟩ := get_of_lt (xs := ys) (i := i) (by omega)
   obtain ⟨be17, _, Ie17, hme17, _, Ae17, hTe17⟩ := M.atRow (k := 1) rfl (by decide) Eo hXe17
   obtain ⟨tae17, kae17, rfl, hke17, hle17, SAe17, SKe17⟩ := rdNE_open hTe17
   refine rl_run F (run_indexI tok28.k tok30 (F.ev rfl) (F.ev rfl) (by omega) Ie17) rfl ?_; clear F a; intro a F
   refine rl_storeEl F M tok30 (k := 1) rfl rfl Eo Ie17 (lt_of_get hXe17) rfl rfl (us := [.int .u8 ((copF (keys) Xe13).kind), .string (str ((copF (keys) Xe13).tag)), .string (str ((copF (keys) Xe13).key)), .slice (tak16) ((copF (keys) Xe13).as.length) ((copF (keys) Xe13).as.length), .string (str ((copF (keys) Xe13).text)), .slice (kak16) ((copF (keys) Xe13).kids.length) ((copF (keys) Xe13).kids.length)]) rfl rfl (by simp [Value.oneCell']) (X' := copF keys Xe13) (rdNE_close (x := copF keys Xe13) hkk16 hlk16 SAk16 SKk16) ?_; clear F M a; intro csu18 w a M Eu18 F
   refine rl_nil <| q_bn <| q_tn <| w_reg <| rl_run F (run_addi (F.ev rfl) (F.ev rfl) (in_i64 (by omega) (by omega))) rfl ?_; clear F a; intro a F
   refine rl_run F (run_move (F.ev rfl)) rfl ?_; clear F a; intro a F
   refine rl_nil <| q_tn ?_
   exact ⟨_, by omega, i + 1, csu18, _, rfl, Gk16, (hG11.trans hGk16), F.to ⟨rfl, rfl, rfl, rfl, rfl, rfl, rfl, trivial⟩, (M.weaken (.cons _ (.cons_cons _ (.cons_cons _ (.cons_cons _ (List.Sublist.refl _)))))), by omega, by rw [hys]; exact map_fill hXe13, Eu18⟩
  ·intro hc
   have h19b := hc; clear hc
   have h19 : ¬ (((i : Nat) : Int) < ((x.kids.length : Nat) : Int)) := of_decide_eq_false h19b
   refine wp_exit ?_
   iterate 2 (refine q_te ?_)
   refine q_bh <| q_tn <| wp_seq ?_
   rw [List.take_of_length_le (by omega), show x.kids.length - i = 0 by omega, List.replicate_zero, List.append_nil] at hys
   subst hys
   obtain ⟨hnz20, Gz20, az20, cz20, hGz20, hez20, Sz20, M⟩ := M.freeze_row mono_rdNE (k := 0) rfl Eo (by decide)
   clear hez20 az20 cz20
   replace SA := SA.mono mono_rdAttr hGz20
   replace SK := SK.mono mono_rdN hGz20
   replace Sz8 := Sz8.mono mono_rdAttr hGz20
   replace S9 := S9.mono mono_rdAttr hGz20
   clear hnz20
   refine w_reg <| rl_run F (run_move (F.ev rfl)) rfl ?_; clear F a; intro a F
   refine rl_run F (run_fieldAddr tok30.k rfl rfl (F.ev rfl)) rfl ?_; clear F a; intro a F
   refine rl_store1 F M tok28 rfl (k := 1) rfl rfl rfl rfl rfl ?_; clear F M a; intro w a M F
   refine rl_nil <| q_tn <| wp_seq <| w_reg <| rl_run F (run_loadA tok30 rfl (F.ev rfl) (cs := [.int .u8 (x.kind), .string (str (x.tag)), .string (str (kk9)), .slice (ak6) ((x.as).length) ((x.as).length), .string (str (x.text)), .slice (some ⟨bv10, 0, none⟩) (x.kids.length) (x.kids.length)]) rfl (M.cellsL (k := 1) rfl rfl)) rfl ?_; clear F a; intro a F
   refine rl_storeA F M tok30 (k := 0) rfl rfl rfl (us := [.int .u8 (x.kind), .string (str (x.tag)), .string (str (kk9)), .slice (ak6) ((x.as).length) ((x.as).length), .string (str (x.text)), .slice (some ⟨bv10, 0, none⟩) (x.kids.length) (x.kids.length)]) rfl rfl (by simp [Value.oneCell']) (by simp) ?_; clear F M a; intro w a M F
   change Mem w0 Gz20 (.blk b2 [.int .u8 (x.kind), .string (str (x.tag)), .string (str (kk9)), .slice (ak6) ((x.as).length) ((x.as).length), .string (str (x.text)), .slice (some ⟨bv10, 0, none⟩) (x.kids.length) (x.kids.length)] 30 :: .blk b1 [.int .u8 (x.kind), .string (str (x.tag)), .string (str (kk9)), .slice (ak6) ((x.as).length) ((x.as).length), .string (str (x.text)), .slice (some ⟨bv10, 0, none⟩) (x.kids.length) (x.kids.length)] 30 :: L) _ at M
   refine rl_nil <| q_tn <| wp_ret <| fin_c F M (k := 0) rfl rfl tok30 rfl rfl rfl ?_
   have he9 : (x.kids.map (copF keys)).length = x.kids.length := by simp
   rw [copF_eq]
   subst hkk9
   exact ⟨_, ((hGz8.trans hG11).trans hGz20), M.weaken (.cons _ (.cons _ (List.Sublist.refl _))), _, _, by show _ = Value.agg #[_, _, _, _, _, Value.slice _ (x.kids.map (copF keys)).length (x.kids.map (copF keys)).length]; rw [he9]; rfl, S9, by show RdSl rdNE 6 _ (.slice _ (x.kids.map (copF keys)).length (x.kids.map (copF keys)).length) (x.kids.map (copF keys)); rw [he9]; exact Sz20⟩
theorem copied_all (x : NT) : CopP x := by
 induction x using Tr.ind with
 | _ x ih => intro w0 w G L ta ka tc kc keys M hk hl SA SK hok; exact copied_step ih M hk hl SA SK hok
theorem valid_ok {x : NT} (h : Valid x) : ∃ n, Tr.Ok Alone n x := ⟨6, h.1⟩
open Classical in
/-- The stripped tree of a valid one. -/
noncomputable def strF (x : NT) : NT := if Valid x then stripF x else zeroN
open Classical in
noncomputable def cpyF (x : NT) : NT := if Valid x then x else zeroN
theorem strF_yes {x : NT} (h : Valid x) : strF x = copF false x := by unfold strF; rw [if_pos h]; rfl
theorem strF_no {x : NT} (h : ¬ Valid x) : strF x = zeroN := by unfold strF; rw [if_neg h]
theorem cpyF_yes {x : NT} (h : Valid x) : cpyF x = copF true x := by unfold cpyF; rw [if_pos h]; rfl
theorem cpyF_no {x : NT} (h : ¬ Valid x) : cpyF x = zeroN := by unfold cpyF; rw [if_neg h]
theorem strip_spec {w0 w : World} {G : Ghost} {L : List Res} (M : Mem w0 G L w) {x : NT} {ta : Option Addr} {tc : Nat} {ka : Option Addr} {kc : Nat} (hk : inKind .u8 x.kind) (hl : (x.tag.length ≤ 9223372036854775807 ∧ x.key.length ≤ 9223372036854775807 ∧ x.text.length ≤ 9223372036854775807)) (SA : RdSl rdAttr 2 G (.slice ta x.as.length tc) x.as) (SK : RdSl rdN 6 G (.slice ka x.kids.length kc) x.kids) : Calls Tryz.prog 42 #[.agg #[.int .u8 (x.kind), .string (str (x.tag)), .string (str (x.key)), .slice (ta) (x.as.length) (tc), .string (str (x.text)), .slice (ka) (x.kids.length) (kc)]] w (Ret w0 G L fun G' v => ∃ a1 a2, v = .agg #[.int .u8 (strF x).kind, .string (str (strF x).tag), .string (str (strF x).key), .slice a1 (strF x).as.length (strF x).as.length, .string (str (strF x).text), .slice a2 (strF x).kids.length (strF x).kids.length] ∧ inKind .u8 (strF x).kind ∧ ((strF x).tag.length ≤ 9223372036854775807 ∧ (strF x).key.length ≤ 9223372036854775807 ∧ (strF x).text.length ≤ 9223372036854775807) ∧ RdSl rdAttr 2 G' (.slice a1 (strF x).as.length (strF x).as.length) (strF x).as ∧ RdSl rdNE 6 G' (.slice a2 (strF x).kids.length (strF x).kids.length) (strF x).kids) := by
 refine calls_start (vs := [_]) Tryz.func42 rfl (n := 9) rfl rfl ?_
 intro a F
 refine wp_seq <| w_reg <| rl_box F M rfl (cs := [.int .u8 (x.kind), .string (str (x.tag)), .string (str (x.key)), .slice (ta) (x.as.length) (tc), .string (str (x.text)), .slice (ka) (x.kids.length) (kc)]) rfl rfl ?_; clear F M a; intro b1 w a M F
 refine rl_alloc F M tok30 rfl rfl ?_; clear F M a; intro b2 w a M F
 refine rl_nil <| q_tn ?_
 iterate 2 (refine wp_seq ?_)
 refine w_reg <| rl_run F (run_loadA tok30 rfl (F.ev rfl) (cs := [.int .u8 (x.kind), .string (str (x.tag)), .string (str (x.key)), .slice (ta) (x.as.length) (tc), .string (str (x.text)), .slice (ka) (x.kids.length) (kc)]) rfl (M.cellsL (k := 1) rfl rfl)) rfl ?_; clear F a; intro a F
 refine rl_callS F ent30 rfl rfl (ncheck_spec (x := x) M hk hl SA SK) ?_; clear F M a; rintro _ w a M rfl F
 refine rl_run F (run_nei (F.ev rfl) (F.ev rfl)) rfl ?_; clear F a; intro a F
 refine rl_nil <| q_tn <| w_cond F rfl ?_ ?_
 ·intro hc
  have h4b := hc; clear hc
  have h4 : ¬ (chkF x = 0) := of_decide_eq_false (of_not_t h4b)
  have h4c : (decide (chkF x = 0)) = false := (of_not_t h4b)
  refine wp_seq <| w_reg <| rl_run F (run_buildS (cs := [.int .u8 (0), .string (str ([] : List UInt8)), .string (str ([] : List UInt8)), .slice none (0) (0), .string (str ([] : List UInt8)), .slice none (0) (0)]) (ps := []) tok30.k rfl tok30 (F.evp rfl) rfl) rfl ?_; clear F a; intro a F
  refine rl_storeA F M tok30 (k := 0) rfl rfl rfl (us := [.int .u8 (0), .string (str ([] : List UInt8)), .string (str ([] : List UInt8)), .slice none (0) (0), .string (str ([] : List UInt8)), .slice none (0) (0)]) rfl rfl (by simp [Value.oneCell']) (by simp) ?_; clear F M a; intro w a M F
  change Mem w0 G (.blk b2 [.int .u8 (0), .string (str ([] : List UInt8)), .string (str ([] : List UInt8)), .slice none (0) (0), .string (str ([] : List UInt8)), .slice none (0) (0)] 30 :: _ :: L) _ at M
  refine rl_nil <| q_tn <| wp_ret <| q_tr <| fin_c F M (k := 0) rfl rfl tok30 rfl rfl rfl ?_
  have hV : ¬ Valid x := fun h_ => by have := chkF_yes h_; omega
  rw [strF_no hV]
  exact ⟨_, (Gle.refl _), M.weaken (.cons _ (.cons _ (List.Sublist.refl _))), none, none, rfl, ⟨by decide, by decide⟩, ⟨by decide, by decide, by decide⟩, RdSl.nil, RdSl.nil⟩
 ·intro hc
  have h5b := hc; clear hc
  have h5 : chkF x = 0 := of_decide_eq_true (of_not_f h5b)
  have h5c : (decide (chkF x = 0)) = true := (of_not_f h5b)
  refine wp_skip <| q_tn <| wp_seq <| w_reg <| rl_run F (run_loadA tok30 rfl (F.ev rfl) (cs := [.int .u8 (x.kind), .string (str (x.tag)), .string (str (x.key)), .slice (ta) (x.as.length) (tc), .string (str (x.text)), .slice (ka) (x.kids.length) (kc)]) rfl (M.cellsL (k := 1) rfl rfl)) rfl ?_; clear F a; intro a F
  refine rl_call F ent56 rfl rfl (copied_all x _ _ _ _ _ _ _ _ _ M hk hl SA SK (valid_ok (chkF_zero.1 (by omega)))) ?_; clear F M a; rintro _ Gk6 w a hGk6 M ⟨tak6, kak6, rfl, SAk6, SKk6⟩ F
  replace SA := SA.mono mono_rdAttr hGk6
  replace SK := SK.mono mono_rdN hGk6
  have hkk6 : inKind .u8 (copF false x).kind := by rw [copF_kind]; exact hk
  have hlk6 := copF_len (keys := false) (x := x) hl
  refine rl_storeA F M tok30 (k := 0) rfl rfl rfl (us := [.int .u8 ((copF false x).kind), .string (str ((copF false x).tag)), .string (str ((copF false x).key)), .slice (tak6) ((copF false x).as.length) ((copF false x).as.length), .string (str ((copF false x).text)), .slice (kak6) ((copF false x).kids.length) ((copF false x).kids.length)]) rfl rfl (by simp [Value.oneCell']) (by simp) ?_; clear F M a; intro w a M F
  change Mem w0 Gk6 (.blk b2 [.int .u8 ((copF false x).kind), .string (str ((copF false x).tag)), .string (str ((copF false x).key)), .slice (tak6) ((copF false x).as.length) ((copF false x).as.length), .string (str ((copF false x).text)), .slice (kak6) ((copF false x).kids.length) ((copF false x).kids.length)] 30 :: _ :: L) _ at M
  refine rl_nil <| q_tn <| wp_ret <| fin_c F M (k := 0) rfl rfl tok30 rfl rfl rfl ?_
  have hV : Valid x := chkF_zero.1 (by omega)
  rw [strF_yes hV]
  exact ⟨_, hGk6, M.weaken (.cons _ (.cons _ (List.Sublist.refl _))), _, _, rfl, hkk6, hlk6, SAk6, SKk6⟩
theorem strip_at {w0 w : World} {G : Ghost} {L : List Res} (M : Mem w0 G L w) {x : NT} {ta : Option Addr} {tc : Nat} {ka : Option Addr} {kc : Nat} (hk : inKind .u8 x.kind) (hl : (x.tag.length ≤ 9223372036854775807 ∧ x.key.length ≤ 9223372036854775807 ∧ x.text.length ≤ 9223372036854775807)) (SA : RdSl rdAttr 2 G (.slice ta x.as.length tc) x.as) (SK : RdSl rdN 6 G (.slice ka x.kids.length kc) x.kids) {y : NT} (hy : strF x = y) : Calls Tryz.prog 42 #[.agg #[.int .u8 (x.kind), .string (str (x.tag)), .string (str (x.key)), .slice (ta) (x.as.length) (tc), .string (str (x.text)), .slice (ka) (x.kids.length) (kc)]] w (Ret w0 G L fun G' v => ∃ a1 a2, v = .agg #[.int .u8 y.kind, .string (str y.tag), .string (str y.key), .slice a1 y.as.length y.as.length, .string (str y.text), .slice a2 y.kids.length y.kids.length] ∧ inKind .u8 y.kind ∧ (y.tag.length ≤ 9223372036854775807 ∧ y.key.length ≤ 9223372036854775807 ∧ y.text.length ≤ 9223372036854775807) ∧ RdSl rdAttr 2 G' (.slice a1 y.as.length y.as.length) y.as ∧ RdSl rdNE 6 G' (.slice a2 y.kids.length y.kids.length) y.kids) := by
 subst hy; exact strip_spec M hk hl SA SK
def rdI : Rd Int := fun _ cs x => cs = [.int .i64 x] ∧ inKind .i64 x
theorem mono_rdI : Mono rdI := fun _ _ _ _ _ h => h
/-- The node at a path. -/
def atF : NT → List Int → Option NT
 | x, [] => some x
 | x, i :: l => if i < 0 ∨ (x.kids.length : Int) ≤ i then none else (x.kids[i.toNat]?).bind fun y => atF y l
theorem atF_app : ∀ (x : NT) (l : List Int) (i : Int), atF x (l ++ [i]) = (atF x l).bind fun y => atF y [i]
 | x, [], i => rfl
 | x, j :: l, i => by
  simp only [List.cons_append, atF]
  split
  ·rfl
  ·cases x.kids[j.toNat]? with
   | none => rfl
   | some y => simp only [Option.bind_some]; exact atF_app y l i
theorem atF_step {x y c : NT} {l : List Int} {i : Nat} {z : Int} {q : Nat} (h : atF x (l.take i) = some y) (hz : l[i]? = some z) (hq : z = (q : Int)) (hc : y.kids[q]? = some c) : atF x (l.take (i + 1)) = some c := by
 have := lt_of_get hc
 subst hq
 rw [Tr.take_snoc' hz, atF_app, h]
 simp only [Option.bind_some, atF]
 rw [if_neg (by omega)]
 simp [hc]
theorem atF_more : ∀ (x : NT) (l r : List Int), atF x l = none → atF x (l ++ r) = none
 | x, [], r, h => by cases h
 | x, i :: l, r, h => by
  simp only [List.cons_append, atF] at h ⊢
  split
  ·rfl
  ·rename_i hn
   rw [if_neg hn] at h
   cases hk : x.kids[i.toNat]? with
   | none => rfl
   | some y => rw [hk] at h; simp only [Option.bind_some] at h ⊢; exact atF_more y l r h
theorem atF_stop {x y : NT} {l : List Int} {i : Nat} {z : Int} (h : atF x (l.take i) = some y) (hz : l[i]? = some z) (hn : z < 0 ∨ (y.kids.length : Int) ≤ z) : atF x l = none := by
 have h1 : atF x (l.take (i + 1)) = none := by
  rw [Tr.take_snoc' hz, atF_app, h]
  simp only [Option.bind_some, atF]
  rw [if_pos hn]
 have := atF_more x _ (l.drop (i + 1)) h1
 rwa [List.take_append_drop] at this
theorem atF_sub {n : Nat} : ∀ (x : NT) (l : List Int) (y : NT), (∃ n, Tr.Ok Alone n x) → atF x l = some y → ∃ m, Tr.Ok Alone m y
 | x, [], y, h, e => by simp only [atF, Option.some.injEq] at e; subst e; exact h
 | x, i :: l, y, ⟨n, h⟩, e => by
  simp only [atF] at e
  split at e
  ·cases e
  ·cases hk : x.kids[i.toNat]? with
   | none => rw [hk] at e; cases e
   | some c => rw [hk] at e; exact atF_sub (n := n) c l y (alone_kids h (List.mem_of_getElem? hk)) e
open Classical in
noncomputable def atE (x : NT) (l : List Int) : Int := if Valid x then (match atF x l with | none => 11 | some _ => 0) else 14
open Classical in
noncomputable def atN (x : NT) (l : List Int) : NT := if Valid x then (atF x l).getD zeroN else zeroN
theorem at_no {x : NT} {l : List Int} (h : ¬ Valid x) : atE x l = 14 ∧ atN x l = zeroN := ⟨by unfold atE; rw [if_neg h], by unfold atN; rw [if_neg h]⟩
theorem at_none {x : NT} {l : List Int} (h : Valid x) (e : atF x l = none) : atE x l = 11 ∧ atN x l = zeroN := ⟨by unfold atE; rw [if_pos h, e], by unfold atN; rw [if_pos h, e]; rfl⟩
theorem at_some {x y : NT} {l : List Int} (h : Valid x) (e : atF x l = some y) : atE x l = 0 ∧ atN x l = copF true y := ⟨by unfold atE; rw [if_pos h, e], by unfold atN; rw [if_pos h, e]; rfl⟩
theorem at_spec {w0 w : World} {G : Ghost} {L : List Res} (M : Mem w0 G L w) {x : NT} {ta : Option Addr} {tc : Nat} {ka : Option Addr} {kc : Nat} (hk : inKind .u8 x.kind) (hl : (x.tag.length ≤ 9223372036854775807 ∧ x.key.length ≤ 9223372036854775807 ∧ x.text.length ≤ 9223372036854775807)) (SA : RdSl rdAttr 2 G (.slice ta x.as.length tc) x.as) (SK : RdSl rdN 6 G (.slice ka x.kids.length kc) x.kids) {pa : Option Addr} {pc : Nat} {ps : List Int} (SP : RdSl rdI 1 G (.slice pa ps.length pc) ps) : Calls Tryz.prog 15 #[.agg #[.int .u8 (x.kind), .string (str (x.tag)), .string (str (x.key)), .slice (ta) (x.as.length) (tc), .string (str (x.text)), .slice (ka) (x.kids.length) (kc)], .slice pa ps.length pc] w (Ret w0 G L fun G' v => ∃ a1 a2, v = .tuple #[.agg #[.int .u8 (atN x ps).kind, .string (str (atN x ps).tag), .string (str (atN x ps).key), .slice a1 (atN x ps).as.length (atN x ps).as.length, .string (str (atN x ps).text), .slice a2 (atN x ps).kids.length (atN x ps).kids.length], .int .i64 (atE x ps)] ∧ inKind .u8 (atN x ps).kind ∧ ((atN x ps).tag.length ≤ 9223372036854775807 ∧ (atN x ps).key.length ≤ 9223372036854775807 ∧ (atN x ps).text.length ≤ 9223372036854775807) ∧ RdSl rdAttr 2 G' (.slice a1 (atN x ps).as.length (atN x ps).as.length) (atN x ps).as ∧ RdSl rdNE 6 G' (.slice a2 (atN x ps).kids.length (atN x ps).kids.length) (atN x ps).kids) := by
 refine calls_start (vs := [_, _]) Tryz.func15 rfl (n := 39) rfl rfl ?_
 intro a F
 refine wp_seq <| w_reg <| rl_box F M rfl (cs := [.int .u8 (x.kind), .string (str (x.tag)), .string (str (x.key)), .slice (ta) (x.as.length) (tc), .string (str (x.text)), .slice (ka) (x.kids.length) (kc)]) rfl rfl ?_; clear F M a; intro b1 w a M F
 refine rl_alloc F M tok30 rfl rfl ?_; clear F M a; intro b2 w a M F
 refine rl_run F (run_assign (F.ev rfl)) rfl ?_; clear F a; intro a F
 refine rl_nil <| q_tn ?_
 iterate 2 (refine wp_seq ?_)
 refine w_reg <| rl_run F (run_loadA tok30 rfl (F.ev rfl) (cs := [.int .u8 (x.kind), .string (str (x.tag)), .string (str (x.key)), .slice (ta) (x.as.length) (tc), .string (str (x.text)), .slice (ka) (x.kids.length) (kc)]) rfl (M.cellsL (k := 1) rfl rfl)) rfl ?_; clear F a; intro a F
 refine rl_callS F ent30 rfl rfl (ncheck_spec (x := x) M hk hl SA SK) ?_; clear F M a; rintro _ w a M rfl F
 refine rl_run F (run_assign (F.ev rfl)) rfl ?_; clear F a; intro a F
 refine rl_nil <| q_tn <| wp_seq <| w_reg <| rl_run F (run_move (F.ev rfl)) rfl ?_; clear F a; intro a F
 refine rl_run F (run_nei (F.ev rfl) (F.ev rfl)) rfl ?_; clear F a; intro a F
 refine rl_nil <| q_tn <| w_cond F rfl ?_ ?_
 ·intro hc
  have h4b := hc; clear hc
  have h4 : ¬ (chkF x = 0) := of_decide_eq_false (of_not_t h4b)
  have h4c : (decide (chkF x = 0)) = false := (of_not_t h4b)
  refine wp_seq <| w_reg <| rl_run F (run_buildS (cs := [.int .u8 (0), .string (str ([] : List UInt8)), .string (str ([] : List UInt8)), .slice none (0) (0), .string (str ([] : List UInt8)), .slice none (0) (0)]) (ps := []) tok30.k rfl tok30 (F.evp rfl) rfl) rfl ?_; clear F a; intro a F
  refine rl_run F (run_move (F.ev rfl)) rfl ?_; clear F a; intro a F
  refine rl_storeA F M tok30 (k := 0) rfl rfl rfl (us := [.int .u8 (0), .string (str ([] : List UInt8)), .string (str ([] : List UInt8)), .slice none (0) (0), .string (str ([] : List UInt8)), .slice none (0) (0)]) rfl rfl (by simp [Value.oneCell']) (by simp) ?_; clear F M a; intro w a M F
  change Mem w0 G (.blk b2 [.int .u8 (0), .string (str ([] : List UInt8)), .string (str ([] : List UInt8)), .slice none (0) (0), .string (str ([] : List UInt8)), .slice none (0) (0)] 30 :: _ :: L) _ at M
  refine rl_run F (run_assign (F.ev rfl)) rfl ?_; clear F a; intro a F
  refine rl_nil <| q_tn <| wp_ret <| q_tr <| fin_ct F M (k := 0) rfl rfl tok30 rfl rfl rfl rfl ?_
  have hV : ¬ Valid x := fun h_ => by have := chkF_yes h_; omega
  have h9 := at_no (l := ps) hV
  rw [h9.1, h9.2]
  exact ⟨_, (Gle.refl _), M.weaken (.cons _ (.cons _ (List.Sublist.refl _))), none, none, by rw [chkF_no hV]; rfl, ⟨by decide, by decide⟩, ⟨by decide, by decide, by decide⟩, RdSl.nil, RdSl.nil⟩
 ·intro hc
  have h5b := hc; clear hc
  have h5 : chkF x = 0 := of_decide_eq_true (of_not_f h5b)
  have h5c : (decide (chkF x = 0)) = true := (of_not_f h5b)
  refine wp_skip <| q_tn ?_
  iterate 2 (refine wp_seq ?_)
  have hV : Valid x := chkF_zero.1 (by omega)
  have bP := SP.bound
  refine w_reg <| rl_run F (run_move (F.ev rfl)) rfl ?_; clear F a; intro a F
  refine rl_run F (run_lenSl tok25.k (F.ev rfl)) rfl ?_; clear F a; intro a F
  refine rl_run F (run_move (F.ev rfl)) rfl ?_; clear F a; intro a F
  refine rl_nil <| q_tn <| wp_block <| w_loopN (fun m a' w' => ∃ (i : Nat), ∃ (y : NT), ∃ (tay : Option Addr), ∃ (kay : Option Addr), ∃ (tcy : Nat), ∃ (kcy : Nat), m = ps.length - i ∧ ∃ G6, Gle G G6 ∧ Fits 39 a' [(1, .slice (pa) (ps.length) (pc)), (2, .pointer (some ⟨b1, 0, none⟩)), (4, .pointer (some ⟨b2, 0, none⟩)), (5, .int .i64 (0)), (15, .slice (pa) (ps.length) (pc)), (16, .int .i64 (((ps.length : Nat) : Int))), (17, .int .i64 (((i : Nat) : Int)))] ∧ Mem w0 G6 (.blk b2 [.int .u8 (0), .string (str ([] : List UInt8)), .string (str ([] : List UInt8)), .slice none (0) (0), .string (str ([] : List UInt8)), .slice none (0) (0)] 30 :: .blk b1 [.int .u8 (y.kind), .string (str (y.tag)), .string (str (y.key)), .slice (tay) (y.as.length) (tcy), .string (str (y.text)), .slice (kay) (y.kids.length) (kcy)] 30 :: L) w' ∧ (i ≤ ps.length) ∧ (atF x (ps.take i) = some y) ∧ (inKind .u8 y.kind) ∧ ((y.tag.length ≤ 9223372036854775807 ∧ y.key.length ≤ 9223372036854775807 ∧ y.text.length ≤ 9223372036854775807)) ∧ (RdSl rdAttr 2 G6 (.slice tay y.as.length tcy) y.as) ∧ (RdSl rdN 6 G6 (.slice kay y.kids.length kcy) y.kids)) _ ⟨0, x, (ta), (ka), (tc), (kc), rfl, G, Gle.refl _, F.to ⟨rfl, rfl, rfl, rfl, rfl, rfl, rfl, trivial⟩, M, Nat.zero_le _, rfl, hk, hl, SA, SK⟩ ?_
  clear F M
  rintro m a w ⟨i, y, tay, kay, tcy, kcy, rfl, G6, hG6, F, M, hi, hat, hky, hly, SAy, SKy⟩
  replace SA := SA.mono mono_rdAttr hG6
  replace SK := SK.mono mono_rdN hG6
  replace SP := SP.mono mono_rdI hG6
  refine wp_seq <| w_reg <| rl_run F (run_lss (F.ev rfl) (F.ev rfl)) rfl ?_; clear F a; intro a F
  refine rl_nil <| q_tn <| wp_seq <| w_cond F rfl ?_ ?_
  ·intro hc
   have h7b := hc; clear hc
   have h7 : ((i : Nat) : Int) < ((ps.length : Nat) : Int) := of_decide_eq_true h7b
   refine wp_skip <| q_tn <| wp_seq <| wp_block <| wp_seq <| w_reg ?_
   obtain ⟨Xe8, hXe8⟩ := get_of_lt (xs := ps) (i := i) (by omega)
   obtain ⟨be8, oe8, _, Ie8, _, Ae8, ⟨rfl, hbe81⟩⟩ := SP.at hXe8
   refine rl_run F (run_indexI tok25.k tok3 (F.ev rfl) (F.ev rfl) (by omega) Ie8) rfl ?_; clear F a; intro a F
   refine rl_run F (run_load1 (agf tok3 rfl) (F.ev rfl) (M.cellA Ae8 0 (by omega) rfl)) rfl ?_; clear F a; intro a F
   refine rl_run F (run_assign (F.ev rfl)) rfl ?_; clear F a; intro a F
   refine rl_nil <| q_tn ?_
   iterate 2 (refine wp_seq ?_)
   have bKy := SKy.bound
   refine w_reg <| rl_run F (run_move (F.ev rfl)) rfl ?_; clear F a; intro a F
   refine rl_run F (run_lss (F.ev rfl) (F.ev rfl)) rfl ?_; clear F a; intro a F
   refine rl_run F (run_move (F.ev rfl)) rfl ?_; clear F a; intro a F
   rcases Bool.eq_false_or_eq_true (decide (Xe8 < 0)) with hc | hc
   ·skip
    have h9b := hc; clear hc
    have h9 : Xe8 < 0 := of_decide_eq_true h9b
    iterate 5 (refine rl_guard_f F rfl rfl rfl h9b ?_; clear F a; intro a F)
    refine rl_run F (run_pick_t (F.ev rfl) h9b (F.ev rfl)) rfl ?_; clear F a; intro a F
    refine rl_nil <| q_tn <| w_cond_t F rfl rfl ?_
    refine wp_seq <| w_reg <| rl_run F (run_buildS (cs := [.int .u8 (0), .string (str ([] : List UInt8)), .string (str ([] : List UInt8)), .slice none (0) (0), .string (str ([] : List UInt8)), .slice none (0) (0)]) (ps := []) tok30.k rfl tok30 (F.evp rfl) rfl) rfl ?_; clear F a; intro a F
    refine rl_storeA F M tok30 (k := 0) rfl rfl rfl (us := [.int .u8 (0), .string (str ([] : List UInt8)), .string (str ([] : List UInt8)), .slice none (0) (0), .string (str ([] : List UInt8)), .slice none (0) (0)]) rfl rfl (by simp [Value.oneCell']) (by simp) ?_; clear F M a; intro w a M F
    change Mem w0 G6 (.blk b2 [.int .u8 (0), .string (str ([] : List UInt8)), .string (str ([] : List UInt8)), .slice none (0) (0), .string (str ([] : List UInt8)), .slice none (0) (0)] 30 :: _ :: L) _ at M
    refine rl_run F (run_assign (F.ev rfl)) rfl ?_; clear F a; intro a F
    refine rl_nil <| q_tn <| wp_ret <| q_tr <| q_br ?_
    iterate 2 (refine q_tr ?_)
    refine q_br <| q_tr <| fin_ct F M (k := 0) rfl rfl tok30 rfl rfl rfl rfl ?_
    have h9 := at_none hV (atF_stop hat hXe8 (by omega))
    rw [h9.1, h9.2]
    exact ⟨_, hG6, M.weaken (.cons _ (.cons _ (List.Sublist.refl _))), none, none, rfl, ⟨by decide, by decide⟩, ⟨by decide, by decide, by decide⟩, RdSl.nil, RdSl.nil⟩
   ·skip
    have h10b := hc; clear hc
    have h10 : ¬ (Xe8 < 0) := of_decide_eq_false h10b
    refine rl_guard_t F rfl rfl rfl h10b ?_
    refine rl_run F (run_move (F.ev rfl)) rfl ?_; clear F a; intro a F
    refine rl_guard_t F rfl rfl rfl h10b ?_
    refine rl_run F (run_fieldAddr tok30.k rfl rfl (F.ev rfl)) rfl ?_; clear F a; intro a F
    refine rl_guard_t F rfl rfl rfl h10b ?_
    refine rl_run F (run_load1 (agf tok28 rfl) (F.ev rfl) (M.cellL (k := 1) rfl rfl)) rfl ?_; clear F a; intro a F
    refine rl_guard_t F rfl rfl rfl h10b ?_
    refine rl_run F (run_lenSl tok28.k (F.ev rfl)) rfl ?_; clear F a; intro a F
    refine rl_guard_t F rfl rfl rfl h10b ?_
    refine rl_run F (run_geq (F.ev rfl) (F.ev rfl)) rfl ?_; clear F a; intro a F
    refine rl_run F (run_pick_f (F.ev rfl) h10b (F.ev rfl)) rfl ?_; clear F a; intro a F
    refine rl_nil <| q_tn <| w_cond F rfl ?_ ?_
    ·intro hc
     have h11b := hc; clear hc
     have h11 : ((y.kids.length : Nat) : Int) ≤ Xe8 := of_decide_eq_true h11b
     refine wp_seq <| w_reg <| rl_run F (run_buildS (cs := [.int .u8 (0), .string (str ([] : List UInt8)), .string (str ([] : List UInt8)), .slice none (0) (0), .string (str ([] : List UInt8)), .slice none (0) (0)]) (ps := []) tok30.k rfl tok30 (F.evp rfl) rfl) rfl ?_; clear F a; intro a F
     refine rl_storeA F M tok30 (k := 0) rfl rfl rfl (us := [.int .u8 (0), .string (str ([] : List UInt8)), .string (str ([] : List UInt8)), .slice none (0) (0), .string (str ([] : List UInt8)), .slice none (0) (0)]) rfl rfl (by simp [Value.oneCell']) (by simp) ?_; clear F M a; intro w a M F
     change Mem w0 G6 (.blk b2 [.int .u8 (0), .string (str ([] : List UInt8)), .string (str ([] : List UInt8)), .slice none (0) (0), .string (str ([] : List UInt8)), .slice none (0) (0)] 30 :: _ :: L) _ at M
     refine rl_run F (run_assign (F.ev rfl)) rfl ?_; clear F a; intro a F
     refine rl_nil <| q_tn <| wp_ret <| q_tr <| q_br ?_
     iterate 2 (refine q_tr ?_)
     refine q_br <| q_tr <| fin_ct F M (k := 0) rfl rfl tok30 rfl rfl rfl rfl ?_
     have h9 := at_none hV (atF_stop hat hXe8 (by omega))
     rw [h9.1, h9.2]
     exact ⟨_, hG6, M.weaken (.cons _ (.cons _ (List.Sublist.refl _))), none, none, rfl, ⟨by decide, by decide⟩, ⟨by decide, by decide, by decide⟩, RdSl.nil, RdSl.nil⟩
    ·intro hc
     have h12b := hc; clear hc
     have h12 : ¬ (((y.kids.length : Nat) : Int) ≤ Xe8) := of_decide_eq_false h12b
     refine wp_skip <| q_tn ?_
     obtain ⟨q9, hq9⟩ : ∃ q : Nat, Xe8 = (q : Int) := ⟨Xe8.toNat, by omega⟩
     rw [hq9] at F
     refine w_reg <| rl_run F (run_fieldAddr tok30.k rfl rfl (F.ev rfl)) rfl ?_; clear F a; intro a F
     refine rl_run F (run_load1 (agf tok28 rfl) (F.ev rfl) (M.cellL (k := 1) rfl rfl)) rfl ?_; clear F a; intro a F
     refine rl_run F (run_move (F.ev rfl)) rfl ?_; clear F a; intro a F
     obtain ⟨Xe13, hXe13⟩ := get_of_lt (xs := y.kids) (i := q9) (by omega)
     obtain ⟨be13, oe13, _, Ie13, _, Ae13, hTe13⟩ := SKy.at hXe13
     obtain ⟨tae13, tce13, kae13, kce13, rfl, hke13, hle13, SAe13, SKe13⟩ := rdT_open hTe13
     refine rl_run F (run_indexI tok28.k tok30 (F.ev rfl) (F.ev rfl) (by omega) Ie13) rfl ?_; clear F a; intro a F
     refine rl_run F (run_loadA tok30 rfl (F.ev rfl) (cs := [.int .u8 (Xe13.kind), .string (str (Xe13.tag)), .string (str (Xe13.key)), .slice (tae13) (Xe13.as.length) (tce13), .string (str (Xe13.text)), .slice (kae13) (Xe13.kids.length) (kce13)]) rfl (M.cellsA Ae13 0 (by omega) rfl)) rfl ?_; clear F a; intro a F
     refine rl_storeA F M tok30 (k := 1) rfl rfl rfl (us := [.int .u8 (Xe13.kind), .string (str (Xe13.tag)), .string (str (Xe13.key)), .slice (tae13) (Xe13.as.length) (tce13), .string (str (Xe13.text)), .slice (kae13) (Xe13.kids.length) (kce13)]) rfl rfl (by simp [Value.oneCell']) (by simp) ?_; clear F M a; intro w a M F
     change Mem w0 G6 (_ :: .blk b1 [.int .u8 (Xe13.kind), .string (str (Xe13.tag)), .string (str (Xe13.key)), .slice (tae13) (Xe13.as.length) (tce13), .string (str (Xe13.text)), .slice (kae13) (Xe13.kids.length) (kce13)] 30 :: L) _ at M
     refine rl_nil <| q_bn <| q_tn <| w_reg <| rl_run F (run_addi (F.ev rfl) (F.ev rfl) (in_i64 (by omega) (by omega))) rfl ?_; clear F a; intro a F
     refine rl_run F (run_move (F.ev rfl)) rfl ?_; clear F a; intro a F
     refine rl_nil <| q_tn ?_
     exact ⟨_, by omega, i + 1, Xe13, (tae13), (kae13), (tce13), (kce13), rfl, G6, hG6, F.to ⟨rfl, rfl, rfl, rfl, rfl, rfl, rfl, trivial⟩, M, by omega, atF_step hat hXe8 hq9 hXe13, hke13, hle13, SAe13, SKe13⟩
  ·intro hc
   have h14b := hc; clear hc
   have h14 : ¬ (((i : Nat) : Int) < ((ps.length : Nat) : Int)) := of_decide_eq_false h14b
   refine wp_exit ?_
   iterate 2 (refine q_te ?_)
   refine q_bh <| q_tn <| wp_seq <| w_reg <| rl_run F (run_loadA tok30 rfl (F.ev rfl) (cs := [.int .u8 (y.kind), .string (str (y.tag)), .string (str (y.key)), .slice (tay) (y.as.length) (tcy), .string (str (y.text)), .slice (kay) (y.kids.length) (kcy)]) rfl (M.cellsL (k := 1) rfl rfl)) rfl ?_; clear F a; intro a F
   refine rl_call F ent56 rfl rfl (copied_all y _ _ _ _ _ _ _ _ _ M hky hly SAy SKy (atF_sub (n := 0) x ps y (valid_ok hV) (by rw [← hat, List.take_of_length_le (by omega)]))) ?_; clear F M a; rintro _ Gk15 w a hGk15 M ⟨tak15, kak15, rfl, SAk15, SKk15⟩ F
   replace SA := SA.mono mono_rdAttr hGk15
   replace SK := SK.mono mono_rdN hGk15
   replace SP := SP.mono mono_rdI hGk15
   replace SAy := SAy.mono mono_rdAttr hGk15
   replace SKy := SKy.mono mono_rdN hGk15
   have hkk15 : inKind .u8 (copF true y).kind := by rw [copF_kind]; exact hky
   have hlk15 := copF_len (keys := true) (x := y) hly
   refine rl_storeA F M tok30 (k := 0) rfl rfl rfl (us := [.int .u8 ((copF true y).kind), .string (str ((copF true y).tag)), .string (str ((copF true y).key)), .slice (tak15) ((copF true y).as.length) ((copF true y).as.length), .string (str ((copF true y).text)), .slice (kak15) ((copF true y).kids.length) ((copF true y).kids.length)]) rfl rfl (by simp [Value.oneCell']) (by simp) ?_; clear F M a; intro w a M F
   change Mem w0 Gk15 (.blk b2 [.int .u8 ((copF true y).kind), .string (str ((copF true y).tag)), .string (str ((copF true y).key)), .slice (tak15) ((copF true y).as.length) ((copF true y).as.length), .string (str ((copF true y).text)), .slice (kak15) ((copF true y).kids.length) ((copF true y).kids.length)] 30 :: _ :: L) _ at M
   refine rl_run F (run_assign (F.ev rfl)) rfl ?_; clear F a; intro a F
   refine rl_nil <| q_tn <| wp_ret <| fin_ct F M (k := 0) rfl rfl tok30 rfl rfl rfl rfl ?_
   rw [List.take_of_length_le (by omega)] at hat
   rw [(at_some hV hat).1, (at_some hV hat).2]
   exact ⟨_, (hG6.trans hGk15), M.weaken (.cons _ (.cons _ (List.Sublist.refl _))), _, _, rfl, hkk15, hlk15, SAk15, SKk15⟩
end Go.Proofs.YtlnehkjmmegkhaaGreat
