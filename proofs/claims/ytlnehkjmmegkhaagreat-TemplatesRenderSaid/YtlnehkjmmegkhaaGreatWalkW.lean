/- The walks, part W. -/
import Derived.Test.YtlnehkjmmegkhaaGreatWalkU
namespace Go.Proofs.YtlnehkjmmegkhaaGreat
open Go Go.Y Go.Proofs
set_option linter.unusedSimpArgs false
set_option linter.unusedVariables false
theorem sizes_each {x : ItemD} {tag : List UInt8} {al : List SlotD} : ∀ l : List (List UInt8), Tr.sizes (l.map (eachN x tag al)) = 2 * l.length
  | [] => rfl
  | m :: l => by simp only [List.map_cons, Tr.sizes, sizes_each l, eachN, Tr.size_eq, Tr.kids, wordsN, List.length_cons]; omega
theorem made_size {x : ItemD} (p : PT) : ∀ n, Tr.Ok AloneP n p → Tr.sizes (madeF x p) = ndF x.marks.length p := by
  induction p using Tr.ind with
  | _ p ih =>
    intro n h
    cases n with
    | zero => exact h.elim
    | succ n =>
      have hk : ∀ l : List PT, (∀ c ∈ l, c ∈ p.kids) → Tr.sizes (madesF x l) = ndFs x.marks.length l := by
        intro l
        induction l with
        | nil => intro _; rfl
        | cons c l ih2 =>
          intro hl
          rw [madesF, Tr.sizes_append, ndFs, ih c (hl c (by simp)) n (h.2 c (hl c (by simp))), ih2 fun d hd => hl d (by simp [hd])]
      rw [ndF_eq]
      rcases h.1 with ⟨e, _⟩ | ⟨e, _, _, _, _, e2⟩ | ⟨e, _, _, _, _, e2⟩ | ⟨e, _, _, _, _, e2⟩
      · rw [made1 e, e, if_neg (by decide), ← hk p.kids fun c hc => hc]; simp only [Tr.sizes, Tr.size_eq, Tr.kids]; omega
      · rw [made2 e, e, if_neg (by decide), List.eq_nil_of_length_eq_zero e2]; rfl
      · rcases e with e | e
        · rw [made3 e, e, if_neg (by decide), List.eq_nil_of_length_eq_zero e2]; rfl
        · rw [made4 e, e, if_neg (by decide), List.eq_nil_of_length_eq_zero e2]; rfl
      · rw [made5 e, e, if_pos rfl, List.eq_nil_of_length_eq_zero e2, sizes_each]; rfl
theorem rend_cnt {p : PT} {x : ItemD} {m : Int} (hV : ValidP p) (h : rendE p x m = 0) : cntF (rendN p x m) = ndF x.marks.length p := by
  have hv := rend_valid h
  rw [cntF, if_pos hv, rendN_ok h]
  have h1 := made_size (x := x) p 6 hV.2.1
  rw [made1 hV.1] at h1
  simp only [Tr.sizes] at h1
  rw [← h1]; rfl
theorem nodes1z {x : PT} {m : Nat} (h : ValidP x) (hm : m ≤ 8) : (nodesF x (m : Int)).1 = ((ndF m x : Nat) : Int) := by rw [nodesF_ok h hm]
theorem nodes2z {x : PT} {m : Nat} (h : ValidP x) (hm : m ≤ 8) : (nodesF x (m : Int)).2 = 0 := by rw [nodesF_ok h hm]
def OwnP (x : NT) : Prop := ∀ (w0 w : World) (G : Ghost) (L : List Res) (ta ka : Option Addr), Mem w0 G L w → RdSl rdAttr 2 G (.slice ta x.as.length x.as.length) x.as → RdSl rdNE 6 G (.slice ka x.kids.length x.kids.length) x.kids →
    Calls Tryz.prog 29 #[.agg #[.int .u8 (x.kind), .string (str (x.tag)), .string (str (x.key)), .slice (ta) (x.as.length) (x.as.length), .string (str (x.text)), .slice (ka) (x.kids.length) (x.kids.length)]] w (RetS w0 G L fun v => v = .int .i64 1)
theorem own_step {x : NT} (ih : ∀ y ∈ x.kids, OwnP y) {w0 w : World} {G : Ghost} {L : List Res} (M : Mem w0 G L w) {ta ka : Option Addr} (SA : RdSl rdAttr 2 G (.slice ta x.as.length x.as.length) x.as) (SK : RdSl rdNE 6 G (.slice ka x.kids.length x.kids.length) x.kids) : Calls Tryz.prog 29 #[.agg #[.int .u8 (x.kind), .string (str (x.tag)), .string (str (x.key)), .slice (ta) (x.as.length) (x.as.length), .string (str (x.text)), .slice (ka) (x.kids.length) (x.kids.length)]] w (RetS w0 G L fun v => v = .int .i64 1) := by
  refine calls_start (vs := [_]) Tryz.func29 rfl (n := 34) rfl rfl ?_
  intro a F
  refine wp_seq <| w_reg <| rl_box F M rfl (cs := [.int .u8 (x.kind), .string (str (x.tag)), .string (str (x.key)), .slice (ta) (x.as.length) (x.as.length), .string (str (x.text)), .slice (ka) (x.kids.length) (x.kids.length)]) rfl rfl ?_; clear F M a; intro b1 w a M F
  refine rl_run F (run_assign (F.ev rfl)) rfl ?_; clear F a; intro a F
  refine rl_nil <| q_tn ?_
  iterate 2 (refine wp_seq ?_)
  have bK := SK.bound
  refine w_reg <| rl_run F (run_fieldAddr tok30.k rfl rfl (F.ev rfl)) rfl ?_; clear F a; intro a F
  refine rl_run F (run_load1 (agf tok27 rfl) (F.ev rfl) (M.cellL (k := 0) rfl rfl)) rfl ?_; clear F a; intro a F
  refine rl_run F (run_capSl tok27.k (F.ev rfl)) rfl ?_; clear F a; intro a F
  refine rl_run F (run_fieldAddr tok30.k rfl rfl (F.ev rfl)) rfl ?_; clear F a; intro a F
  refine rl_run F (run_load1 (agf tok27 rfl) (F.ev rfl) (M.cellL (k := 0) rfl rfl)) rfl ?_; clear F a; intro a F
  refine rl_run F (run_lenSl tok27.k (F.ev rfl)) rfl ?_; clear F a; intro a F
  refine rl_run F (run_nei (F.ev rfl) (F.ev rfl)) rfl ?_; clear F a; intro a F
  refine rl_run F (run_move (F.ev rfl)) rfl ?_; clear F a; intro a F
  refine rl_guard_t F rfl rfl rfl (not_f (decide_eq_true rfl)) ?_
  refine rl_run F (run_fieldAddr tok30.k rfl rfl (F.ev rfl)) rfl ?_; clear F a; intro a F
  refine rl_guard_t F rfl rfl rfl (not_f (decide_eq_true rfl)) ?_
  refine rl_run F (run_load1 (agf tok28 rfl) (F.ev rfl) (M.cellL (k := 0) rfl rfl)) rfl ?_; clear F a; intro a F
  refine rl_guard_t F rfl rfl rfl (not_f (decide_eq_true rfl)) ?_
  refine rl_run F (run_capSl tok28.k (F.ev rfl)) rfl ?_; clear F a; intro a F
  refine rl_guard_t F rfl rfl rfl (not_f (decide_eq_true rfl)) ?_
  refine rl_run F (run_fieldAddr tok30.k rfl rfl (F.ev rfl)) rfl ?_; clear F a; intro a F
  refine rl_guard_t F rfl rfl rfl (not_f (decide_eq_true rfl)) ?_
  refine rl_run F (run_load1 (agf tok28 rfl) (F.ev rfl) (M.cellL (k := 0) rfl rfl)) rfl ?_; clear F a; intro a F
  refine rl_guard_t F rfl rfl rfl (not_f (decide_eq_true rfl)) ?_
  refine rl_run F (run_lenSl tok28.k (F.ev rfl)) rfl ?_; clear F a; intro a F
  refine rl_guard_t F rfl rfl rfl (not_f (decide_eq_true rfl)) ?_
  refine rl_run F (run_nei (F.ev rfl) (F.ev rfl)) rfl ?_; clear F a; intro a F
  refine rl_run F (run_pick_f (F.ev rfl) (not_f (decide_eq_true rfl)) (F.ev rfl)) rfl ?_; clear F a; intro a F
  refine rl_nil <| q_tn <| w_cond_f F rfl (not_f (decide_eq_true rfl)) ?_
  refine wp_skip <| q_tn ?_
  iterate 2 (refine wp_seq ?_)
  refine w_reg <| rl_run F (run_assign (F.ev rfl)) rfl ?_; clear F a; intro a F
  refine rl_nil <| q_tn <| wp_block <| w_loopN (fun m a' w' => ∃ (i : Nat), m = x.kids.length - i ∧ Fits 34 a' [(1, .pointer (some ⟨b1, 0, none⟩)), (3, .int .i64 (((i : Nat) : Int)))] ∧ Mem w0 G (.blk b1 [.int .u8 (x.kind), .string (str (x.tag)), .string (str (x.key)), .slice (ta) (x.as.length) (x.as.length), .string (str (x.text)), .slice (ka) (x.kids.length) (x.kids.length)] 30 :: L) w' ∧ (i ≤ x.kids.length)) _ ⟨0, rfl, F.to ⟨rfl, rfl, trivial⟩, M, Nat.zero_le _⟩ ?_
  clear F M
  rintro m a w ⟨i, rfl, F, M, hi⟩
  iterate 2 (refine wp_seq ?_)
  refine w_reg <| rl_run F (run_move (F.ev rfl)) rfl ?_; clear F a; intro a F
  refine rl_run F (run_fieldAddr tok30.k rfl rfl (F.ev rfl)) rfl ?_; clear F a; intro a F
  refine rl_run F (run_load1 (agf tok28 rfl) (F.ev rfl) (M.cellL (k := 0) rfl rfl)) rfl ?_; clear F a; intro a F
  refine rl_run F (run_lenSl tok28.k (F.ev rfl)) rfl ?_; clear F a; intro a F
  refine rl_run F (run_lss (F.ev rfl) (F.ev rfl)) rfl ?_; clear F a; intro a F
  refine rl_nil <| q_tn <| w_cond F rfl ?_ ?_
  · intro hc
    have h2b := hc; clear hc
    have h2 : ((i : Nat) : Int) < ((x.kids.length : Nat) : Int) := of_decide_eq_true h2b
    refine wp_skip <| q_tn <| wp_seq <| wp_block <| wp_seq <| w_reg <| rl_run F (run_fieldAddr tok30.k rfl rfl (F.ev rfl)) rfl ?_; clear F a; intro a F
    refine rl_run F (run_load1 (agf tok28 rfl) (F.ev rfl) (M.cellL (k := 0) rfl rfl)) rfl ?_; clear F a; intro a F
    refine rl_run F (run_move (F.ev rfl)) rfl ?_; clear F a; intro a F
    obtain ⟨Xe3, hXe3⟩ := get_of_lt (xs := x.kids) (i := i) (by omega)
    obtain ⟨be3, oe3, _, Ie3, _, Ae3, hTe3⟩ := SK.at hXe3
    obtain ⟨tae3, kae3, rfl, hke3, hle3, SAe3, SKe3⟩ := rdNE_open hTe3
    refine rl_run F (run_indexI tok28.k tok30 (F.ev rfl) (F.ev rfl) (by omega) Ie3) rfl ?_; clear F a; intro a F
    refine rl_run F (run_loadA tok30 rfl (F.ev rfl) (cs := [.int .u8 (Xe3.kind), .string (str (Xe3.tag)), .string (str (Xe3.key)), .slice (tae3) (Xe3.as.length) (Xe3.as.length), .string (str (Xe3.text)), .slice (kae3) (Xe3.kids.length) (Xe3.kids.length)]) rfl (M.cellsA Ae3 0 (by omega) rfl)) rfl ?_; clear F a; intro a F
    refine rl_callS F ent29 rfl rfl (ih Xe3 (List.mem_of_getElem? hXe3) _ _ _ _ _ _ M SAe3 SKe3) ?_; clear F M a; rintro _ w a M rfl F
    refine rl_run F (run_eqi (F.ev rfl) (F.ev rfl)) rfl ?_; clear F a; intro a F
    refine rl_nil <| q_tn <| w_cond_f F rfl (decide_eq_false (by decide)) ?_
    refine wp_skip <| q_bn <| q_tn <| w_reg <| rl_run F (run_move (F.ev rfl)) rfl ?_; clear F a; intro a F
    refine rl_run F (run_addi (F.ev rfl) (F.ev rfl) (in_i64 (by omega) (by omega))) rfl ?_; clear F a; intro a F
    refine rl_run F (run_assign (F.ev rfl)) rfl ?_; clear F a; intro a F
    refine rl_nil <| q_tn ?_
    exact ⟨_, by omega, i + 1, rfl, F.to ⟨rfl, rfl, trivial⟩, M, by omega⟩
  · intro hc
    have h4b := hc; clear hc
    have h4 : ¬ (((i : Nat) : Int) < ((x.kids.length : Nat) : Int)) := of_decide_eq_false h4b
    refine wp_exit ?_
    iterate 2 (refine q_te ?_)
    refine q_bh <| q_tn <| wp_seq <| w_reg <| rl_run F (run_assign (F.ev rfl)) rfl ?_; clear F a; intro a F
    refine rl_nil <| q_tn <| wp_ret <| fin1 F rfl rfl ?_
    exact ⟨M.weaken (.cons _ (List.Sublist.refl _)), by rfl⟩
theorem own_all (x : NT) : OwnP x := by
  induction x using Tr.ind with
  | _ x ih => intro w0 w G L ta ka M SA SK; exact own_step ih M SA SK
theorem trender_x {w0 w : World} {G : Ghost} {L : List Res} (M : Mem w0 G L w) {p : PT} {tap : Option Addr} {tcp : Nat} {kap : Option Addr} {kcp : Nat} (hkp : inKind .u8 p.kind) (hlp : (p.tag.length ≤ 9223372036854775807 ∧ p.key.length ≤ 9223372036854775807 ∧ p.text.length ≤ 9223372036854775807)) (SAp : RdSl rdSlot 3 G (.slice tap p.as.length tcp) p.as) (SKp : RdSl rdP 6 G (.slice kap p.kids.length kcp) p.kids) {x : ItemD} {ma : Option Addr} {mc : Nat} (ht : x.text.length ≤ 9223372036854775807) (SM : RdSl rdStr 1 G (.slice ma x.marks.length mc) x.marks) (hik : inKind .u64 x.key) {most e : Int} {nn : NT} (hE : rendE p x most = e) (hN : rendN p x most = nn) : Calls Tryz.prog 22 #[.agg #[.int .u8 (p.kind), .string (str (p.tag)), .string (str (p.key)), .slice (tap) (p.as.length) (tcp), .string (str (p.text)), .slice (kap) (p.kids.length) (kcp)], .agg #[.int .u64 (x.key), .int .u8 (x.typ), .string (str (x.text)), .slice (ma) (x.marks.length) (mc)], .int .i64 most] w (Ret w0 G L fun G' v => ∃ a1 a2, v = .tuple #[.agg #[.int .u8 nn.kind, .string (str nn.tag), .string (str nn.key), .slice a1 nn.as.length nn.as.length, .string (str nn.text), .slice a2 nn.kids.length nn.kids.length], .int .i64 e] ∧ inKind .u8 nn.kind ∧ (nn.tag.length ≤ 9223372036854775807 ∧ nn.key.length ≤ 9223372036854775807 ∧ nn.text.length ≤ 9223372036854775807) ∧ RdSl rdAttr 2 G' (.slice a1 nn.as.length nn.as.length) nn.as ∧ RdSl rdNE 6 G' (.slice a2 nn.kids.length nn.kids.length) nn.kids) := by
  subst hE hN
  refine (trender_spec M hkp hlp SAp SKp ht SM hik (most := most)).mono fun q w' h => ?_
  cases q with
  | returned v => obtain ⟨G', h1, h2, a1, a2, rfl, h3, h4⟩ := h; exact ⟨G', h1, h2, a1, a2, rfl, rendN_kind hkp, rendN_len hlp, h3, h4⟩
  | panicked c => exact h.elim
  | outgrown => exact h.elim
theorem renderlaw_ret {w0 w : World} {G : Ghost} {L : List Res} (M : Mem w0 G L w) {ca : Option Addr} {cc : Nat} {cs : List UInt8} (S : RdSl rdB 1 G (.slice ca cs.length cc) cs) {pt psl : Nat} (hpt : pt < 256) (hps : psl < 256) {ca1 : Option Addr} {cc1 : Nat} {cs1 : List UInt8} (S1 : RdSl rdB 1 G (.slice ca1 cs1.length cc1) cs1) {ik1 it1 : Nat} (hik1 : ik1 < 65536) (hit1 : it1 < 256) {mo : Nat} (hmo : mo < 256) : Calls Tryz.prog 4 #[.agg #[.int .u8 (((pt : Nat) : Int)), .int .u8 (((psl : Nat) : Int)), .slice (ca) (cs.length) (cc)], .agg #[.int .u16 (((ik1 : Nat) : Int)), .int .u8 (((it1 : Nat) : Int)), .slice (ca1) (cs1.length) (cc1)], .int .u8 (mo : Int)] w (Ret w0 G L fun _ v => v = .bool true) := by
  refine calls_start (vs := [_, _, _]) Tryz.func4 rfl (n := 117) rfl rfl ?_
  intro a F
  refine wp_seq <| w_reg <| rl_box F M rfl (cs := [.int .u8 (((pt : Nat) : Int)), .int .u8 (((psl : Nat) : Int)), .slice (ca) (cs.length) (cc)]) rfl rfl ?_; clear F M a; intro b1 w a M F
  refine rl_box F M rfl (cs := [.int .u16 (((ik1 : Nat) : Int)), .int .u8 (((it1 : Nat) : Int)), .slice (ca1) (cs1.length) (cc1)]) rfl rfl ?_; clear F M a; intro b2 w a M F
  refine rl_run F (run_assign (F.ev rfl)) rfl ?_; clear F a; intro a F
  refine rl_nil <| q_tn <| wp_seq <| w_threads [⟨0, 1, 4, 6, 3, 15, 16, 7, b1, 39, 46, 20, [.int .u8 (((pt : Nat) : Int)), .int .u8 (((psl : Nat) : Int)), .slice (ca) (cs.length) (cc)], [.int .u8 (0), .string (str ([] : List UInt8)), .string (str ([] : List UInt8)), .slice none (0) (0), .string (str ([] : List UInt8)), .slice none (0) (0)], GoodP⟩, ⟨2, 3, 5, 7, 4, 17, 18, 8, b2, 42, 51, 21, [.int .u16 (((ik1 : Nat) : Int)), .int .u8 (((it1 : Nat) : Int)), .slice (ca1) (cs1.length) (cc1)], [.int .u64 (0), .int .u8 (0), .string (str ([] : List UInt8)), .slice none (0) (0)], GoodI⟩] rfl F M (by kernel_rfl) (by kernel_rfl) (by kernel_rfl) (by kernel_rfl) ⟨⟨⟨_, _, _, rfl⟩, ⟨_, _, _, _, rfl, rfl⟩, ⟨_, _, _, rfl⟩, ⟨_, _, _, rfl, rfl, rfl⟩, rfl, rfl, ⟨rfl, rfl, rfl⟩, ent20, ⟨_, tok39, rfl, rfl⟩, ⟨_, tok46, rfl, rfl⟩⟩, ⟨⟨_, _, _, rfl⟩, ⟨_, _, _, _, rfl, rfl⟩, ⟨_, _, _, rfl⟩, ⟨_, _, _, rfl, rfl, rfl⟩, rfl, rfl, ⟨rfl, rfl, rfl⟩, ent21, ⟨_, tok42, rfl, rfl⟩, ⟨_, tok51, rfl, rfl⟩⟩, trivial⟩ ⟨does_pof S hpt hps, does_iof S1 hik1 hit1, trivial⟩ ⟨⟨rfl, by simp⟩, ⟨rfl, by simp⟩, trivial⟩ ?_
  clear F M a; rintro a w Gq3 _ F hGq3 M ⟨_, _, rfl, ⟨_, bq3_0, dq3_0, eq3_0, fq3_0, ⟨xq3_0, taq3_0, kaq3_0, tcq3_0, kcq3_0, rfl, hVq3_0, hlq3_0, SAq3_0, SKq3_0⟩, rfl⟩, _, _, rfl, ⟨_, bq3_1, dq3_1, eq3_1, fq3_1, ⟨xq3_1, maq3_1, mcq3_1, rfl, hIq3_1, hkq3_1, SMq3_1⟩, rfl⟩, rfl⟩
  replace S := S.mono mono_rdB hGq3
  replace S1 := S1.mono mono_rdB hGq3
  replace F := ((((((F.add (d := 15) (v := .agg #[.int .u8 (((pt : Nat) : Int)), .int .u8 (((psl : Nat) : Int)), .slice (ca) (cs.length) (cc)]) dq3_0).add (d := 16) (v := .agg #[.int .u8 (xq3_0.kind), .string (str (xq3_0.tag)), .string (str (xq3_0.key)), .slice (taq3_0) (xq3_0.as.length) (tcq3_0), .string (str (xq3_0.text)), .slice (kaq3_0) (xq3_0.kids.length) (kcq3_0)]) eq3_0).add (d := 7) (v := .pointer (some ⟨bq3_0, 0, none⟩)) fq3_0).add (d := 17) (v := .agg #[.int .u16 (((ik1 : Nat) : Int)), .int .u8 (((it1 : Nat) : Int)), .slice (ca1) (cs1.length) (cc1)]) dq3_1).add (d := 18) (v := .agg #[.int .u64 (xq3_1.key), .int .u8 (xq3_1.typ), .string (str (xq3_1.text)), .slice (maq3_1) (xq3_1.marks.length) (mcq3_1)]) eq3_1).add (d := 8) (v := .pointer (some ⟨bq3_1, 0, none⟩)) fq3_1)
  clear dq3_0 eq3_0 fq3_0 dq3_1 eq3_1 fq3_1
  change Mem w0 Gq3 (.blk bq3_0 [.int .u8 (xq3_0.kind), .string (str (xq3_0.tag)), .string (str (xq3_0.key)), .slice (taq3_0) (xq3_0.as.length) (tcq3_0), .string (str (xq3_0.text)), .slice (kaq3_0) (xq3_0.kids.length) (kcq3_0)] 46 :: .blk bq3_1 [.int .u64 (xq3_1.key), .int .u8 (xq3_1.typ), .string (str (xq3_1.text)), .slice (maq3_1) (xq3_1.marks.length) (mcq3_1)] 51 :: .blk b2 [.int .u16 (((ik1 : Nat) : Int)), .int .u8 (((it1 : Nat) : Int)), .slice (ca1) (cs1.length) (cc1)] 42 :: .blk b1 [.int .u8 (((pt : Nat) : Int)), .int .u8 (((psl : Nat) : Int)), .slice (ca) (cs.length) (cc)] 39 :: L) _ at M
  refine q_tn <| wp_seq <| w_reg <| rl_run F (run_loadA tok46 rfl (F.ev rfl) (cs := [.int .u8 (xq3_0.kind), .string (str (xq3_0.tag)), .string (str (xq3_0.key)), .slice (taq3_0) (xq3_0.as.length) (tcq3_0), .string (str (xq3_0.text)), .slice (kaq3_0) (xq3_0.kids.length) (kcq3_0)]) rfl (M.cellsL (k := 0) rfl rfl)) rfl ?_; clear F a; intro a F
  refine rl_run F (run_loadA tok51 rfl (F.ev rfl) (cs := [.int .u64 (xq3_1.key), .int .u8 (xq3_1.typ), .string (str (xq3_1.text)), .slice (maq3_1) (xq3_1.marks.length) (mcq3_1)]) rfl (M.cellsL (k := 1) rfl rfl)) rfl ?_; clear F a; intro a F
  refine rl_run F (run_move (F.ev rfl)) rfl ?_; clear F a; intro a F
  refine rl_run F (run_remi (F.ev rfl) (F.ev rfl) (by omega) (by omega)) rfl ?_; clear F a; intro a F
  refine rl_run F (run_conv_int tok3.k ⟨_, by rw [under_int tok5.k]⟩ (F.ev rfl) (in_i64 (by omega) (by omega))) rfl ?_; clear F a; intro a F
  refine rl_call F ent22 rfl rfl (trender_x (p := xq3_0) (x := xq3_1) (most := (((mo : Nat) : Int)) % 66) (e := (rendE xq3_0 xq3_1 ((((mo : Nat) : Int)) % 66))) (nn := (rendN xq3_0 xq3_1 ((((mo : Nat) : Int)) % 66))) M (validP_kind hVq3_0) hlq3_0 SAq3_0 SKq3_0 (itm_len hIq3_1) SMq3_1 hkq3_1 rfl rfl) ?_; clear F M a; rintro _ Gk4 w a hGk4 M ⟨tak4, kak4, rfl, hkk4, hlk4, SAk4, SKk4⟩ F
  replace S := S.mono mono_rdB hGk4
  replace S1 := S1.mono mono_rdB hGk4
  replace SAq3_0 := SAq3_0.mono mono_rdSlot hGk4
  replace SKq3_0 := SKq3_0.mono mono_rdP hGk4
  replace SMq3_1 := SMq3_1.mono mono_rdStr hGk4
  refine rl_run F (run_move (F.ev rfl)) rfl ?_; clear F a; intro a F
  refine rl_run F (run_extract (v := .agg #[.int .u8 ((rendN xq3_0 xq3_1 ((((mo : Nat) : Int)) % 66)).kind), .string (str ((rendN xq3_0 xq3_1 ((((mo : Nat) : Int)) % 66)).tag)), .string (str ((rendN xq3_0 xq3_1 ((((mo : Nat) : Int)) % 66)).key)), .slice (tak4) ((rendN xq3_0 xq3_1 ((((mo : Nat) : Int)) % 66)).as.length) ((rendN xq3_0 xq3_1 ((((mo : Nat) : Int)) % 66)).as.length), .string (str ((rendN xq3_0 xq3_1 ((((mo : Nat) : Int)) % 66)).text)), .slice (kak4) ((rendN xq3_0 xq3_1 ((((mo : Nat) : Int)) % 66)).kids.length) ((rendN xq3_0 xq3_1 ((((mo : Nat) : Int)) % 66)).kids.length)]) (F.ev rfl) rfl) rfl ?_; clear F a; intro a F
  refine rl_run F (run_extract (v := .int .i64 ((rendE xq3_0 xq3_1 ((((mo : Nat) : Int)) % 66)))) (F.ev rfl) rfl) rfl ?_; clear F a; intro a F
  refine rl_alloc F M tok30 rfl rfl ?_; clear F M a; intro b5 w a M F
  refine rl_storeA F M tok30 (k := 0) rfl rfl rfl (us := [.int .u8 ((rendN xq3_0 xq3_1 ((((mo : Nat) : Int)) % 66)).kind), .string (str ((rendN xq3_0 xq3_1 ((((mo : Nat) : Int)) % 66)).tag)), .string (str ((rendN xq3_0 xq3_1 ((((mo : Nat) : Int)) % 66)).key)), .slice (tak4) ((rendN xq3_0 xq3_1 ((((mo : Nat) : Int)) % 66)).as.length) ((rendN xq3_0 xq3_1 ((((mo : Nat) : Int)) % 66)).as.length), .string (str ((rendN xq3_0 xq3_1 ((((mo : Nat) : Int)) % 66)).text)), .slice (kak4) ((rendN xq3_0 xq3_1 ((((mo : Nat) : Int)) % 66)).kids.length) ((rendN xq3_0 xq3_1 ((((mo : Nat) : Int)) % 66)).kids.length)]) rfl rfl (by simp [Value.oneCell']) (by simp) ?_; clear F M a; intro w a M F
  change Mem w0 Gk4 (.blk b5 [.int .u8 ((rendN xq3_0 xq3_1 ((((mo : Nat) : Int)) % 66)).kind), .string (str ((rendN xq3_0 xq3_1 ((((mo : Nat) : Int)) % 66)).tag)), .string (str ((rendN xq3_0 xq3_1 ((((mo : Nat) : Int)) % 66)).key)), .slice (tak4) ((rendN xq3_0 xq3_1 ((((mo : Nat) : Int)) % 66)).as.length) ((rendN xq3_0 xq3_1 ((((mo : Nat) : Int)) % 66)).as.length), .string (str ((rendN xq3_0 xq3_1 ((((mo : Nat) : Int)) % 66)).text)), .slice (kak4) ((rendN xq3_0 xq3_1 ((((mo : Nat) : Int)) % 66)).kids.length) ((rendN xq3_0 xq3_1 ((((mo : Nat) : Int)) % 66)).kids.length)] 30 :: .blk bq3_0 [.int .u8 (xq3_0.kind), .string (str (xq3_0.tag)), .string (str (xq3_0.key)), .slice (taq3_0) (xq3_0.as.length) (tcq3_0), .string (str (xq3_0.text)), .slice (kaq3_0) (xq3_0.kids.length) (kcq3_0)] 46 :: .blk bq3_1 [.int .u64 (xq3_1.key), .int .u8 (xq3_1.typ), .string (str (xq3_1.text)), .slice (maq3_1) (xq3_1.marks.length) (mcq3_1)] 51 :: .blk b2 [.int .u16 (((ik1 : Nat) : Int)), .int .u8 (((it1 : Nat) : Int)), .slice (ca1) (cs1.length) (cc1)] 42 :: .blk b1 [.int .u8 (((pt : Nat) : Int)), .int .u8 (((psl : Nat) : Int)), .slice (ca) (cs.length) (cc)] 39 :: L) _ at M
  refine rl_run F (run_assign (F.ev rfl)) rfl ?_; clear F a; intro a F
  refine rl_nil <| q_tn <| wp_seq <| w_reg <| rl_run F (run_loadA tok46 rfl (F.ev rfl) (cs := [.int .u8 (xq3_0.kind), .string (str (xq3_0.tag)), .string (str (xq3_0.key)), .slice (taq3_0) (xq3_0.as.length) (tcq3_0), .string (str (xq3_0.text)), .slice (kaq3_0) (xq3_0.kids.length) (kcq3_0)]) rfl (M.cellsL (k := 1) rfl rfl)) rfl ?_; clear F a; intro a F
  refine rl_run F (run_loadA tok51 rfl (F.ev rfl) (cs := [.int .u64 (xq3_1.key), .int .u8 (xq3_1.typ), .string (str (xq3_1.text)), .slice (maq3_1) (xq3_1.marks.length) (mcq3_1)]) rfl (M.cellsL (k := 2) rfl rfl)) rfl ?_; clear F a; intro a F
  refine rl_run F (run_move (F.ev rfl)) rfl ?_; clear F a; intro a F
  refine rl_run F (run_remi (F.ev rfl) (F.ev rfl) (by omega) (by omega)) rfl ?_; clear F a; intro a F
  refine rl_run F (run_conv_int tok3.k ⟨_, by rw [under_int tok5.k]⟩ (F.ev rfl) (in_i64 (by omega) (by omega))) rfl ?_; clear F a; intro a F
  refine rl_call F ent23 rfl rfl (rrender_at (p := xq3_0) (x := xq3_1) (most := (((mo : Nat) : Int)) % 66) (e := (rendE xq3_0 xq3_1 ((((mo : Nat) : Int)) % 66))) (nn := (rendN xq3_0 xq3_1 ((((mo : Nat) : Int)) % 66))) M (validP_kind hVq3_0) hlq3_0 SAq3_0 SKq3_0 (itm_len hIq3_1) SMq3_1 hkq3_1 rfl rfl) ?_; clear F M a; rintro _ Gk7 w a hGk7 M ⟨tak7, tck7, kak7, kck7, rfl, hkk7, hlk7, SAk7, SKk7⟩ F
  replace S := S.mono mono_rdB hGk7
  replace S1 := S1.mono mono_rdB hGk7
  replace SAq3_0 := SAq3_0.mono mono_rdSlot hGk7
  replace SKq3_0 := SKq3_0.mono mono_rdP hGk7
  replace SMq3_1 := SMq3_1.mono mono_rdStr hGk7
  replace SAk4 := SAk4.mono mono_rdAttr hGk7
  replace SKk4 := SKk4.mono mono_rdNE hGk7
  refine rl_run F (run_move (F.ev rfl)) rfl ?_; clear F a; intro a F
  refine rl_run F (run_extract (v := .agg #[.int .u8 ((rendN xq3_0 xq3_1 ((((mo : Nat) : Int)) % 66)).kind), .string (str ((rendN xq3_0 xq3_1 ((((mo : Nat) : Int)) % 66)).tag)), .string (str ((rendN xq3_0 xq3_1 ((((mo : Nat) : Int)) % 66)).key)), .slice (tak7) ((rendN xq3_0 xq3_1 ((((mo : Nat) : Int)) % 66)).as.length) (tck7), .string (str ((rendN xq3_0 xq3_1 ((((mo : Nat) : Int)) % 66)).text)), .slice (kak7) ((rendN xq3_0 xq3_1 ((((mo : Nat) : Int)) % 66)).kids.length) (kck7)]) (F.ev rfl) rfl) rfl ?_; clear F a; intro a F
  refine rl_run F (run_extract (v := .int .i64 ((rendE xq3_0 xq3_1 ((((mo : Nat) : Int)) % 66)))) (F.ev rfl) rfl) rfl ?_; clear F a; intro a F
  refine rl_alloc F M tok30 rfl rfl ?_; clear F M a; intro b8 w a M F
  refine rl_storeA F M tok30 (k := 0) rfl rfl rfl (us := [.int .u8 ((rendN xq3_0 xq3_1 ((((mo : Nat) : Int)) % 66)).kind), .string (str ((rendN xq3_0 xq3_1 ((((mo : Nat) : Int)) % 66)).tag)), .string (str ((rendN xq3_0 xq3_1 ((((mo : Nat) : Int)) % 66)).key)), .slice (tak7) ((rendN xq3_0 xq3_1 ((((mo : Nat) : Int)) % 66)).as.length) (tck7), .string (str ((rendN xq3_0 xq3_1 ((((mo : Nat) : Int)) % 66)).text)), .slice (kak7) ((rendN xq3_0 xq3_1 ((((mo : Nat) : Int)) % 66)).kids.length) (kck7)]) rfl rfl (by simp [Value.oneCell']) (by simp) ?_; clear F M a; intro w a M F
  change Mem w0 Gk7 (.blk b8 [.int .u8 ((rendN xq3_0 xq3_1 ((((mo : Nat) : Int)) % 66)).kind), .string (str ((rendN xq3_0 xq3_1 ((((mo : Nat) : Int)) % 66)).tag)), .string (str ((rendN xq3_0 xq3_1 ((((mo : Nat) : Int)) % 66)).key)), .slice (tak7) ((rendN xq3_0 xq3_1 ((((mo : Nat) : Int)) % 66)).as.length) (tck7), .string (str ((rendN xq3_0 xq3_1 ((((mo : Nat) : Int)) % 66)).text)), .slice (kak7) ((rendN xq3_0 xq3_1 ((((mo : Nat) : Int)) % 66)).kids.length) (kck7)] 30 :: .blk b5 [.int .u8 ((rendN xq3_0 xq3_1 ((((mo : Nat) : Int)) % 66)).kind), .string (str ((rendN xq3_0 xq3_1 ((((mo : Nat) : Int)) % 66)).tag)), .string (str ((rendN xq3_0 xq3_1 ((((mo : Nat) : Int)) % 66)).key)), .slice (tak4) ((rendN xq3_0 xq3_1 ((((mo : Nat) : Int)) % 66)).as.length) ((rendN xq3_0 xq3_1 ((((mo : Nat) : Int)) % 66)).as.length), .string (str ((rendN xq3_0 xq3_1 ((((mo : Nat) : Int)) % 66)).text)), .slice (kak4) ((rendN xq3_0 xq3_1 ((((mo : Nat) : Int)) % 66)).kids.length) ((rendN xq3_0 xq3_1 ((((mo : Nat) : Int)) % 66)).kids.length)] 30 :: .blk bq3_0 [.int .u8 (xq3_0.kind), .string (str (xq3_0.tag)), .string (str (xq3_0.key)), .slice (taq3_0) (xq3_0.as.length) (tcq3_0), .string (str (xq3_0.text)), .slice (kaq3_0) (xq3_0.kids.length) (kcq3_0)] 46 :: .blk bq3_1 [.int .u64 (xq3_1.key), .int .u8 (xq3_1.typ), .string (str (xq3_1.text)), .slice (maq3_1) (xq3_1.marks.length) (mcq3_1)] 51 :: .blk b2 [.int .u16 (((ik1 : Nat) : Int)), .int .u8 (((it1 : Nat) : Int)), .slice (ca1) (cs1.length) (cc1)] 42 :: .blk b1 [.int .u8 (((pt : Nat) : Int)), .int .u8 (((psl : Nat) : Int)), .slice (ca) (cs.length) (cc)] 39 :: L) _ at M
  refine rl_run F (run_assign (F.ev rfl)) rfl ?_; clear F a; intro a F
  refine rl_nil <| q_tn <| wp_seq <| w_reg <| rl_run F (run_loadA tok46 rfl (F.ev rfl) (cs := [.int .u8 (xq3_0.kind), .string (str (xq3_0.tag)), .string (str (xq3_0.key)), .slice (taq3_0) (xq3_0.as.length) (tcq3_0), .string (str (xq3_0.text)), .slice (kaq3_0) (xq3_0.kids.length) (kcq3_0)]) rfl (M.cellsL (k := 2) rfl rfl)) rfl ?_; clear F a; intro a F
  refine rl_run F (run_fieldAddr tok51.k rfl rfl (F.ev rfl)) rfl ?_; clear F a; intro a F
  refine rl_run F (run_load1 (agf tok49 rfl) (F.ev rfl) (M.cellL (k := 3) rfl rfl)) rfl ?_; clear F a; intro a F
  refine rl_run F (run_lenSl tok49.k (F.ev rfl)) rfl ?_; clear F a; intro a F
  refine rl_callS F ent24 rfl rfl (tnodes_spec (x := xq3_0) (m := ((xq3_1.marks.length : Nat) : Int)) M (validP_kind hVq3_0) hlq3_0 SAq3_0 SKq3_0) ?_; clear F M a; rintro _ w a M rfl F
  rw [nodes1z hVq3_0 hIq3_1.2.2.1, nodes2z hVq3_0 hIq3_1.2.2.1] at F
  refine rl_run F (run_move (F.ev rfl)) rfl ?_; clear F a; intro a F
  refine rl_run F (run_extract (v := .int .i64 (((ndF xq3_1.marks.length xq3_0 : Nat) : Int))) (F.ev rfl) rfl) rfl ?_; clear F a; intro a F
  refine rl_run F (run_extract (v := .int .i64 (0)) (F.ev rfl) rfl) rfl ?_; clear F a; intro a F
  iterate 2 (refine rl_run F (run_assign (F.ev rfl)) rfl ?_; clear F a; intro a F)
  refine rl_nil <| q_tn ?_
  iterate 2 (refine wp_seq ?_)
  refine w_reg ?_
  iterate 2 (refine rl_run F (run_move (F.ev rfl)) rfl ?_; clear F a; intro a F)
  refine rl_run F (run_nei (F.ev rfl) (F.ev rfl)) rfl ?_; clear F a; intro a F
  refine rl_run F (run_move (F.ev rfl)) rfl ?_; clear F a; intro a F
  refine rl_guard_t F rfl rfl rfl (not_f (decide_eq_true rfl)) ?_
  refine rl_run F (run_move (F.ev rfl)) rfl ?_; clear F a; intro a F
  refine rl_guard_t F rfl rfl rfl (not_f (decide_eq_true rfl)) ?_
  refine rl_run F (run_nei (F.ev rfl) (F.ev rfl)) rfl ?_; clear F a; intro a F
  refine rl_run F (run_pick_f (F.ev rfl) (not_f (decide_eq_true rfl)) (F.ev rfl)) rfl ?_; clear F a; intro a F
  refine rl_run F (run_move (F.ev rfl)) rfl ?_; clear F a; intro a F
  refine rl_guard_t F rfl rfl rfl (not_f (decide_eq_true (by decide))) ?_
  refine rl_run F (run_move (F.ev rfl)) rfl ?_; clear F a; intro a F
  refine rl_guard_t F rfl rfl rfl (not_f (decide_eq_true (by decide))) ?_
  refine rl_run F (run_loadA tok46 rfl (F.ev rfl) (cs := [.int .u8 (xq3_0.kind), .string (str (xq3_0.tag)), .string (str (xq3_0.key)), .slice (taq3_0) (xq3_0.as.length) (tcq3_0), .string (str (xq3_0.text)), .slice (kaq3_0) (xq3_0.kids.length) (kcq3_0)]) rfl (M.cellsL (k := 2) rfl rfl)) rfl ?_; clear F a; intro a F
  refine rl_guard_t F rfl rfl rfl (not_f (decide_eq_true (by decide))) ?_
  refine rl_run F (run_fieldAddr tok51.k rfl rfl (F.ev rfl)) rfl ?_; clear F a; intro a F
  refine rl_guard_t F rfl rfl rfl (not_f (decide_eq_true (by decide))) ?_
  refine rl_run F (run_load1 (agf tok49 rfl) (F.ev rfl) (M.cellL (k := 3) rfl rfl)) rfl ?_; clear F a; intro a F
  refine rl_guard_t F rfl rfl rfl (not_f (decide_eq_true (by decide))) ?_
  refine rl_run F (run_lenSl tok49.k (F.ev rfl)) rfl ?_; clear F a; intro a F
  refine rl_guard_t F rfl rfl rfl (not_f (decide_eq_true (by decide))) ?_
  refine rl_callS F ent25 rfl rfl (rnodes_all xq3_0 _ _ _ _ _ _ _ _ xq3_1.marks.length 6 M (validP_kind hVq3_0) hlq3_0 SAq3_0 SKq3_0 hVq3_0.2.1 hVq3_0.2.2 hIq3_1.2.2.1) ?_; clear F M a; rintro _ w a M rfl F
  refine rl_guard_t F rfl rfl rfl (not_f (decide_eq_true (by decide))) ?_
  refine rl_run F (run_nei (F.ev rfl) (F.ev rfl)) rfl ?_; clear F a; intro a F
  refine rl_run F (run_pick_f (F.ev rfl) (not_f (decide_eq_true (by decide))) (F.ev rfl)) rfl ?_; clear F a; intro a F
  refine rl_run F (run_move (F.ev rfl)) rfl ?_; clear F a; intro a F
  refine rl_guard_t F rfl rfl rfl (not_f (decide_eq_true rfl)) ?_
  refine rl_run F (run_loadA tok46 rfl (F.ev rfl) (cs := [.int .u8 (xq3_0.kind), .string (str (xq3_0.tag)), .string (str (xq3_0.key)), .slice (taq3_0) (xq3_0.as.length) (tcq3_0), .string (str (xq3_0.text)), .slice (kaq3_0) (xq3_0.kids.length) (kcq3_0)]) rfl (M.cellsL (k := 2) rfl rfl)) rfl ?_; clear F a; intro a F
  refine rl_guard_t F rfl rfl rfl (not_f (decide_eq_true rfl)) ?_
  refine rl_callS F ent26 rfl rfl (tcheck_spec (x := xq3_0) M (validP_kind hVq3_0) hlq3_0 SAq3_0 SKq3_0) ?_; clear F M a; rintro _ w a M rfl F
  rw [chkP_yes hVq3_0] at F
  refine rl_guard_t F rfl rfl rfl (not_f (decide_eq_true rfl)) ?_
  refine rl_run F (run_nei (F.ev rfl) (F.ev rfl)) rfl ?_; clear F a; intro a F
  refine rl_run F (run_pick_f (F.ev rfl) (not_f (decide_eq_true rfl)) (F.ev rfl)) rfl ?_; clear F a; intro a F
  refine rl_run F (run_move (F.ev rfl)) rfl ?_; clear F a; intro a F
  refine rl_guard_t F rfl rfl rfl (not_f (decide_eq_true (by decide))) ?_
  refine rl_run F (run_loadA tok51 rfl (F.ev rfl) (cs := [.int .u64 (xq3_1.key), .int .u8 (xq3_1.typ), .string (str (xq3_1.text)), .slice (maq3_1) (xq3_1.marks.length) (mcq3_1)]) rfl (M.cellsL (k := 3) rfl rfl)) rfl ?_; clear F a; intro a F
  refine rl_guard_t F rfl rfl rfl (not_f (decide_eq_true (by decide))) ?_
  refine rl_callS F ent27 rfl rfl (checkitem_spec (x := xq3_1) M (itm_len hIq3_1) SMq3_1) ?_; clear F M a; rintro _ w a M rfl F
  rw [itmF_yes hIq3_1] at F
  refine rl_guard_t F rfl rfl rfl (not_f (decide_eq_true (by decide))) ?_
  refine rl_run F (run_nei (F.ev rfl) (F.ev rfl)) rfl ?_; clear F a; intro a F
  refine rl_run F (run_pick_f (F.ev rfl) (not_f (decide_eq_true (by decide))) (F.ev rfl)) rfl ?_; clear F a; intro a F
  refine rl_nil <| q_tn <| w_cond_f F rfl (not_f (decide_eq_true (by decide))) ?_
  refine wp_skip <| q_tn ?_
  iterate 2 (refine wp_seq ?_)
  refine w_reg <| rl_run F (run_move (F.ev rfl)) rfl ?_; clear F a; intro a F
  refine rl_run F (run_nei (F.ev rfl) (F.ev rfl)) rfl ?_; clear F a; intro a F
  refine rl_nil <| q_tn <| w_cond F rfl ?_ ?_
  · intro hc
    have h10b := hc; clear hc
    have h10 : ¬ ((rendE xq3_0 xq3_1 ((((mo : Nat) : Int)) % 66)) = 0) := of_decide_eq_false (of_not_t h10b)
    have h10c : (decide ((rendE xq3_0 xq3_1 ((((mo : Nat) : Int)) % 66)) = 0)) = false := (of_not_t h10b)
    refine wp_seq ?_
    have hz9 : (rendN xq3_0 xq3_1 ((((mo : Nat) : Int)) % 66)) = zeroN := rendN_no (by assumption)
    rw [hz9] at M
    change Mem w0 Gk7 (.blk b8 [.int .u8 (0), .string (str ([] : List UInt8)), .string (str ([] : List UInt8)), .slice (tak7) (0) (tck7), .string (str ([] : List UInt8)), .slice (kak7) (0) (kck7)] 30 :: .blk b5 [.int .u8 (0), .string (str ([] : List UInt8)), .string (str ([] : List UInt8)), .slice (tak4) (0) (zeroN.as.length), .string (str ([] : List UInt8)), .slice (kak4) (0) (zeroN.kids.length)] 30 :: .blk bq3_0 [.int .u8 (xq3_0.kind), .string (str (xq3_0.tag)), .string (str (xq3_0.key)), .slice (taq3_0) (xq3_0.as.length) (tcq3_0), .string (str (xq3_0.text)), .slice (kaq3_0) (xq3_0.kids.length) (kcq3_0)] 46 :: .blk bq3_1 [.int .u64 (xq3_1.key), .int .u8 (xq3_1.typ), .string (str (xq3_1.text)), .slice (maq3_1) (xq3_1.marks.length) (mcq3_1)] 51 :: .blk b2 [.int .u16 (((ik1 : Nat) : Int)), .int .u8 (((it1 : Nat) : Int)), .slice (ca1) (cs1.length) (cc1)] 42 :: .blk b1 [.int .u8 (((pt : Nat) : Int)), .int .u8 (((psl : Nat) : Int)), .slice (ca) (cs.length) (cc)] 39 :: L) _ at M
    refine w_reg <| rl_run F (run_fieldAddr tok30.k rfl rfl (F.ev rfl)) rfl ?_; clear F a; intro a F
    refine rl_run F (run_load1 (agf tok5 rfl) (F.ev rfl) (M.cellL (k := 1) rfl rfl)) rfl ?_; clear F a; intro a F
    refine rl_run F (run_eqi (F.ev rfl) (F.ev rfl)) rfl ?_; clear F a; intro a F
    refine rl_run F (run_move (F.ev rfl)) rfl ?_; clear F a; intro a F
    refine rl_guard_t F rfl rfl rfl (decide_eq_true (by decide)) ?_
    refine rl_run F (run_fieldAddr tok30.k rfl rfl (F.ev rfl)) rfl ?_; clear F a; intro a F
    refine rl_guard_t F rfl rfl rfl (decide_eq_true (by decide)) ?_
    refine rl_run F (run_load1 (agf tok9 rfl) (F.ev rfl) (M.cellL (k := 1) rfl rfl)) rfl ?_; clear F a; intro a F
    refine rl_guard_t F rfl rfl rfl (decide_eq_true (by decide)) ?_
    refine rl_run F (run_strEq (F.ev rfl) (F.ev rfl)) rfl ?_; clear F a; intro a F
    refine rl_run F (run_pick_t (F.ev rfl) (decide_eq_true (by decide)) (F.ev rfl)) rfl ?_; clear F a; intro a F
    refine rl_run F (run_move (F.ev rfl)) rfl ?_; clear F a; intro a F
    refine rl_guard_t F rfl rfl rfl (by decide) ?_
    refine rl_run F (run_fieldAddr tok30.k rfl rfl (F.ev rfl)) rfl ?_; clear F a; intro a F
    refine rl_guard_t F rfl rfl rfl (by decide) ?_
    refine rl_run F (run_load1 (agf tok27 rfl) (F.ev rfl) (M.cellL (k := 1) rfl rfl)) rfl ?_; clear F a; intro a F
    refine rl_guard_t F rfl rfl rfl (by decide) ?_
    refine rl_run F (run_lenSl tok27.k (F.ev rfl)) rfl ?_; clear F a; intro a F
    refine rl_guard_t F rfl rfl rfl (by decide) ?_
    refine rl_run F (run_fieldAddr tok30.k rfl rfl (F.ev rfl)) rfl ?_; clear F a; intro a F
    refine rl_guard_t F rfl rfl rfl (by decide) ?_
    refine rl_run F (run_load1 (agf tok28 rfl) (F.ev rfl) (M.cellL (k := 1) rfl rfl)) rfl ?_; clear F a; intro a F
    refine rl_guard_t F rfl rfl rfl (by decide) ?_
    refine rl_run F (run_lenSl tok28.k (F.ev rfl)) rfl ?_; clear F a; intro a F
    refine rl_guard_t F rfl rfl rfl (by decide) ?_
    refine rl_run F (run_addi (F.ev rfl) (F.ev rfl) (in_i64 (by omega) (by omega))) rfl ?_; clear F a; intro a F
    refine rl_guard_t F rfl rfl rfl (by decide) ?_
    refine rl_run F (run_eqi (F.ev rfl) (F.ev rfl)) rfl ?_; clear F a; intro a F
    refine rl_run F (run_pick_t (F.ev rfl) (by decide) (F.ev rfl)) rfl ?_; clear F a; intro a F
    refine rl_run F (run_move (F.ev rfl)) rfl ?_; clear F a; intro a F
    refine rl_guard_t F rfl rfl rfl (decide_eq_true (by decide)) ?_
    refine rl_callS F ent28 rfl rfl (lives_spec M) ?_; clear F M a; rintro _ w a M rfl F
    refine rl_run F (run_pick_t (F.ev rfl) (decide_eq_true (by decide)) (F.ev rfl)) rfl ?_; clear F a; intro a F
    refine rl_run F (run_assign (F.ev rfl)) rfl ?_; clear F a; intro a F
    refine rl_nil <| q_tn <| wp_ret <| q_tr <| fin1 F rfl rfl ?_
    exact ⟨_, ((hGq3.trans hGk4).trans hGk7), M.weaken (.cons _ (.cons _ (.cons _ (.cons _ (.cons _ (.cons _ (List.Sublist.refl _))))))), by rfl⟩
  · intro hc
    have h11b := hc; clear hc
    have h11 : (rendE xq3_0 xq3_1 ((((mo : Nat) : Int)) % 66)) = 0 := of_decide_eq_true (of_not_f h11b)
    have h11c : (decide ((rendE xq3_0 xq3_1 ((((mo : Nat) : Int)) % 66)) = 0)) = true := (of_not_f h11b)
    refine wp_skip <| q_tn <| wp_seq ?_
    have hv9 := rend_valid (show (rendE xq3_0 xq3_1 ((((mo : Nat) : Int)) % 66)) = 0 by assumption)
    have hc9 := rend_cnt hVq3_0 (show (rendE xq3_0 xq3_1 ((((mo : Nat) : Int)) % 66)) = 0 by assumption)
    refine w_reg <| rl_run F (run_loadA tok30 rfl (F.ev rfl) (cs := [.int .u8 ((rendN xq3_0 xq3_1 ((((mo : Nat) : Int)) % 66)).kind), .string (str ((rendN xq3_0 xq3_1 ((((mo : Nat) : Int)) % 66)).tag)), .string (str ((rendN xq3_0 xq3_1 ((((mo : Nat) : Int)) % 66)).key)), .slice (tak4) ((rendN xq3_0 xq3_1 ((((mo : Nat) : Int)) % 66)).as.length) ((rendN xq3_0 xq3_1 ((((mo : Nat) : Int)) % 66)).as.length), .string (str ((rendN xq3_0 xq3_1 ((((mo : Nat) : Int)) % 66)).text)), .slice (kak4) ((rendN xq3_0 xq3_1 ((((mo : Nat) : Int)) % 66)).kids.length) ((rendN xq3_0 xq3_1 ((((mo : Nat) : Int)) % 66)).kids.length)]) rfl (M.cellsL (k := 1) rfl rfl)) rfl ?_; clear F a; intro a F
    refine rl_run F (run_loadA tok30 rfl (F.ev rfl) (cs := [.int .u8 ((rendN xq3_0 xq3_1 ((((mo : Nat) : Int)) % 66)).kind), .string (str ((rendN xq3_0 xq3_1 ((((mo : Nat) : Int)) % 66)).tag)), .string (str ((rendN xq3_0 xq3_1 ((((mo : Nat) : Int)) % 66)).key)), .slice (tak7) ((rendN xq3_0 xq3_1 ((((mo : Nat) : Int)) % 66)).as.length) (tck7), .string (str ((rendN xq3_0 xq3_1 ((((mo : Nat) : Int)) % 66)).text)), .slice (kak7) ((rendN xq3_0 xq3_1 ((((mo : Nat) : Int)) % 66)).kids.length) (kck7)]) rfl (M.cellsL (k := 0) rfl rfl)) rfl ?_; clear F a; intro a F
    refine rl_callS F ent18 rfl rfl (rsame_spec (x := (rendN xq3_0 xq3_1 ((((mo : Nat) : Int)) % 66))) (u := (rendN xq3_0 xq3_1 ((((mo : Nat) : Int)) % 66))) M hkk4 hlk4 SAk4 (weakN SKk4) hkk7 hlk7 SAk7 SKk7) ?_; clear F M a; rintro _ w a M rfl F
    refine rl_run F (run_eqi (F.ev rfl) (F.ev rfl)) rfl ?_; clear F a; intro a F
    refine rl_run F (run_move (F.ev rfl)) rfl ?_; clear F a; intro a F
    refine rl_guard_t F rfl rfl rfl (decide_eq_true (rend_same (by assumption))) ?_
    refine rl_run F (run_loadA tok30 rfl (F.ev rfl) (cs := [.int .u8 ((rendN xq3_0 xq3_1 ((((mo : Nat) : Int)) % 66)).kind), .string (str ((rendN xq3_0 xq3_1 ((((mo : Nat) : Int)) % 66)).tag)), .string (str ((rendN xq3_0 xq3_1 ((((mo : Nat) : Int)) % 66)).key)), .slice (tak4) ((rendN xq3_0 xq3_1 ((((mo : Nat) : Int)) % 66)).as.length) ((rendN xq3_0 xq3_1 ((((mo : Nat) : Int)) % 66)).as.length), .string (str ((rendN xq3_0 xq3_1 ((((mo : Nat) : Int)) % 66)).text)), .slice (kak4) ((rendN xq3_0 xq3_1 ((((mo : Nat) : Int)) % 66)).kids.length) ((rendN xq3_0 xq3_1 ((((mo : Nat) : Int)) % 66)).kids.length)]) rfl (M.cellsL (k := 1) rfl rfl)) rfl ?_; clear F a; intro a F
    refine rl_guard_t F rfl rfl rfl (decide_eq_true (rend_same (by assumption))) ?_
    refine rl_callS F ent29 rfl rfl (own_all ((rendN xq3_0 xq3_1 ((((mo : Nat) : Int)) % 66))) _ _ _ _ _ _ M SAk4 SKk4) ?_; clear F M a; rintro _ w a M rfl F
    refine rl_guard_t F rfl rfl rfl (decide_eq_true (rend_same (by assumption))) ?_
    refine rl_run F (run_eqi (F.ev rfl) (F.ev rfl)) rfl ?_; clear F a; intro a F
    refine rl_run F (run_pick_t (F.ev rfl) (decide_eq_true (rend_same (by assumption))) (F.ev rfl)) rfl ?_; clear F a; intro a F
    refine rl_run F (run_move (F.ev rfl)) rfl ?_; clear F a; intro a F
    refine rl_guard_t F rfl rfl rfl (decide_eq_true (by decide)) ?_
    refine rl_run F (run_loadA tok30 rfl (F.ev rfl) (cs := [.int .u8 ((rendN xq3_0 xq3_1 ((((mo : Nat) : Int)) % 66)).kind), .string (str ((rendN xq3_0 xq3_1 ((((mo : Nat) : Int)) % 66)).tag)), .string (str ((rendN xq3_0 xq3_1 ((((mo : Nat) : Int)) % 66)).key)), .slice (tak4) ((rendN xq3_0 xq3_1 ((((mo : Nat) : Int)) % 66)).as.length) ((rendN xq3_0 xq3_1 ((((mo : Nat) : Int)) % 66)).as.length), .string (str ((rendN xq3_0 xq3_1 ((((mo : Nat) : Int)) % 66)).text)), .slice (kak4) ((rendN xq3_0 xq3_1 ((((mo : Nat) : Int)) % 66)).kids.length) ((rendN xq3_0 xq3_1 ((((mo : Nat) : Int)) % 66)).kids.length)]) rfl (M.cellsL (k := 1) rfl rfl)) rfl ?_; clear F a; intro a F
    refine rl_guard_t F rfl rfl rfl (decide_eq_true (by decide)) ?_
    refine rl_callS F ent30 rfl rfl (ncheck_spec (x := (rendN xq3_0 xq3_1 ((((mo : Nat) : Int)) % 66))) M hkk4 hlk4 SAk4 (weakN SKk4)) ?_; clear F M a; rintro _ w a M rfl F
    rw [chkF_yes hv9] at F
    refine rl_guard_t F rfl rfl rfl (decide_eq_true (by decide)) ?_
    refine rl_run F (run_eqi (F.ev rfl) (F.ev rfl)) rfl ?_; clear F a; intro a F
    refine rl_run F (run_pick_t (F.ev rfl) (decide_eq_true (by decide)) (F.ev rfl)) rfl ?_; clear F a; intro a F
    refine rl_run F (run_move (F.ev rfl)) rfl ?_; clear F a; intro a F
    refine rl_guard_t F rfl rfl rfl (decide_eq_true (by decide)) ?_
    refine rl_run F (run_loadA tok30 rfl (F.ev rfl) (cs := [.int .u8 ((rendN xq3_0 xq3_1 ((((mo : Nat) : Int)) % 66)).kind), .string (str ((rendN xq3_0 xq3_1 ((((mo : Nat) : Int)) % 66)).tag)), .string (str ((rendN xq3_0 xq3_1 ((((mo : Nat) : Int)) % 66)).key)), .slice (tak4) ((rendN xq3_0 xq3_1 ((((mo : Nat) : Int)) % 66)).as.length) ((rendN xq3_0 xq3_1 ((((mo : Nat) : Int)) % 66)).as.length), .string (str ((rendN xq3_0 xq3_1 ((((mo : Nat) : Int)) % 66)).text)), .slice (kak4) ((rendN xq3_0 xq3_1 ((((mo : Nat) : Int)) % 66)).kids.length) ((rendN xq3_0 xq3_1 ((((mo : Nat) : Int)) % 66)).kids.length)]) rfl (M.cellsL (k := 1) rfl rfl)) rfl ?_; clear F a; intro a F
    refine rl_guard_t F rfl rfl rfl (decide_eq_true (by decide)) ?_
    refine rl_callS F ent17 rfl rfl (ncount_spec (x := (rendN xq3_0 xq3_1 ((((mo : Nat) : Int)) % 66))) M hkk4 hlk4 SAk4 (weakN SKk4)) ?_; clear F M a; rintro _ w a M rfl F
    refine rl_guard_t F rfl rfl rfl (decide_eq_true (by decide)) ?_
    refine rl_run F (run_move (F.ev rfl)) rfl ?_; clear F a; intro a F
    refine rl_guard_t F rfl rfl rfl (decide_eq_true (by decide)) ?_
    refine rl_run F (run_eqi (F.ev rfl) (F.ev rfl)) rfl ?_; clear F a; intro a F
    refine rl_run F (run_pick_t (F.ev rfl) (decide_eq_true (by decide)) (F.ev rfl)) rfl ?_; clear F a; intro a F
    refine rl_run F (run_move (F.ev rfl)) rfl ?_; clear F a; intro a F
    refine rl_guard_t F rfl rfl rfl (decide_eq_true (by rw [hc9])) ?_
    refine rl_callS F ent28 rfl rfl (lives_spec M) ?_; clear F M a; rintro _ w a M rfl F
    refine rl_run F (run_pick_t (F.ev rfl) (decide_eq_true (by rw [hc9])) (F.ev rfl)) rfl ?_; clear F a; intro a F
    refine rl_run F (run_assign (F.ev rfl)) rfl ?_; clear F a; intro a F
    refine rl_nil <| q_tn <| wp_ret <| fin1 F rfl rfl ?_
    exact ⟨_, ((hGq3.trans hGk4).trans hGk7), M.weaken (.cons _ (.cons _ (.cons _ (.cons _ (.cons _ (.cons _ (List.Sublist.refl _))))))), by rfl⟩
theorem renderlaw_spec {w0 w : World} {G : Ghost} {L : List Res} (M : Mem w0 G L w) {ca : Option Addr} {cc : Nat} {cs : List UInt8} (S : RdSl rdB 1 G (.slice ca cs.length cc) cs) {pt psl : Nat} (hpt : pt < 256) (hps : psl < 256) {ca1 : Option Addr} {cc1 : Nat} {cs1 : List UInt8} (S1 : RdSl rdB 1 G (.slice ca1 cs1.length cc1) cs1) {ik1 it1 : Nat} (hik1 : ik1 < 65536) (hit1 : it1 < 256) {mo : Nat} (hmo : mo < 256) : Calls Tryz.prog 4 #[.agg #[.int .u8 (((pt : Nat) : Int)), .int .u8 (((psl : Nat) : Int)), .slice (ca) (cs.length) (cc)], .agg #[.int .u16 (((ik1 : Nat) : Int)), .int .u8 (((it1 : Nat) : Int)), .slice (ca1) (cs1.length) (cc1)], .int .u8 (mo : Int)] w (RetS w0 G L fun v => v = .bool true) := Ret.plain M (renderlaw_ret M S hpt hps S1 hik1 hit1 hmo)
theorem renderlaw_law {w0 w : World} {G : Ghost} {L : List Res} (M : Mem w0 G L w) {ca : Option Addr} {cc : Nat} {cs : List UInt8} (S : RdSl rdB 1 G (.slice ca cs.length cc) cs) {n0 n1 : Int} (k0 : inKind .u8 n0) (k1 : inKind .u8 n1) {ca1 : Option Addr} {cc1 : Nat} {cs1 : List UInt8} (S1 : RdSl rdB 1 G (.slice ca1 cs1.length cc1) cs1) {n2 m2 : Int} (kn2 : inKind .u16 n2) (km2 : inKind .u8 m2) {mo : Int} (hmo : inKind .u8 mo) :
    Calls Tryz.prog 4 #[.agg #[.int .u8 n0, .int .u8 n1, .slice ca cs.length cc], .agg #[.int .u16 n2, .int .u8 m2, .slice ca1 cs1.length cc1], .int .u8 mo] w (RetS w0 G L fun v => v = .bool true) := by
  obtain ⟨pt, rfl, hpt⟩ := u8_nat k0
  obtain ⟨psl, rfl, hps⟩ := u8_nat k1
  obtain ⟨i2, rfl, h2⟩ := u16_nat kn2
  obtain ⟨j2, rfl, g2⟩ := u8_nat km2
  obtain ⟨mq, rfl, h3⟩ := u8_nat hmo
  exact renderlaw_spec M S hpt hps S1 h2 g2 h3
end Go.Proofs.YtlnehkjmmegkhaaGreat
