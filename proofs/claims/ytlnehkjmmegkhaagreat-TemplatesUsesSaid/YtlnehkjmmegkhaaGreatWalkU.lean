/- The walks, part U. -/
import Derived.Test.YtlnehkjmmegkhaaGreatWalkS
import Derived.Test.YtlnehkjmmegkhaaGreatPar
namespace Go.Proofs.YtlnehkjmmegkhaaGreat
open Go Go.Y Go.Proofs
set_option linter.unusedSimpArgs false
set_option linter.unusedVariables false
def GoodP : Ghost → List Value → Prop := fun G' cs => ∃ (x : PT) (ta ka : Option Addr) (tc kc : Nat), cs = [.int .u8 (x.kind), .string (str (x.tag)), .string (str (x.key)), .slice (ta) (x.as.length) (tc), .string (str (x.text)), .slice (ka) (x.kids.length) (kc)] ∧ ValidP x ∧ (x.tag.length ≤ 9223372036854775807 ∧ x.key.length ≤ 9223372036854775807 ∧ x.text.length ≤ 9223372036854775807) ∧ RdSl rdSlot 3 G' (.slice ta x.as.length tc) x.as ∧ RdSl rdP 6 G' (.slice ka x.kids.length kc) x.kids
def GoodI : Ghost → List Value → Prop := fun G' cs => ∃ (x : ItemD) (ma : Option Addr) (mc : Nat), cs = [.int .u64 (x.key), .int .u8 (x.typ), .string (str (x.text)), .slice (ma) (x.marks.length) (mc)] ∧ ItemOk x ∧ inKind .u64 x.key ∧ RdSl rdStr 1 G' (.slice ma x.marks.length mc) x.marks
theorem does_pof {w0 : World} {G : Ghost} {ca : Option Addr} {cc : Nat} {cs : List UInt8} (S : RdSl rdB 1 G (.slice ca cs.length cc) cs) {pt psl : Nat} (hpt : pt < 256) (hps : psl < 256) {ld cl al st sp sl sc sa pb : Nat} : Thr.Does Tryz.prog w0 G ⟨ld, cl, al, st, sp, sl, sc, sa, pb, 39, 46, 20, [.int .u8 (((pt : Nat) : Int)), .int .u8 (((psl : Nat) : Int)), .slice (ca) (cs.length) (cc)], [.int .u8 (0), .string (str ([] : List UInt8)), .string (str ([] : List UInt8)), .slice none (0) (0), .string (str ([] : List UInt8)), .slice none (0) (0)], GoodP⟩ :=
  ⟨fun w G' L hG M => ret_imp (pof_spec M (S.mono mono_rdB hG) hpt hps) fun G'' v h => by
      obtain ⟨x, ta, ka, tc, kc, rfl, h⟩ := h
      exact ⟨_, rfl, x, ta, ka, tc, kc, rfl, h⟩,
    fun G' G'' cs hG h => by
      obtain ⟨x, ta, ka, tc, kc, rfl, hV, hl, SA, SK⟩ := h
      exact ⟨x, ta, ka, tc, kc, rfl, hV, hl, SA.mono mono_rdSlot hG, SK.mono mono_rdP hG⟩,
    fun G' cs h => by
      obtain ⟨x, ta, ka, tc, kc, rfl, _⟩ := h
      exact ⟨rfl, by simp [Value.oneCell']⟩⟩
theorem does_iof {w0 : World} {G : Ghost} {ca : Option Addr} {cc : Nat} {cs : List UInt8} (S : RdSl rdB 1 G (.slice ca cs.length cc) cs) {ik it : Nat} (hik : ik < 65536) (hit : it < 256) {ld cl al st sp sl sc sa pb : Nat} : Thr.Does Tryz.prog w0 G ⟨ld, cl, al, st, sp, sl, sc, sa, pb, 42, 51, 21, [.int .u16 (((ik : Nat) : Int)), .int .u8 (((it : Nat) : Int)), .slice (ca) (cs.length) (cc)], [.int .u64 (0), .int .u8 (0), .string (str ([] : List UInt8)), .slice none (0) (0)], GoodI⟩ :=
  ⟨fun w G' L hG M => ret_imp (iof_spec M (S.mono mono_rdB hG) hik hit) fun G'' v h => by
      obtain ⟨x, ma, mc, rfl, h⟩ := h
      exact ⟨_, rfl, x, ma, mc, rfl, h⟩,
    fun G' G'' cs hG h => by
      obtain ⟨x, ma, mc, rfl, hio, hk, SM⟩ := h
      exact ⟨x, ma, mc, rfl, hio, hk, SM.mono mono_rdStr hG⟩,
    fun G' cs h => by
      obtain ⟨x, ma, mc, rfl, _⟩ := h
      exact ⟨rfl, by simp [Value.oneCell']⟩⟩
theorem dec_if (b : Bool) : decide ((if b = true then (1 : Int) else 0) = 1) = b := by cases b <;> rfl
theorem usesF1 {x : PT} (h : ValidP x) : (usesF x).1 = usesB 1 x := by unfold usesF; rw [if_pos h]
theorem usesF2 {x : PT} (h : ValidP x) : (usesF x).2.1 = usesB 2 x := by unfold usesF; rw [if_pos h]
theorem usesF3 {x : PT} (h : ValidP x) : (usesF x).2.2 = usesB 3 x := by unfold usesF; rw [if_pos h]
theorem attrs_same {a b : ItemD} {al : List SlotD} (h1 : (al.any fun s => decide (s.src = 1)) = true → b.text = a.text) (h2 : (al.any fun s => decide (s.src = 2)) = true → b.key = a.key) (h3 : (al.any fun s => decide (s.src = 3)) = true → b.marks = a.marks) : al.map (attrF b) = al.map (attrF a) := by
  refine List.map_congr_left fun s hs => ?_
  have hany : ∀ k : Int, s.src = k → (al.any fun s => decide (s.src = k)) = true := fun k hk => List.any_eq_true.2 ⟨s, hs, by simp [hk]⟩
  have : attrV b s = attrV a s := by
    unfold attrV
    by_cases e1 : s.src = 1
    · rw [if_pos e1, if_pos e1, h1 (hany 1 e1)]
    rw [if_neg e1, if_neg e1]
    by_cases e2 : s.src = 2
    · rw [if_pos e2, if_pos e2, h2 (hany 2 e2)]
    rw [if_neg e2, if_neg e2]
    by_cases e3 : s.src = 3
    · rw [if_pos e3, if_pos e3, h3 (hany 3 e3)]
    rw [if_neg e3, if_neg e3]
  unfold attrF; rw [this]
theorem mades_same {a b : ItemD} : ∀ {l : List PT}, (∀ c ∈ l, madeF b c = madeF a c) → madesF b l = madesF a l
  | [], _ => rfl
  | c :: l, h => by rw [madesF, madesF, h c (by simp), mades_same fun c hc => h c (by simp [hc])]
theorem made_same {a b : ItemD} (p : PT) : (usesB 1 p = true → b.text = a.text) → (usesB 2 p = true → b.key = a.key) → (usesB 3 p = true → b.marks = a.marks) →
    madeF b p = madeF a p ∧ p.as.map (attrF b) = p.as.map (attrF a) ∧ madesF b p.kids = madesF a p.kids := by
  induction p using Tr.ind with
  | _ p ih =>
    intro h1 h2 h3
    have u : ∀ k : Int, (p.as.any fun s => decide (s.src = k)) = true → usesB k p = true := fun k h => by rw [usesB_eq]; simp [h]
    have hk : madesF b p.kids = madesF a p.kids := mades_same fun c hc => by
      obtain ⟨i, hi⟩ := List.mem_iff_getElem?.1 hc
      exact (ih c hc (fun h => h1 (uses_kid hi h)) (fun h => h2 (uses_kid hi h)) (fun h => h3 (uses_kid hi h))).1
    have ha : p.as.map (attrF b) = p.as.map (attrF a) := attrs_same (fun h => h1 (u 1 h)) (fun h => h2 (u 2 h)) (fun h => h3 (u 3 h))
    refine ⟨?_, ha, hk⟩
    obtain ⟨k, tag, key, al, text, kids⟩ := p
    simp only [Tr.as, Tr.kids] at ha hk
    have kd : ∀ q : Int, k = q + 2 → usesB q (.mk k tag key al text kids) = true := fun q h => uses_kind h
    unfold madeF
    by_cases e1 : k = 1
    · rw [if_pos e1, if_pos e1, ha, hk]
    rw [if_neg e1, if_neg e1]
    by_cases e2 : k = 2
    · rw [if_pos e2, if_pos e2]
    rw [if_neg e2, if_neg e2]
    by_cases e3 : k = 3
    · rw [if_pos e3, if_pos e3, h1 (kd 1 (by omega))]
    rw [if_neg e3, if_neg e3]
    by_cases e4 : k = 4
    · rw [if_pos e4, if_pos e4, h2 (kd 2 (by omega))]
    rw [if_neg e4, if_neg e4]
    by_cases e5 : k = 5
    · rw [if_pos e5, if_pos e5, h3 (kd 3 (by omega))]
      refine List.map_congr_left fun m _ => ?_
      unfold eachN; rw [ha]
    rw [if_neg e5, if_neg e5]
theorem rend_uses {a b : ItemD} {p : PT} {m : Int} (ha : ItemOk a) (hb : ItemOk b) (h1 : usesB 1 p = true → b.text = a.text) (h2 : usesB 2 p = true → b.key = a.key) (h3 : usesB 3 p = true → b.marks = a.marks) : rendE p b m = rendE p a m ∧ rendN p b m = rendN p a m := by
  obtain ⟨_, h4, h5⟩ := made_same p h1 h2 h3
  have hn : node1 b p = node1 a p := by unfold node1; rw [h4, h5]
  have he : rendE p b m = rendE p a m := by unfold rendE; rw [hn, if_neg (not_not_intro hb), if_neg (not_not_intro ha)]
  exact ⟨he, by unfold rendN; rw [he, hn]⟩
theorem itm_len {x : ItemD} (h : ItemOk x) : x.text.length ≤ 9223372036854775807 := by have := h.2.1.1; omega
theorem useslaw_ret {w0 w : World} {G : Ghost} {L : List Res} (M : Mem w0 G L w) {ca : Option Addr} {cc : Nat} {cs : List UInt8} (S : RdSl rdB 1 G (.slice ca cs.length cc) cs) {pt psl : Nat} (hpt : pt < 256) (hps : psl < 256) {ca1 : Option Addr} {cc1 : Nat} {cs1 : List UInt8} (S1 : RdSl rdB 1 G (.slice ca1 cs1.length cc1) cs1) {ik1 it1 : Nat} (hik1 : ik1 < 65536) (hit1 : it1 < 256) {ca2 : Option Addr} {cc2 : Nat} {cs2 : List UInt8} (S2 : RdSl rdB 1 G (.slice ca2 cs2.length cc2) cs2) {ik2 it2 : Nat} (hik2 : ik2 < 65536) (hit2 : it2 < 256) : Calls Tryz.prog 5 #[.agg #[.int .u8 (((pt : Nat) : Int)), .int .u8 (((psl : Nat) : Int)), .slice (ca) (cs.length) (cc)], .agg #[.int .u16 (((ik1 : Nat) : Int)), .int .u8 (((it1 : Nat) : Int)), .slice (ca1) (cs1.length) (cc1)], .agg #[.int .u16 (((ik2 : Nat) : Int)), .int .u8 (((it2 : Nat) : Int)), .slice (ca2) (cs2.length) (cc2)]] w (Ret w0 G L fun _ v => v = .bool true) := by
  refine calls_start (vs := [_, _, _]) Tryz.func5 rfl (n := 97) rfl rfl ?_
  intro a F
  refine wp_seq <| w_reg <| rl_box F M rfl (cs := [.int .u8 (((pt : Nat) : Int)), .int .u8 (((psl : Nat) : Int)), .slice (ca) (cs.length) (cc)]) rfl rfl ?_; clear F M a; intro b1 w a M F
  refine rl_box F M rfl (cs := [.int .u16 (((ik1 : Nat) : Int)), .int .u8 (((it1 : Nat) : Int)), .slice (ca1) (cs1.length) (cc1)]) rfl rfl ?_; clear F M a; intro b2 w a M F
  refine rl_box F M rfl (cs := [.int .u16 (((ik2 : Nat) : Int)), .int .u8 (((it2 : Nat) : Int)), .slice (ca2) (cs2.length) (cc2)]) rfl rfl ?_; clear F M a; intro b3 w a M F
  refine rl_run F (run_assign (F.ev rfl)) rfl ?_; clear F a; intro a F
  refine rl_nil <| q_tn <| wp_seq <| w_threads [⟨0, 1, 6, 9, 3, 16, 17, 7, b1, 39, 46, 20, [.int .u8 (((pt : Nat) : Int)), .int .u8 (((psl : Nat) : Int)), .slice (ca) (cs.length) (cc)], [.int .u8 (0), .string (str ([] : List UInt8)), .string (str ([] : List UInt8)), .slice none (0) (0), .string (str ([] : List UInt8)), .slice none (0) (0)], GoodP⟩, ⟨2, 3, 7, 10, 4, 18, 19, 8, b2, 42, 51, 21, [.int .u16 (((ik1 : Nat) : Int)), .int .u8 (((it1 : Nat) : Int)), .slice (ca1) (cs1.length) (cc1)], [.int .u64 (0), .int .u8 (0), .string (str ([] : List UInt8)), .slice none (0) (0)], GoodI⟩, ⟨4, 5, 8, 11, 5, 20, 21, 9, b3, 42, 51, 21, [.int .u16 (((ik2 : Nat) : Int)), .int .u8 (((it2 : Nat) : Int)), .slice (ca2) (cs2.length) (cc2)], [.int .u64 (0), .int .u8 (0), .string (str ([] : List UInt8)), .slice none (0) (0)], GoodI⟩] rfl F M (by kernel_rfl) (by kernel_rfl) (by kernel_rfl) (by kernel_rfl) ⟨⟨⟨_, _, _, rfl⟩, ⟨_, _, _, _, rfl, rfl⟩, ⟨_, _, _, rfl⟩, ⟨_, _, _, rfl, rfl, rfl⟩, rfl, rfl, ⟨rfl, rfl, rfl⟩, ent20, ⟨_, tok39, rfl, rfl⟩, ⟨_, tok46, rfl, rfl⟩⟩, ⟨⟨_, _, _, rfl⟩, ⟨_, _, _, _, rfl, rfl⟩, ⟨_, _, _, rfl⟩, ⟨_, _, _, rfl, rfl, rfl⟩, rfl, rfl, ⟨rfl, rfl, rfl⟩, ent21, ⟨_, tok42, rfl, rfl⟩, ⟨_, tok51, rfl, rfl⟩⟩, ⟨⟨_, _, _, rfl⟩, ⟨_, _, _, _, rfl, rfl⟩, ⟨_, _, _, rfl⟩, ⟨_, _, _, rfl, rfl, rfl⟩, rfl, rfl, ⟨rfl, rfl, rfl⟩, ent21, ⟨_, tok42, rfl, rfl⟩, ⟨_, tok51, rfl, rfl⟩⟩, trivial⟩ ⟨does_pof S hpt hps, does_iof S1 hik1 hit1, does_iof S2 hik2 hit2, trivial⟩ ⟨⟨rfl, by simp⟩, ⟨rfl, by simp⟩, ⟨rfl, by simp⟩, trivial⟩ ?_
  clear F M a; rintro a w Gq4 _ F hGq4 M ⟨_, _, rfl, ⟨_, bq4_0, dq4_0, eq4_0, fq4_0, ⟨xq4_0, taq4_0, kaq4_0, tcq4_0, kcq4_0, rfl, hVq4_0, hlq4_0, SAq4_0, SKq4_0⟩, rfl⟩, _, _, rfl, ⟨_, bq4_1, dq4_1, eq4_1, fq4_1, ⟨xq4_1, maq4_1, mcq4_1, rfl, hIq4_1, hkq4_1, SMq4_1⟩, rfl⟩, _, _, rfl, ⟨_, bq4_2, dq4_2, eq4_2, fq4_2, ⟨xq4_2, maq4_2, mcq4_2, rfl, hIq4_2, hkq4_2, SMq4_2⟩, rfl⟩, rfl⟩
  replace S := S.mono mono_rdB hGq4
  replace S1 := S1.mono mono_rdB hGq4
  replace S2 := S2.mono mono_rdB hGq4
  replace F := (((((((((F.add (d := 16) (v := .agg #[.int .u8 (((pt : Nat) : Int)), .int .u8 (((psl : Nat) : Int)), .slice (ca) (cs.length) (cc)]) dq4_0).add (d := 17) (v := .agg #[.int .u8 (xq4_0.kind), .string (str (xq4_0.tag)), .string (str (xq4_0.key)), .slice (taq4_0) (xq4_0.as.length) (tcq4_0), .string (str (xq4_0.text)), .slice (kaq4_0) (xq4_0.kids.length) (kcq4_0)]) eq4_0).add (d := 7) (v := .pointer (some ⟨bq4_0, 0, none⟩)) fq4_0).add (d := 18) (v := .agg #[.int .u16 (((ik1 : Nat) : Int)), .int .u8 (((it1 : Nat) : Int)), .slice (ca1) (cs1.length) (cc1)]) dq4_1).add (d := 19) (v := .agg #[.int .u64 (xq4_1.key), .int .u8 (xq4_1.typ), .string (str (xq4_1.text)), .slice (maq4_1) (xq4_1.marks.length) (mcq4_1)]) eq4_1).add (d := 8) (v := .pointer (some ⟨bq4_1, 0, none⟩)) fq4_1).add (d := 20) (v := .agg #[.int .u16 (((ik2 : Nat) : Int)), .int .u8 (((it2 : Nat) : Int)), .slice (ca2) (cs2.length) (cc2)]) dq4_2).add (d := 21) (v := .agg #[.int .u64 (xq4_2.key), .int .u8 (xq4_2.typ), .string (str (xq4_2.text)), .slice (maq4_2) (xq4_2.marks.length) (mcq4_2)]) eq4_2).add (d := 9) (v := .pointer (some ⟨bq4_2, 0, none⟩)) fq4_2)
  clear dq4_0 eq4_0 fq4_0 dq4_1 eq4_1 fq4_1 dq4_2 eq4_2 fq4_2
  change Mem w0 Gq4 (.blk bq4_0 [.int .u8 (xq4_0.kind), .string (str (xq4_0.tag)), .string (str (xq4_0.key)), .slice (taq4_0) (xq4_0.as.length) (tcq4_0), .string (str (xq4_0.text)), .slice (kaq4_0) (xq4_0.kids.length) (kcq4_0)] 46 :: .blk bq4_1 [.int .u64 (xq4_1.key), .int .u8 (xq4_1.typ), .string (str (xq4_1.text)), .slice (maq4_1) (xq4_1.marks.length) (mcq4_1)] 51 :: .blk bq4_2 [.int .u64 (xq4_2.key), .int .u8 (xq4_2.typ), .string (str (xq4_2.text)), .slice (maq4_2) (xq4_2.marks.length) (mcq4_2)] 51 :: .blk b3 [.int .u16 (((ik2 : Nat) : Int)), .int .u8 (((it2 : Nat) : Int)), .slice (ca2) (cs2.length) (cc2)] 42 :: .blk b2 [.int .u16 (((ik1 : Nat) : Int)), .int .u8 (((it1 : Nat) : Int)), .slice (ca1) (cs1.length) (cc1)] 42 :: .blk b1 [.int .u8 (((pt : Nat) : Int)), .int .u8 (((psl : Nat) : Int)), .slice (ca) (cs.length) (cc)] 39 :: L) _ at M
  refine q_tn <| wp_seq <| w_reg <| rl_run F (run_loadA tok46 rfl (F.ev rfl) (cs := [.int .u8 (xq4_0.kind), .string (str (xq4_0.tag)), .string (str (xq4_0.key)), .slice (taq4_0) (xq4_0.as.length) (tcq4_0), .string (str (xq4_0.text)), .slice (kaq4_0) (xq4_0.kids.length) (kcq4_0)]) rfl (M.cellsL (k := 0) rfl rfl)) rfl ?_; clear F a; intro a F
  refine rl_callS F ent31 rfl rfl (tuses_spec (x := xq4_0) M (validP_kind hVq4_0) hlq4_0 SAq4_0 SKq4_0) ?_; clear F M a; rintro _ w a M rfl F
  rw [usesF1 hVq4_0, usesF2 hVq4_0, usesF3 hVq4_0, chkP_yes hVq4_0] at F
  refine rl_run F (run_move (F.ev rfl)) rfl ?_; clear F a; intro a F
  refine rl_run F (run_extract (v := .agg #[.bool (usesB 1 xq4_0), .bool (usesB 2 xq4_0), .bool (usesB 3 xq4_0)]) (F.ev rfl) rfl) rfl ?_; clear F a; intro a F
  refine rl_run F (run_extract (v := .int .i64 (0)) (F.ev rfl) rfl) rfl ?_; clear F a; intro a F
  refine rl_alloc F M tok64 rfl rfl ?_; clear F M a; intro b5 w a M F
  refine rl_storeA F M tok64 (k := 0) rfl rfl rfl (us := [.bool (usesB 1 xq4_0), .bool (usesB 2 xq4_0), .bool (usesB 3 xq4_0)]) rfl rfl (by simp [Value.oneCell']) (by simp) ?_; clear F M a; intro w a M F
  change Mem w0 Gq4 (.blk b5 [.bool (usesB 1 xq4_0), .bool (usesB 2 xq4_0), .bool (usesB 3 xq4_0)] 64 :: .blk bq4_0 [.int .u8 (xq4_0.kind), .string (str (xq4_0.tag)), .string (str (xq4_0.key)), .slice (taq4_0) (xq4_0.as.length) (tcq4_0), .string (str (xq4_0.text)), .slice (kaq4_0) (xq4_0.kids.length) (kcq4_0)] 46 :: .blk bq4_1 [.int .u64 (xq4_1.key), .int .u8 (xq4_1.typ), .string (str (xq4_1.text)), .slice (maq4_1) (xq4_1.marks.length) (mcq4_1)] 51 :: .blk bq4_2 [.int .u64 (xq4_2.key), .int .u8 (xq4_2.typ), .string (str (xq4_2.text)), .slice (maq4_2) (xq4_2.marks.length) (mcq4_2)] 51 :: .blk b3 [.int .u16 (((ik2 : Nat) : Int)), .int .u8 (((it2 : Nat) : Int)), .slice (ca2) (cs2.length) (cc2)] 42 :: .blk b2 [.int .u16 (((ik1 : Nat) : Int)), .int .u8 (((it1 : Nat) : Int)), .slice (ca1) (cs1.length) (cc1)] 42 :: .blk b1 [.int .u8 (((pt : Nat) : Int)), .int .u8 (((psl : Nat) : Int)), .slice (ca) (cs.length) (cc)] 39 :: L) _ at M
  refine rl_run F (run_assign (F.ev rfl)) rfl ?_; clear F a; intro a F
  refine rl_nil <| q_tn ?_
  iterate 2 (refine wp_seq ?_)
  refine w_plan2 [(.free, 0), (.free, 1), (.free, 2), (.free, 3), (.pure, 4), (.pure, 5), (.keep, 6), (.free, 7), (.free, 8), (.free, 9), (.free, 10), (.free, 11), (.pure, 12), (.pure, 13), (.keep, 14), (.free, 15), (.free, 16), (.free, 17), (.free, 18), (.free, 19), (.pure, 20), (.pure, 21), (.keep, 22), (.free, 23), (.free, 24), (.free, 25)] [] (Keep Gq4 [.blk b5 [.bool (usesB 1 xq4_0), .bool (usesB 2 xq4_0), .bool (usesB 3 xq4_0)] 64, .blk bq4_0 [.int .u8 (xq4_0.kind), .string (str (xq4_0.tag)), .string (str (xq4_0.key)), .slice (taq4_0) (xq4_0.as.length) (tcq4_0), .string (str (xq4_0.text)), .slice (kaq4_0) (xq4_0.kids.length) (kcq4_0)] 46, .blk bq4_1 [.int .u64 (xq4_1.key), .int .u8 (xq4_1.typ), .string (str (xq4_1.text)), .slice (maq4_1) (xq4_1.marks.length) (mcq4_1)] 51, .blk bq4_2 [.int .u64 (xq4_2.key), .int .u8 (xq4_2.typ), .string (str (xq4_2.text)), .slice (maq4_2) (xq4_2.marks.length) (mcq4_2)] 51, .blk b3 [.int .u16 (((ik2 : Nat) : Int)), .int .u8 (((it2 : Nat) : Int)), .slice (ca2) (cs2.length) (cc2)] 42, .blk b2 [.int .u16 (((ik1 : Nat) : Int)), .int .u8 (((it1 : Nat) : Int)), .slice (ca1) (cs1.length) (cc1)] 42, .blk b1 [.int .u8 (((pt : Nat) : Int)), .int .u8 (((psl : Nat) : Int)), .slice (ca) (cs.length) (cc)] 39]) rfl (by kernel_rfl) (fun c a d v w h => by cases d <;> exact h) ((M.drew _).keep (Gle.refl _) (by simp)) ?_
  replace M := M.drew (w.drawn + 1)
  refine pk_free F (fun w _ => run_move (F.ev rfl)) rfl ?_; clear F a; intro a F
  refine pk_free F (fun w _ => run_nei (F.ev rfl) (F.ev rfl)) rfl ?_; clear F a; intro a F
  refine pk_free F (fun w _ => run_move (F.ev rfl)) rfl ?_; clear F a; intro a F
  refine pk_free_g F rfl rfl (not_f (decide_eq_true (by decide))) (fun w _ => run_fieldAddr tok64.k rfl rfl (F.ev rfl)) rfl ?_; clear F a; intro a F
  refine pk_pure_g F rfl rfl (not_f (decide_eq_true (by decide))) (fun w M => run_load1 (agf tok4 rfl) (F.ev rfl) (M.cellL (k := 0) rfl rfl)) rfl ?_; clear F a; intro a F
  refine pk_pure_g F rfl rfl (not_f (decide_eq_true (by decide))) (fun w M => run_loadA tok46 rfl (F.ev rfl) (cs := [.int .u8 (xq4_0.kind), .string (str (xq4_0.tag)), .string (str (xq4_0.key)), .slice (taq4_0) (xq4_0.as.length) (tcq4_0), .string (str (xq4_0.text)), .slice (kaq4_0) (xq4_0.kids.length) (kcq4_0)]) rfl (M.cellsL (k := 1) rfl rfl)) rfl ?_; clear F a; intro a F
  refine pk_keep_g F rfl rfl (not_f (decide_eq_true (by decide))) ?_
  refine rl_guard_t F rfl rfl rfl (not_f (decide_eq_true (by decide))) ?_
  refine rl_callS F ent32 rfl rfl (ruses_all xq4_0 _ _ _ _ _ _ _ _ 1 M (validP_kind hVq4_0) hlq4_0 SAq4_0 SKq4_0 (by decide) (by decide)) ?_; clear F M a; rintro _ w a M rfl F
  refine rl_nil <| ⟨Keep Gq4 [.blk b5 [.bool (usesB 1 xq4_0), .bool (usesB 2 xq4_0), .bool (usesB 3 xq4_0)] 64, .blk bq4_0 [.int .u8 (xq4_0.kind), .string (str (xq4_0.tag)), .string (str (xq4_0.key)), .slice (taq4_0) (xq4_0.as.length) (tcq4_0), .string (str (xq4_0.text)), .slice (kaq4_0) (xq4_0.kids.length) (kcq4_0)] 46, .blk bq4_1 [.int .u64 (xq4_1.key), .int .u8 (xq4_1.typ), .string (str (xq4_1.text)), .slice (maq4_1) (xq4_1.marks.length) (mcq4_1)] 51, .blk bq4_2 [.int .u64 (xq4_2.key), .int .u8 (xq4_2.typ), .string (str (xq4_2.text)), .slice (maq4_2) (xq4_2.marks.length) (mcq4_2)] 51, .blk b3 [.int .u16 (((ik2 : Nat) : Int)), .int .u8 (((it2 : Nat) : Int)), .slice (ca2) (cs2.length) (cc2)] 42, .blk b2 [.int .u16 (((ik1 : Nat) : Int)), .int .u8 (((it1 : Nat) : Int)), .slice (ca1) (cs1.length) (cc1)] 42, .blk b1 [.int .u8 (((pt : Nat) : Int)), .int .u8 (((psl : Nat) : Int)), .slice (ca) (cs.length) (cc)] 39], M.keep (Gle.refl _) (by simp), fun w h => h.mono (Gle.refl _) (by simp), ?_⟩
  refine pk_free_g F rfl rfl (not_f (decide_eq_true (by decide))) (fun w _ => run_eqi (F.ev rfl) (F.ev rfl)) rfl ?_; clear F a; intro a F
  rw [dec_if] at F
  refine pk_free_g F rfl rfl (not_f (decide_eq_true (by decide))) (fun w _ => run_neb tok4.k (F.ev rfl) (F.ev rfl)) rfl ?_; clear F a; intro a F
  refine pk_free F (fun w _ => run_pick_f (F.ev rfl) (not_f (decide_eq_true (by decide))) (F.ev rfl)) rfl ?_; clear F a; intro a F
  refine pk_free F (fun w _ => run_move (F.ev rfl)) rfl ?_; clear F a; intro a F
  refine pk_free_g F rfl rfl (by simp) (fun w _ => run_fieldAddr tok64.k rfl rfl (F.ev rfl)) rfl ?_; clear F a; intro a F
  refine pk_pure_g F rfl rfl (by simp) (fun w M => run_load1 (agf tok4 rfl) (F.ev rfl) (M.cellL (k := 0) rfl rfl)) rfl ?_; clear F a; intro a F
  refine pk_pure_g F rfl rfl (by simp) (fun w M => run_loadA tok46 rfl (F.ev rfl) (cs := [.int .u8 (xq4_0.kind), .string (str (xq4_0.tag)), .string (str (xq4_0.key)), .slice (taq4_0) (xq4_0.as.length) (tcq4_0), .string (str (xq4_0.text)), .slice (kaq4_0) (xq4_0.kids.length) (kcq4_0)]) rfl (M.cellsL (k := 1) rfl rfl)) rfl ?_; clear F a; intro a F
  refine pk_keep_g F rfl rfl (by simp) ?_
  refine rl_guard_t F rfl rfl rfl (by simp) ?_
  refine rl_callS F ent32 rfl rfl (ruses_all xq4_0 _ _ _ _ _ _ _ _ 2 M (validP_kind hVq4_0) hlq4_0 SAq4_0 SKq4_0 (by decide) (by decide)) ?_; clear F M a; rintro _ w a M rfl F
  refine rl_nil <| ⟨Keep Gq4 [.blk b5 [.bool (usesB 1 xq4_0), .bool (usesB 2 xq4_0), .bool (usesB 3 xq4_0)] 64, .blk bq4_0 [.int .u8 (xq4_0.kind), .string (str (xq4_0.tag)), .string (str (xq4_0.key)), .slice (taq4_0) (xq4_0.as.length) (tcq4_0), .string (str (xq4_0.text)), .slice (kaq4_0) (xq4_0.kids.length) (kcq4_0)] 46, .blk bq4_1 [.int .u64 (xq4_1.key), .int .u8 (xq4_1.typ), .string (str (xq4_1.text)), .slice (maq4_1) (xq4_1.marks.length) (mcq4_1)] 51, .blk bq4_2 [.int .u64 (xq4_2.key), .int .u8 (xq4_2.typ), .string (str (xq4_2.text)), .slice (maq4_2) (xq4_2.marks.length) (mcq4_2)] 51, .blk b3 [.int .u16 (((ik2 : Nat) : Int)), .int .u8 (((it2 : Nat) : Int)), .slice (ca2) (cs2.length) (cc2)] 42, .blk b2 [.int .u16 (((ik1 : Nat) : Int)), .int .u8 (((it1 : Nat) : Int)), .slice (ca1) (cs1.length) (cc1)] 42, .blk b1 [.int .u8 (((pt : Nat) : Int)), .int .u8 (((psl : Nat) : Int)), .slice (ca) (cs.length) (cc)] 39], M.keep (Gle.refl _) (by simp), fun w h => h.mono (Gle.refl _) (by simp), ?_⟩
  refine pk_free_g F rfl rfl (by simp) (fun w _ => run_eqi (F.ev rfl) (F.ev rfl)) rfl ?_; clear F a; intro a F
  rw [dec_if] at F
  refine pk_free_g F rfl rfl (by simp) (fun w _ => run_neb tok4.k (F.ev rfl) (F.ev rfl)) rfl ?_; clear F a; intro a F
  refine pk_free F (fun w _ => run_pick_f (F.ev rfl) (by simp) (F.ev rfl)) rfl ?_; clear F a; intro a F
  refine pk_free F (fun w _ => run_move (F.ev rfl)) rfl ?_; clear F a; intro a F
  refine pk_free_g F rfl rfl (by simp) (fun w _ => run_fieldAddr tok64.k rfl rfl (F.ev rfl)) rfl ?_; clear F a; intro a F
  refine pk_pure_g F rfl rfl (by simp) (fun w M => run_load1 (agf tok4 rfl) (F.ev rfl) (M.cellL (k := 0) rfl rfl)) rfl ?_; clear F a; intro a F
  refine pk_pure_g F rfl rfl (by simp) (fun w M => run_loadA tok46 rfl (F.ev rfl) (cs := [.int .u8 (xq4_0.kind), .string (str (xq4_0.tag)), .string (str (xq4_0.key)), .slice (taq4_0) (xq4_0.as.length) (tcq4_0), .string (str (xq4_0.text)), .slice (kaq4_0) (xq4_0.kids.length) (kcq4_0)]) rfl (M.cellsL (k := 1) rfl rfl)) rfl ?_; clear F a; intro a F
  refine pk_keep_g F rfl rfl (by simp) ?_
  refine rl_guard_t F rfl rfl rfl (by simp) ?_
  refine rl_callS F ent32 rfl rfl (ruses_all xq4_0 _ _ _ _ _ _ _ _ 3 M (validP_kind hVq4_0) hlq4_0 SAq4_0 SKq4_0 (by decide) (by decide)) ?_; clear F M a; rintro _ w a M rfl F
  refine rl_nil <| ⟨Keep Gq4 [.blk b5 [.bool (usesB 1 xq4_0), .bool (usesB 2 xq4_0), .bool (usesB 3 xq4_0)] 64, .blk bq4_0 [.int .u8 (xq4_0.kind), .string (str (xq4_0.tag)), .string (str (xq4_0.key)), .slice (taq4_0) (xq4_0.as.length) (tcq4_0), .string (str (xq4_0.text)), .slice (kaq4_0) (xq4_0.kids.length) (kcq4_0)] 46, .blk bq4_1 [.int .u64 (xq4_1.key), .int .u8 (xq4_1.typ), .string (str (xq4_1.text)), .slice (maq4_1) (xq4_1.marks.length) (mcq4_1)] 51, .blk bq4_2 [.int .u64 (xq4_2.key), .int .u8 (xq4_2.typ), .string (str (xq4_2.text)), .slice (maq4_2) (xq4_2.marks.length) (mcq4_2)] 51, .blk b3 [.int .u16 (((ik2 : Nat) : Int)), .int .u8 (((it2 : Nat) : Int)), .slice (ca2) (cs2.length) (cc2)] 42, .blk b2 [.int .u16 (((ik1 : Nat) : Int)), .int .u8 (((it1 : Nat) : Int)), .slice (ca1) (cs1.length) (cc1)] 42, .blk b1 [.int .u8 (((pt : Nat) : Int)), .int .u8 (((psl : Nat) : Int)), .slice (ca) (cs.length) (cc)] 39], M.keep (Gle.refl _) (by simp), fun w h => h.mono (Gle.refl _) (by simp), ?_⟩
  refine pk_free_g F rfl rfl (by simp) (fun w _ => run_eqi (F.ev rfl) (F.ev rfl)) rfl ?_; clear F a; intro a F
  rw [dec_if] at F
  refine pk_free_g F rfl rfl (by simp) (fun w _ => run_neb tok4.k (F.ev rfl) (F.ev rfl)) rfl ?_; clear F a; intro a F
  refine pk_free F (fun w _ => run_pick_f (F.ev rfl) (by simp) (F.ev rfl)) rfl ?_; clear F a; intro a F
  refine pk_nil <| q_tn <| w_cond_f F rfl (by simp) ?_
  refine wp_skip <| q_tn ?_
  iterate 2 (refine wp_seq ?_)
  refine w_reg <| rl_run F (run_fieldAddr tok64.k rfl rfl (F.ev rfl)) rfl ?_; clear F a; intro a F
  refine rl_run F (run_load1 (agf tok4 rfl) (F.ev rfl) (M.cellL (k := 0) rfl rfl)) rfl ?_; clear F a; intro a F
  refine rl_nil <| q_tn <| w_cut (fun a' w' => ∃ (t9 : List UInt8), Fits 97 a' [(6, .bool false), (7, .pointer (some ⟨bq4_0, 0, none⟩)), (8, .pointer (some ⟨bq4_1, 0, none⟩)), (9, .pointer (some ⟨bq4_2, 0, none⟩)), (10, .pointer (some ⟨b5, 0, none⟩))] ∧ Mem w0 Gq4 (.blk b5 [.bool (usesB 1 xq4_0), .bool (usesB 2 xq4_0), .bool (usesB 3 xq4_0)] 64 :: .blk bq4_0 [.int .u8 (xq4_0.kind), .string (str (xq4_0.tag)), .string (str (xq4_0.key)), .slice (taq4_0) (xq4_0.as.length) (tcq4_0), .string (str (xq4_0.text)), .slice (kaq4_0) (xq4_0.kids.length) (kcq4_0)] 46 :: .blk bq4_1 [.int .u64 (xq4_1.key), .int .u8 (xq4_1.typ), .string (str (xq4_1.text)), .slice (maq4_1) (xq4_1.marks.length) (mcq4_1)] 51 :: .blk bq4_2 [.int .u64 (xq4_2.key), .int .u8 (xq4_2.typ), .string (str (t9)), .slice (maq4_2) (xq4_2.marks.length) (mcq4_2)] 51 :: .blk b3 [.int .u16 (((ik2 : Nat) : Int)), .int .u8 (((it2 : Nat) : Int)), .slice (ca2) (cs2.length) (cc2)] 42 :: .blk b2 [.int .u16 (((ik1 : Nat) : Int)), .int .u8 (((it1 : Nat) : Int)), .slice (ca1) (cs1.length) (cc1)] 42 :: .blk b1 [.int .u8 (((pt : Nat) : Int)), .int .u8 (((psl : Nat) : Int)), .slice (ca) (cs.length) (cc)] 39 :: L) w' ∧ (Str t9) ∧ (usesB 1 xq4_0 = true → t9 = xq4_1.text)) ?_ ?_
  · skip
    refine w_cond F rfl ?_ ?_
    · intro hc
      have h7b := hc; clear hc
      have h7 : (usesB 1 xq4_0) = true := h7b
      refine w_reg <| rl_run F (run_fieldAddr tok51.k rfl rfl (F.ev rfl)) rfl ?_; clear F a; intro a F
      refine rl_run F (run_load1 (agf tok9 rfl) (F.ev rfl) (M.cellL (k := 2) rfl rfl)) rfl ?_; clear F a; intro a F
      refine rl_run F (run_fieldAddr tok51.k rfl rfl (F.ev rfl)) rfl ?_; clear F a; intro a F
      refine rl_store1 F M tok9 rfl (k := 3) rfl rfl rfl rfl rfl ?_; clear F M a; intro w a M F
      refine rl_nil ?_
      exact ⟨xq4_1.text, F.to ⟨rfl, rfl, rfl, rfl, rfl, trivial⟩, M, hIq4_1.2.1, (fun h_ => rfl)⟩
    · intro hc
      have h8b := hc; clear hc
      have h8 : (usesB 1 xq4_0) = false := h8b
      refine wp_skip ?_
      exact ⟨xq4_2.text, F.to ⟨rfl, rfl, rfl, rfl, rfl, trivial⟩, M, hIq4_2.2.1, (fun h_ => absurd ((show usesB 1 xq4_0 = false by assumption).symm.trans h_) (by decide))⟩
  · clear F M
    rintro a w ⟨t9, F, M, ht9, hu1⟩
    refine q_tn ?_
    iterate 2 (refine wp_seq ?_)
    refine w_reg <| rl_run F (run_fieldAddr tok64.k rfl rfl (F.ev rfl)) rfl ?_; clear F a; intro a F
    refine rl_run F (run_load1 (agf tok4 rfl) (F.ev rfl) (M.cellL (k := 0) rfl rfl)) rfl ?_; clear F a; intro a F
    refine rl_nil <| q_tn <| w_cut (fun a' w' => ∃ (k9 : Int), Fits 97 a' [(6, .bool false), (7, .pointer (some ⟨bq4_0, 0, none⟩)), (8, .pointer (some ⟨bq4_1, 0, none⟩)), (9, .pointer (some ⟨bq4_2, 0, none⟩)), (10, .pointer (some ⟨b5, 0, none⟩))] ∧ Mem w0 Gq4 (.blk b5 [.bool (usesB 1 xq4_0), .bool (usesB 2 xq4_0), .bool (usesB 3 xq4_0)] 64 :: .blk bq4_0 [.int .u8 (xq4_0.kind), .string (str (xq4_0.tag)), .string (str (xq4_0.key)), .slice (taq4_0) (xq4_0.as.length) (tcq4_0), .string (str (xq4_0.text)), .slice (kaq4_0) (xq4_0.kids.length) (kcq4_0)] 46 :: .blk bq4_1 [.int .u64 (xq4_1.key), .int .u8 (xq4_1.typ), .string (str (xq4_1.text)), .slice (maq4_1) (xq4_1.marks.length) (mcq4_1)] 51 :: .blk bq4_2 [.int .u64 (k9), .int .u8 (xq4_2.typ), .string (str (t9)), .slice (maq4_2) (xq4_2.marks.length) (mcq4_2)] 51 :: .blk b3 [.int .u16 (((ik2 : Nat) : Int)), .int .u8 (((it2 : Nat) : Int)), .slice (ca2) (cs2.length) (cc2)] 42 :: .blk b2 [.int .u16 (((ik1 : Nat) : Int)), .int .u8 (((it1 : Nat) : Int)), .slice (ca1) (cs1.length) (cc1)] 42 :: .blk b1 [.int .u8 (((pt : Nat) : Int)), .int .u8 (((psl : Nat) : Int)), .slice (ca) (cs.length) (cc)] 39 :: L) w' ∧ (inKind .u64 k9 ∧ ¬ k9 = 0) ∧ (usesB 2 xq4_0 = true → k9 = xq4_1.key)) ?_ ?_
    · skip
      refine w_cond F rfl ?_ ?_
      · intro hc
        have h9b := hc; clear hc
        have h9 : (usesB 2 xq4_0) = true := h9b
        refine w_reg <| rl_run F (run_fieldAddr tok51.k rfl rfl (F.ev rfl)) rfl ?_; clear F a; intro a F
        refine rl_run F (run_load1 (agf tok48 rfl) (F.ev rfl) (M.cellL (k := 2) rfl rfl)) rfl ?_; clear F a; intro a F
        refine rl_run F (run_fieldAddr tok51.k rfl rfl (F.ev rfl)) rfl ?_; clear F a; intro a F
        refine rl_store1 F M tok48 rfl (k := 3) rfl rfl rfl rfl rfl ?_; clear F M a; intro w a M F
        refine rl_nil ?_
        exact ⟨xq4_1.key, F.to ⟨rfl, rfl, rfl, rfl, rfl, trivial⟩, M, ⟨hkq4_1, hIq4_1.1⟩, (fun h_ => rfl)⟩
      · intro hc
        have h10b := hc; clear hc
        have h10 : (usesB 2 xq4_0) = false := h10b
        refine wp_skip ?_
        exact ⟨xq4_2.key, F.to ⟨rfl, rfl, rfl, rfl, rfl, trivial⟩, M, ⟨hkq4_2, hIq4_2.1⟩, (fun h_ => absurd ((show usesB 2 xq4_0 = false by assumption).symm.trans h_) (by decide))⟩
    · clear F M
      rintro a w ⟨k9, F, M, hk9, hu2⟩
      refine q_tn ?_
      iterate 2 (refine wp_seq ?_)
      refine w_reg <| rl_run F (run_fieldAddr tok64.k rfl rfl (F.ev rfl)) rfl ?_; clear F a; intro a F
      refine rl_run F (run_load1 (agf tok4 rfl) (F.ev rfl) (M.cellL (k := 0) rfl rfl)) rfl ?_; clear F a; intro a F
      refine rl_nil <| q_tn <| w_cut (fun a' w' => ∃ (m9 : List (List UInt8)), ∃ (ma9 : Option Addr), ∃ (mc9 : Nat), Fits 97 a' [(6, .bool false), (7, .pointer (some ⟨bq4_0, 0, none⟩)), (8, .pointer (some ⟨bq4_1, 0, none⟩)), (9, .pointer (some ⟨bq4_2, 0, none⟩)), (10, .pointer (some ⟨b5, 0, none⟩))] ∧ Mem w0 Gq4 (.blk b5 [.bool (usesB 1 xq4_0), .bool (usesB 2 xq4_0), .bool (usesB 3 xq4_0)] 64 :: .blk bq4_0 [.int .u8 (xq4_0.kind), .string (str (xq4_0.tag)), .string (str (xq4_0.key)), .slice (taq4_0) (xq4_0.as.length) (tcq4_0), .string (str (xq4_0.text)), .slice (kaq4_0) (xq4_0.kids.length) (kcq4_0)] 46 :: .blk bq4_1 [.int .u64 (xq4_1.key), .int .u8 (xq4_1.typ), .string (str (xq4_1.text)), .slice (maq4_1) (xq4_1.marks.length) (mcq4_1)] 51 :: .blk bq4_2 [.int .u64 (k9), .int .u8 (xq4_2.typ), .string (str (t9)), .slice (ma9) (m9.length) (mc9)] 51 :: .blk b3 [.int .u16 (((ik2 : Nat) : Int)), .int .u8 (((it2 : Nat) : Int)), .slice (ca2) (cs2.length) (cc2)] 42 :: .blk b2 [.int .u16 (((ik1 : Nat) : Int)), .int .u8 (((it1 : Nat) : Int)), .slice (ca1) (cs1.length) (cc1)] 42 :: .blk b1 [.int .u8 (((pt : Nat) : Int)), .int .u8 (((psl : Nat) : Int)), .slice (ca) (cs.length) (cc)] 39 :: L) w' ∧ (RdSl rdStr 1 Gq4 (.slice ma9 m9.length mc9) m9) ∧ (m9.length ≤ 8 ∧ ∀ s ∈ m9, Name s) ∧ (usesB 3 xq4_0 = true → m9 = xq4_1.marks)) ?_ ?_
      · skip
        refine w_cond F rfl ?_ ?_
        · intro hc
          have h11b := hc; clear hc
          have h11 : (usesB 3 xq4_0) = true := h11b
          refine w_reg <| rl_run F (run_fieldAddr tok51.k rfl rfl (F.ev rfl)) rfl ?_; clear F a; intro a F
          refine rl_run F (run_load1 (agf tok49 rfl) (F.ev rfl) (M.cellL (k := 2) rfl rfl)) rfl ?_; clear F a; intro a F
          refine rl_run F (run_fieldAddr tok51.k rfl rfl (F.ev rfl)) rfl ?_; clear F a; intro a F
          refine rl_store1 F M tok49 rfl (k := 3) rfl rfl rfl rfl rfl ?_; clear F M a; intro w a M F
          refine rl_nil ?_
          exact ⟨xq4_1.marks, maq4_1, mcq4_1, F.to ⟨rfl, rfl, rfl, rfl, rfl, trivial⟩, M, SMq4_1, hIq4_1.2.2, (fun h_ => rfl)⟩
        · intro hc
          have h12b := hc; clear hc
          have h12 : (usesB 3 xq4_0) = false := h12b
          refine wp_skip ?_
          exact ⟨xq4_2.marks, maq4_2, mcq4_2, F.to ⟨rfl, rfl, rfl, rfl, rfl, trivial⟩, M, SMq4_2, hIq4_2.2.2, (fun h_ => absurd ((show usesB 3 xq4_0 = false by assumption).symm.trans h_) (by decide))⟩
      · clear F M
        rintro a w ⟨m9, ma9, mc9, F, M, SM9, hm9, hu3⟩
        refine q_tn <| wp_seq <| w_reg <| rl_run F (run_fieldAddr tok51.k rfl rfl (F.ev rfl)) rfl ?_; clear F a; intro a F
        refine rl_store1 F M tok5 rfl (k := 3) rfl rfl rfl rfl rfl ?_; clear F M a; intro w a M F
        refine rl_nil <| q_tn <| wp_seq <| w_reg <| rl_run F (run_loadA tok46 rfl (F.ev rfl) (cs := [.int .u8 (xq4_0.kind), .string (str (xq4_0.tag)), .string (str (xq4_0.key)), .slice (taq4_0) (xq4_0.as.length) (tcq4_0), .string (str (xq4_0.text)), .slice (kaq4_0) (xq4_0.kids.length) (kcq4_0)]) rfl (M.cellsL (k := 1) rfl rfl)) rfl ?_; clear F a; intro a F
        refine rl_run F (run_loadA tok51 rfl (F.ev rfl) (cs := [.int .u64 (xq4_1.key), .int .u8 (xq4_1.typ), .string (str (xq4_1.text)), .slice (maq4_1) (xq4_1.marks.length) (mcq4_1)]) rfl (M.cellsL (k := 2) rfl rfl)) rfl ?_; clear F a; intro a F
        refine rl_call F ent22 rfl rfl (trender_at (p := xq4_0) (x := xq4_1) (most := 64) (e := (rendE xq4_0 xq4_1 64)) (nn := (rendN xq4_0 xq4_1 64)) M (validP_kind hVq4_0) hlq4_0 SAq4_0 SKq4_0 (itm_len hIq4_1) SMq4_1 hkq4_1 rfl rfl) ?_; clear F M a; rintro _ Gk13 w a hGk13 M ⟨tak13, tck13, kak13, kck13, rfl, hkk13, hlk13, SAk13, SKk13⟩ F
        replace S := S.mono mono_rdB hGk13
        replace S1 := S1.mono mono_rdB hGk13
        replace S2 := S2.mono mono_rdB hGk13
        replace SAq4_0 := SAq4_0.mono mono_rdSlot hGk13
        replace SKq4_0 := SKq4_0.mono mono_rdP hGk13
        replace SMq4_1 := SMq4_1.mono mono_rdStr hGk13
        replace SMq4_2 := SMq4_2.mono mono_rdStr hGk13
        replace SM9 := SM9.mono mono_rdStr hGk13
        refine rl_run F (run_move (F.ev rfl)) rfl ?_; clear F a; intro a F
        refine rl_run F (run_extract (v := .agg #[.int .u8 ((rendN xq4_0 xq4_1 64).kind), .string (str ((rendN xq4_0 xq4_1 64).tag)), .string (str ((rendN xq4_0 xq4_1 64).key)), .slice (tak13) ((rendN xq4_0 xq4_1 64).as.length) (tck13), .string (str ((rendN xq4_0 xq4_1 64).text)), .slice (kak13) ((rendN xq4_0 xq4_1 64).kids.length) (kck13)]) (F.ev rfl) rfl) rfl ?_; clear F a; intro a F
        refine rl_run F (run_extract (v := .int .i64 ((rendE xq4_0 xq4_1 64))) (F.ev rfl) rfl) rfl ?_; clear F a; intro a F
        refine rl_alloc F M tok30 rfl rfl ?_; clear F M a; intro b14 w a M F
        refine rl_storeA F M tok30 (k := 0) rfl rfl rfl (us := [.int .u8 ((rendN xq4_0 xq4_1 64).kind), .string (str ((rendN xq4_0 xq4_1 64).tag)), .string (str ((rendN xq4_0 xq4_1 64).key)), .slice (tak13) ((rendN xq4_0 xq4_1 64).as.length) (tck13), .string (str ((rendN xq4_0 xq4_1 64).text)), .slice (kak13) ((rendN xq4_0 xq4_1 64).kids.length) (kck13)]) rfl rfl (by simp [Value.oneCell']) (by simp) ?_; clear F M a; intro w a M F
        change Mem w0 Gk13 (.blk b14 [.int .u8 ((rendN xq4_0 xq4_1 64).kind), .string (str ((rendN xq4_0 xq4_1 64).tag)), .string (str ((rendN xq4_0 xq4_1 64).key)), .slice (tak13) ((rendN xq4_0 xq4_1 64).as.length) (tck13), .string (str ((rendN xq4_0 xq4_1 64).text)), .slice (kak13) ((rendN xq4_0 xq4_1 64).kids.length) (kck13)] 30 :: .blk b5 [.bool (usesB 1 xq4_0), .bool (usesB 2 xq4_0), .bool (usesB 3 xq4_0)] 64 :: .blk bq4_0 [.int .u8 (xq4_0.kind), .string (str (xq4_0.tag)), .string (str (xq4_0.key)), .slice (taq4_0) (xq4_0.as.length) (tcq4_0), .string (str (xq4_0.text)), .slice (kaq4_0) (xq4_0.kids.length) (kcq4_0)] 46 :: .blk bq4_1 [.int .u64 (xq4_1.key), .int .u8 (xq4_1.typ), .string (str (xq4_1.text)), .slice (maq4_1) (xq4_1.marks.length) (mcq4_1)] 51 :: .blk bq4_2 [.int .u64 (k9), .int .u8 (200), .string (str (t9)), .slice (ma9) (m9.length) (mc9)] 51 :: .blk b3 [.int .u16 (((ik2 : Nat) : Int)), .int .u8 (((it2 : Nat) : Int)), .slice (ca2) (cs2.length) (cc2)] 42 :: .blk b2 [.int .u16 (((ik1 : Nat) : Int)), .int .u8 (((it1 : Nat) : Int)), .slice (ca1) (cs1.length) (cc1)] 42 :: .blk b1 [.int .u8 (((pt : Nat) : Int)), .int .u8 (((psl : Nat) : Int)), .slice (ca) (cs.length) (cc)] 39 :: L) _ at M
        refine rl_run F (run_assign (F.ev rfl)) rfl ?_; clear F a; intro a F
        refine rl_nil <| q_tn <| wp_seq <| w_reg <| rl_run F (run_loadA tok46 rfl (F.ev rfl) (cs := [.int .u8 (xq4_0.kind), .string (str (xq4_0.tag)), .string (str (xq4_0.key)), .slice (taq4_0) (xq4_0.as.length) (tcq4_0), .string (str (xq4_0.text)), .slice (kaq4_0) (xq4_0.kids.length) (kcq4_0)]) rfl (M.cellsL (k := 2) rfl rfl)) rfl ?_; clear F a; intro a F
        refine rl_run F (run_loadA tok51 rfl (F.ev rfl) (cs := [.int .u64 (k9), .int .u8 (200), .string (str (t9)), .slice (ma9) (m9.length) (mc9)]) rfl (M.cellsL (k := 4) rfl rfl)) rfl ?_; clear F a; intro a F
        have hI9 : ItemOk ⟨k9, 200, t9, m9⟩ := ⟨hk9.2, ht9, hm9.1, hm9.2⟩
        have hR9 := rend_uses (m := 64) (p := xq4_0) hIq4_1 hI9 hu1 hu2 hu3
        refine rl_call F ent22 rfl rfl (trender_at (p := xq4_0) (x := (⟨k9, 200, t9, m9⟩ : ItemD)) (most := 64) (e := (rendE xq4_0 xq4_1 64)) (nn := (rendN xq4_0 xq4_1 64)) M (validP_kind hVq4_0) hlq4_0 SAq4_0 SKq4_0 (itm_len hI9) SM9 hk9.1 hR9.1 hR9.2) ?_; clear F M a; rintro _ Gk16 w a hGk16 M ⟨tak16, tck16, kak16, kck16, rfl, hkk16, hlk16, SAk16, SKk16⟩ F
        replace S := S.mono mono_rdB hGk16
        replace S1 := S1.mono mono_rdB hGk16
        replace S2 := S2.mono mono_rdB hGk16
        replace SAq4_0 := SAq4_0.mono mono_rdSlot hGk16
        replace SKq4_0 := SKq4_0.mono mono_rdP hGk16
        replace SMq4_1 := SMq4_1.mono mono_rdStr hGk16
        replace SMq4_2 := SMq4_2.mono mono_rdStr hGk16
        replace SM9 := SM9.mono mono_rdStr hGk16
        replace SAk13 := SAk13.mono mono_rdAttr hGk16
        replace SKk13 := SKk13.mono mono_rdN hGk16
        refine rl_run F (run_move (F.ev rfl)) rfl ?_; clear F a; intro a F
        refine rl_run F (run_extract (v := .agg #[.int .u8 ((rendN xq4_0 xq4_1 64).kind), .string (str ((rendN xq4_0 xq4_1 64).tag)), .string (str ((rendN xq4_0 xq4_1 64).key)), .slice (tak16) ((rendN xq4_0 xq4_1 64).as.length) (tck16), .string (str ((rendN xq4_0 xq4_1 64).text)), .slice (kak16) ((rendN xq4_0 xq4_1 64).kids.length) (kck16)]) (F.ev rfl) rfl) rfl ?_; clear F a; intro a F
        refine rl_run F (run_extract (v := .int .i64 ((rendE xq4_0 xq4_1 64))) (F.ev rfl) rfl) rfl ?_; clear F a; intro a F
        refine rl_alloc F M tok30 rfl rfl ?_; clear F M a; intro b17 w a M F
        refine rl_storeA F M tok30 (k := 0) rfl rfl rfl (us := [.int .u8 ((rendN xq4_0 xq4_1 64).kind), .string (str ((rendN xq4_0 xq4_1 64).tag)), .string (str ((rendN xq4_0 xq4_1 64).key)), .slice (tak16) ((rendN xq4_0 xq4_1 64).as.length) (tck16), .string (str ((rendN xq4_0 xq4_1 64).text)), .slice (kak16) ((rendN xq4_0 xq4_1 64).kids.length) (kck16)]) rfl rfl (by simp [Value.oneCell']) (by simp) ?_; clear F M a; intro w a M F
        change Mem w0 Gk16 (.blk b17 [.int .u8 ((rendN xq4_0 xq4_1 64).kind), .string (str ((rendN xq4_0 xq4_1 64).tag)), .string (str ((rendN xq4_0 xq4_1 64).key)), .slice (tak16) ((rendN xq4_0 xq4_1 64).as.length) (tck16), .string (str ((rendN xq4_0 xq4_1 64).text)), .slice (kak16) ((rendN xq4_0 xq4_1 64).kids.length) (kck16)] 30 :: .blk b14 [.int .u8 ((rendN xq4_0 xq4_1 64).kind), .string (str ((rendN xq4_0 xq4_1 64).tag)), .string (str ((rendN xq4_0 xq4_1 64).key)), .slice (tak13) ((rendN xq4_0 xq4_1 64).as.length) (tck13), .string (str ((rendN xq4_0 xq4_1 64).text)), .slice (kak13) ((rendN xq4_0 xq4_1 64).kids.length) (kck13)] 30 :: .blk b5 [.bool (usesB 1 xq4_0), .bool (usesB 2 xq4_0), .bool (usesB 3 xq4_0)] 64 :: .blk bq4_0 [.int .u8 (xq4_0.kind), .string (str (xq4_0.tag)), .string (str (xq4_0.key)), .slice (taq4_0) (xq4_0.as.length) (tcq4_0), .string (str (xq4_0.text)), .slice (kaq4_0) (xq4_0.kids.length) (kcq4_0)] 46 :: .blk bq4_1 [.int .u64 (xq4_1.key), .int .u8 (xq4_1.typ), .string (str (xq4_1.text)), .slice (maq4_1) (xq4_1.marks.length) (mcq4_1)] 51 :: .blk bq4_2 [.int .u64 (k9), .int .u8 (200), .string (str (t9)), .slice (ma9) (m9.length) (mc9)] 51 :: .blk b3 [.int .u16 (((ik2 : Nat) : Int)), .int .u8 (((it2 : Nat) : Int)), .slice (ca2) (cs2.length) (cc2)] 42 :: .blk b2 [.int .u16 (((ik1 : Nat) : Int)), .int .u8 (((it1 : Nat) : Int)), .slice (ca1) (cs1.length) (cc1)] 42 :: .blk b1 [.int .u8 (((pt : Nat) : Int)), .int .u8 (((psl : Nat) : Int)), .slice (ca) (cs.length) (cc)] 39 :: L) _ at M
        refine rl_run F (run_assign (F.ev rfl)) rfl ?_; clear F a; intro a F
        refine rl_nil <| q_tn <| wp_seq <| w_reg ?_
        iterate 2 (refine rl_run F (run_move (F.ev rfl)) rfl ?_; clear F a; intro a F)
        refine rl_run F (run_eqi (F.ev rfl) (F.ev rfl)) rfl ?_; clear F a; intro a F
        refine rl_run F (run_move (F.ev rfl)) rfl ?_; clear F a; intro a F
        refine rl_guard_t F rfl rfl rfl (decide_eq_true rfl) ?_
        refine rl_run F (run_move (F.ev rfl)) rfl ?_; clear F a; intro a F
        refine rl_guard_t F rfl rfl rfl (decide_eq_true rfl) ?_
        refine rl_run F (run_nei (F.ev rfl) (F.ev rfl)) rfl ?_; clear F a; intro a F
        refine rl_guard_t F rfl rfl rfl (decide_eq_true rfl) ?_
        refine rl_run F (run_move (F.ev rfl)) rfl ?_; clear F a; intro a F
        rcases Bool.eq_false_or_eq_true (!(decide ((rendE xq4_0 xq4_1 64) = 0))) with hc | hc
        · skip
          have h19b := hc; clear hc
          have h19 : ¬ ((rendE xq4_0 xq4_1 64) = 0) := of_decide_eq_false (of_not_t h19b)
          have h19c : (decide ((rendE xq4_0 xq4_1 64) = 0)) = false := (of_not_t h19b)
          iterate 4 (refine rl_guard_f F rfl rfl rfl (not_t h19c) ?_; clear F a; intro a F)
          refine rl_guard_t F rfl rfl rfl (decide_eq_true rfl) ?_
          refine rl_run F (run_pick_t (F.ev rfl) (not_t h19c) (F.ev rfl)) rfl ?_; clear F a; intro a F
          refine rl_run F (run_pick_t (F.ev rfl) (decide_eq_true rfl) (F.ev rfl)) rfl ?_; clear F a; intro a F
          refine rl_run F (run_move (F.ev rfl)) rfl ?_; clear F a; intro a F
          refine rl_guard_t F rfl rfl rfl rfl ?_
          refine rl_callS F ent28 rfl rfl (lives_spec M) ?_; clear F M a; rintro _ w a M rfl F
          refine rl_run F (run_pick_t (F.ev rfl) rfl (F.ev rfl)) rfl ?_; clear F a; intro a F
          refine rl_run F (run_assign (F.ev rfl)) rfl ?_; clear F a; intro a F
          refine rl_nil <| q_tn <| wp_ret <| fin1 F rfl rfl ?_
          exact ⟨_, ((hGq4.trans hGk13).trans hGk16), M.weaken (.cons _ (.cons _ (.cons _ (.cons _ (.cons _ (.cons _ (.cons _ (.cons _ (.cons _ (List.Sublist.refl _)))))))))), by rfl⟩
        · skip
          have h20b := hc; clear hc
          have h20 : (rendE xq4_0 xq4_1 64) = 0 := of_decide_eq_true (of_not_f h20b)
          have h20c : (decide ((rendE xq4_0 xq4_1 64) = 0)) = true := (of_not_f h20b)
          refine rl_guard_t F rfl rfl rfl (not_f h20c) ?_
          refine rl_run F (run_loadA tok30 rfl (F.ev rfl) (cs := [.int .u8 ((rendN xq4_0 xq4_1 64).kind), .string (str ((rendN xq4_0 xq4_1 64).tag)), .string (str ((rendN xq4_0 xq4_1 64).key)), .slice (tak13) ((rendN xq4_0 xq4_1 64).as.length) (tck13), .string (str ((rendN xq4_0 xq4_1 64).text)), .slice (kak13) ((rendN xq4_0 xq4_1 64).kids.length) (kck13)]) rfl (M.cellsL (k := 1) rfl rfl)) rfl ?_; clear F a; intro a F
          refine rl_guard_t F rfl rfl rfl (not_f h20c) ?_
          refine rl_run F (run_loadA tok30 rfl (F.ev rfl) (cs := [.int .u8 ((rendN xq4_0 xq4_1 64).kind), .string (str ((rendN xq4_0 xq4_1 64).tag)), .string (str ((rendN xq4_0 xq4_1 64).key)), .slice (tak16) ((rendN xq4_0 xq4_1 64).as.length) (tck16), .string (str ((rendN xq4_0 xq4_1 64).text)), .slice (kak16) ((rendN xq4_0 xq4_1 64).kids.length) (kck16)]) rfl (M.cellsL (k := 0) rfl rfl)) rfl ?_; clear F a; intro a F
          refine rl_guard_t F rfl rfl rfl (not_f h20c) ?_
          refine rl_callS F ent18 rfl rfl (rsame_spec (x := (rendN xq4_0 xq4_1 64)) (u := (rendN xq4_0 xq4_1 64)) M hkk13 hlk13 SAk13 SKk13 hkk16 hlk16 SAk16 SKk16) ?_; clear F M a; rintro _ w a M rfl F
          refine rl_guard_t F rfl rfl rfl (not_f h20c) ?_
          refine rl_run F (run_eqi (F.ev rfl) (F.ev rfl)) rfl ?_; clear F a; intro a F
          refine rl_guard_t F rfl rfl rfl (decide_eq_true rfl) ?_
          refine rl_run F (run_pick_f (F.ev rfl) (not_f h20c) (F.ev rfl)) rfl ?_; clear F a; intro a F
          refine rl_run F (run_pick_t (F.ev rfl) (decide_eq_true rfl) (F.ev rfl)) rfl ?_; clear F a; intro a F
          refine rl_run F (run_move (F.ev rfl)) rfl ?_; clear F a; intro a F
          refine rl_guard_t F rfl rfl rfl (decide_eq_true (rend_same (by assumption))) ?_
          refine rl_callS F ent28 rfl rfl (lives_spec M) ?_; clear F M a; rintro _ w a M rfl F
          refine rl_run F (run_pick_t (F.ev rfl) (decide_eq_true (rend_same (by assumption))) (F.ev rfl)) rfl ?_; clear F a; intro a F
          refine rl_run F (run_assign (F.ev rfl)) rfl ?_; clear F a; intro a F
          refine rl_nil <| q_tn <| wp_ret <| fin1 F rfl rfl ?_
          exact ⟨_, ((hGq4.trans hGk13).trans hGk16), M.weaken (.cons _ (.cons _ (.cons _ (.cons _ (.cons _ (.cons _ (.cons _ (.cons _ (.cons _ (List.Sublist.refl _)))))))))), by rfl⟩
theorem useslaw_spec {w0 w : World} {G : Ghost} {L : List Res} (M : Mem w0 G L w) {ca : Option Addr} {cc : Nat} {cs : List UInt8} (S : RdSl rdB 1 G (.slice ca cs.length cc) cs) {pt psl : Nat} (hpt : pt < 256) (hps : psl < 256) {ca1 : Option Addr} {cc1 : Nat} {cs1 : List UInt8} (S1 : RdSl rdB 1 G (.slice ca1 cs1.length cc1) cs1) {ik1 it1 : Nat} (hik1 : ik1 < 65536) (hit1 : it1 < 256) {ca2 : Option Addr} {cc2 : Nat} {cs2 : List UInt8} (S2 : RdSl rdB 1 G (.slice ca2 cs2.length cc2) cs2) {ik2 it2 : Nat} (hik2 : ik2 < 65536) (hit2 : it2 < 256) : Calls Tryz.prog 5 #[.agg #[.int .u8 (((pt : Nat) : Int)), .int .u8 (((psl : Nat) : Int)), .slice (ca) (cs.length) (cc)], .agg #[.int .u16 (((ik1 : Nat) : Int)), .int .u8 (((it1 : Nat) : Int)), .slice (ca1) (cs1.length) (cc1)], .agg #[.int .u16 (((ik2 : Nat) : Int)), .int .u8 (((it2 : Nat) : Int)), .slice (ca2) (cs2.length) (cc2)]] w (RetS w0 G L fun v => v = .bool true) := Ret.plain M (useslaw_ret M S hpt hps S1 hik1 hit1 S2 hik2 hit2)
theorem useslaw_law {w0 w : World} {G : Ghost} {L : List Res} (M : Mem w0 G L w) {ca : Option Addr} {cc : Nat} {cs : List UInt8} (S : RdSl rdB 1 G (.slice ca cs.length cc) cs) {n0 n1 : Int} (k0 : inKind .u8 n0) (k1 : inKind .u8 n1) {ca1 : Option Addr} {cc1 : Nat} {cs1 : List UInt8} (S1 : RdSl rdB 1 G (.slice ca1 cs1.length cc1) cs1) {n2 m2 : Int} (kn2 : inKind .u16 n2) (km2 : inKind .u8 m2) {ca2 : Option Addr} {cc2 : Nat} {cs2 : List UInt8} (S2 : RdSl rdB 1 G (.slice ca2 cs2.length cc2) cs2) {n3 m3 : Int} (kn3 : inKind .u16 n3) (km3 : inKind .u8 m3) :
    Calls Tryz.prog 5 #[.agg #[.int .u8 n0, .int .u8 n1, .slice ca cs.length cc], .agg #[.int .u16 n2, .int .u8 m2, .slice ca1 cs1.length cc1], .agg #[.int .u16 n3, .int .u8 m3, .slice ca2 cs2.length cc2]] w (RetS w0 G L fun v => v = .bool true) := by
  obtain ⟨pt, rfl, hpt⟩ := u8_nat k0
  obtain ⟨psl, rfl, hps⟩ := u8_nat k1
  obtain ⟨i2, rfl, h2⟩ := u16_nat kn2
  obtain ⟨j2, rfl, g2⟩ := u8_nat km2
  obtain ⟨i3, rfl, h3⟩ := u16_nat kn3
  obtain ⟨j3, rfl, g3⟩ := u8_nat km3
  exact useslaw_spec M S hpt hps S1 h2 g2 S2 h3 g3
end Go.Proofs.YtlnehkjmmegkhaaGreat
