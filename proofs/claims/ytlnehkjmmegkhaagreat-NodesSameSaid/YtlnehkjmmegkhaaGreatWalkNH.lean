/- The walks, part NH. -/
import Derived.Test.YtlnehkjmmegkhaaGreatWalkNG
import Derived.Test.YtlnehkjmmegkhaaGreatWalkNY
namespace Go.Proofs.YtlnehkjmmegkhaaGreat
open Go Go.Y Go.Proofs
set_option linter.unusedSimpArgs false
set_option linter.unusedVariables false
theorem lend2 {x : NT} {ta ka : Option Addr} {tc kc : Nat} {csa csk : List Value} {w0 w : World} {G : Ghost} {L : List Res} (M : Mem w0 G (.row (.slice ka x.kids.length kc) x.kids.length csk 30 6 :: .row (.slice ta x.as.length tc) x.as.length csa 87 2 :: L) w) (Ea : Els rdAttr 2 G csa x.as) (Ek : Els rdN 6 G csk x.kids) :
  ∃ G', Gle G G' ∧ RdSl rdAttr 2 G' (.slice ta x.as.length tc) x.as ∧ RdSl rdN 6 G' (.slice ka x.kids.length kc) x.kids ∧ Mem w0 G' L w ∧ ∀ (w' : World) (G'' : Ghost) (L' : List Res), Gle G' G'' → Mem w0 G'' L' w' → ∃ G3, Gle G G3 ∧ Mem w0 G3 (.row (.slice ka x.kids.length kc) x.kids.length csk 30 6 :: .row (.slice ta x.as.length tc) x.as.length csa 87 2 :: L') w' := by
 obtain ⟨G1, h1, S1, M1, b1⟩ := memLend mono_rdN M Ek (by decide)
 obtain ⟨G2, h2, S2, M2, b2⟩ := memLend mono_rdAttr M1 (Ea.mono mono_rdAttr h1) (by decide)
 refine ⟨G2, h1.trans h2, S2, S1.mono mono_rdN h2, M2, fun w' G'' L' hg M' => ?_⟩
 obtain ⟨G3, h3, M3⟩ := b2 w' G'' L' hg M'
 exact b1 w' G3 _ h3 M3
theorem els_attr {G G' : Ghost} : ∀ {xs : List AttrD} {cs : List Value}, Els rdAttr 2 G cs xs → Els rdAttr 2 G' cs xs
 | [], cs, h => h
 | x :: xs, cs, ⟨c, r, h1, h2, h3, h4⟩ => ⟨c, r, h1, h2, h3, els_attr h4⟩
/-- A made tree whose two lists may be taken back. -/
def GoodA (w0 : World) (G0 : Ghost) (e : NT) : Ghost → List Value → Prop := fun G' cs => ∃ (x : NT) (ta ka : Option Addr) (tc kc : Nat) (csa csk : List Value) (G1 : Ghost), cs = [.int .u8 (x.kind), .string (str (x.tag)), .string (str (x.key)), .slice (ta) (x.as.length) (tc), .string (str (x.text)), .slice (ka) (x.kids.length) (kc)] ∧ Valid x ∧ inKind .u8 x.kind ∧ (x.tag.length ≤ 9223372036854775807 ∧ x.key.length ≤ 9223372036854775807 ∧ x.text.length ≤ 9223372036854775807) ∧ RdSl rdAttr 2 G' (.slice ta x.as.length tc) x.as ∧ RdSl rdN 6 G' (.slice ka x.kids.length kc) x.kids ∧ x = e ∧
  Gle G0 G1 ∧ Els rdAttr 2 G1 csa x.as ∧ Els rdN 6 G1 csk x.kids ∧ ∀ (w' : World) (G'' : Ghost) (L' : List Res), Gle G' G'' → Mem w0 G'' L' w' → ∃ G3, Gle G1 G3 ∧ Mem w0 G3 (.row (.slice ka x.kids.length kc) x.kids.length csk 30 6 :: .row (.slice ta x.as.length tc) x.as.length csa 87 2 :: L') w'
def GoodE (e : NT) : Ghost → List Value → Prop := fun G' cs => ∃ (x : NT) (ta ka : Option Addr) (tc kc : Nat), cs = [.int .u8 (x.kind), .string (str (x.tag)), .string (str (x.key)), .slice (ta) (x.as.length) (tc), .string (str (x.text)), .slice (ka) (x.kids.length) (kc)] ∧ Valid x ∧ inKind .u8 x.kind ∧ (x.tag.length ≤ 9223372036854775807 ∧ x.key.length ≤ 9223372036854775807 ∧ x.text.length ≤ 9223372036854775807) ∧ RdSl rdAttr 2 G' (.slice ta x.as.length tc) x.as ∧ RdSl rdN 6 G' (.slice ka x.kids.length kc) x.kids ∧ x = e
theorem does_nofA {w0 : World} {G : Ghost} {ca : Option Addr} {cc : Nat} {cs : List UInt8} (S : RdSl rdB 1 G (.slice ca cs.length cc) cs) {pt psl : Nat} (hpt : pt < 256) (hps : psl < 256) {ld cl al st sp sl sc sa pb : Nat} : Thr.Does Tryz.prog w0 G [] ⟨ld, cl, al, st, sp, sl, sc, sa, pb, 24, 30, 14, [.int .u8 (((pt : Nat) : Int)), .int .u8 (((psl : Nat) : Int)), .slice (ca) (cs.length) (cc)], [.int .u8 (0), .string (str ([] : List UInt8)), .string (str ([] : List UInt8)), .slice none (0) (0), .string (str ([] : List UInt8)), .slice none (0) (0)], GoodA w0 G (nofFn cs pt psl)⟩ :=
 ⟨fun w G' L hG _ M => (nofO_spec M (S.mono mono_rdB hG) hpt hps).mono fun q w' hq => by
   cases q with
   | returned v =>
    obtain ⟨G1, L', hG1, M', x, ta, ka, tc, kc, csa, csk, rfl, rfl, Ea, Ek, hV, hk, hl, e⟩ := hq
    obtain ⟨G2, hG2, SA, SK, M2, bk⟩ := lend2 M' Ea Ek
    exact ⟨G2, hG1.trans hG2, M2, _, rfl, x, ta, ka, tc, kc, csa, csk, G1, rfl, hV, hk, hl, SA, SK, e, hG.trans hG1, Ea, Ek, bk⟩
   | panicked c => exact hq.elim
   | outgrown => exact hq.elim,
  fun G' G'' cs hG h => by
   obtain ⟨x, ta, ka, tc, kc, csa, csk, G1, rfl, hV, hk, hl, SA, SK, e, h1, h2, h3, bk⟩ := h
   exact ⟨x, ta, ka, tc, kc, csa, csk, G1, rfl, hV, hk, hl, SA.mono mono_rdAttr hG, SK.mono mono_rdN hG, e, h1, h2, h3, fun w' G3 L' hg => bk w' G3 L' (hG.trans hg)⟩,
  fun G' cs h => by
   obtain ⟨x, ta, ka, tc, kc, csa, csk, G1, rfl, _⟩ := h
   exact ⟨rfl, by simp [Value.oneCell']⟩⟩
theorem does_nofE {w0 : World} {G : Ghost} {ca : Option Addr} {cc : Nat} {cs : List UInt8} (S : RdSl rdB 1 G (.slice ca cs.length cc) cs) {pt psl : Nat} (hpt : pt < 256) (hps : psl < 256) {ld cl al st sp sl sc sa pb : Nat} : Thr.Does Tryz.prog w0 G [] ⟨ld, cl, al, st, sp, sl, sc, sa, pb, 24, 30, 14, [.int .u8 (((pt : Nat) : Int)), .int .u8 (((psl : Nat) : Int)), .slice (ca) (cs.length) (cc)], [.int .u8 (0), .string (str ([] : List UInt8)), .string (str ([] : List UInt8)), .slice none (0) (0), .string (str ([] : List UInt8)), .slice none (0) (0)], GoodE (nofFn cs pt psl)⟩ :=
 ⟨fun w G' L hG _ M => ret_imp (nofE_spec M (S.mono mono_rdB hG) hpt hps) fun G'' v h => by
   obtain ⟨x, ta, ka, tc, kc, rfl, h1, h2, h3, h4, h5, h6⟩ := h
   exact ⟨_, rfl, x, ta, ka, tc, kc, rfl, h1, h2, h3, h4, h5, h6⟩,
  fun G' G'' cs hG h => by
   obtain ⟨x, ta, ka, tc, kc, rfl, hV, hk, hl, SA, SK, e⟩ := h
   exact ⟨x, ta, ka, tc, kc, rfl, hV, hk, hl, SA.mono mono_rdAttr hG, SK.mono mono_rdN hG, e⟩,
  fun G' cs h => by
   obtain ⟨x, ta, ka, tc, kc, rfl, _⟩ := h
   exact ⟨rfl, by simp [Value.oneCell']⟩⟩
theorem copiedO_spec {w0 w : World} {G : Ghost} {L : List Res} {x : NT} {ta ka : Option Addr} {tc kc : Nat} {csa csk : List Value} (M : Mem w0 G (.row (.slice ka x.kids.length kc) x.kids.length csk 30 6 :: .row (.slice ta x.as.length tc) x.as.length csa 87 2 :: L) w) (Ea : Els rdAttr 2 G csa x.as) (Ek : Els rdN 6 G csk x.kids) (hk : inKind .u8 x.kind) (hl : (x.tag.length ≤ 9223372036854775807 ∧ x.key.length ≤ 9223372036854775807 ∧ x.text.length ≤ 9223372036854775807)) {keys : Bool} (hok : ∃ n, Tr.Ok Alone n x) : Calls Tryz.prog 56 #[.agg #[.int .u8 (x.kind), .string (str (x.tag)), .string (str (x.key)), .slice (ta) (x.as.length) (tc), .string (str (x.text)), .slice (ka) (x.kids.length) (kc)], .bool keys] w (Ret w0 G (.row (.slice ka x.kids.length kc) x.kids.length csk 30 6 :: .row (.slice ta x.as.length tc) x.as.length csa 87 2 :: L) fun G' v => ∃ a1 a2, v = .agg #[.int .u8 (copF keys x).kind, .string (str (copF keys x).tag), .string (str (copF keys x).key), .slice a1 (copF keys x).as.length (copF keys x).as.length, .string (str (copF keys x).text), .slice a2 (copF keys x).kids.length (copF keys x).kids.length] ∧ RdSl rdAttr 2 G' (.slice a1 (copF keys x).as.length (copF keys x).as.length) (copF keys x).as ∧ RdSl rdNE 6 G' (.slice a2 (copF keys x).kids.length (copF keys x).kids.length) (copF keys x).kids) := by
 obtain ⟨nk, hOk⟩ := hok
 have hsm := alone_small hOk
 have bK := M.row_bound (k := 0) rfl
 have bA := M.row_bound (k := 1) rfl
 refine calls_start (vs := [_, _]) Tryz.func56 rfl (n := 38) rfl rfl ?_
 intro a F
 refine wp_seq <| w_reg <| rl_box F M rfl (cs := [.int .u8 (x.kind), .string (str (x.tag)), .string (str (x.key)), .slice (ta) (x.as.length) (tc), .string (str (x.text)), .slice (ka) (x.kids.length) (kc)]) rfl rfl ?_; clear F M a; intro b1 w a M F
 refine rl_alloc F M tok30 rfl rfl ?_; clear F M a; intro b2 w a M F
 refine rl_nil <| q_tn ?_
 iterate 2 (refine wp_seq ?_)
 refine w_reg <| rl_run F (run_move (F.ev rfl)) rfl ?_; clear F a; intro a F
 refine rl_run F (run_not (F.ev rfl)) rfl ?_; clear F a; intro a F
 refine rl_nil <| q_tn <| w_cut (fun a' w' => ∃ (kk9 : List UInt8), Fits 38 a' [(1, .bool (keys)), (2, .pointer (some ⟨b1, 0, none⟩)), (4, .pointer (some ⟨b2, 0, none⟩))] ∧ Mem w0 G (.blk b2 [.int .u8 (0), .string (str ([] : List UInt8)), .string (str ([] : List UInt8)), .slice none (0) (0), .string (str ([] : List UInt8)), .slice none (0) (0)] 30 :: .blk b1 [.int .u8 (x.kind), .string (str (x.tag)), .string (str (kk9)), .slice (ta) (x.as.length) (tc), .string (str (x.text)), .slice (ka) (x.kids.length) (kc)] 30 :: .row (.slice (ka) (x.kids.length) (kc)) (x.kids.length) (csk) 30 6 :: .row (.slice (ta) (x.as.length) (tc)) (x.as.length) (csa) 87 2 :: L) w' ∧ (kk9 = (if keys = true then x.key else []))) ?_ ?_
 ·skip
  refine w_cond F rfl ?_ ?_
  ·intro hc
   have h4b := hc; clear hc
   have h4 : (keys) = false := (of_not_t h4b)
   have h4c : (keys) = false := (of_not_t h4b)
   refine w_reg <| rl_run F (run_fieldAddr tok30.k rfl rfl (F.ev rfl)) rfl ?_; clear F a; intro a F
   refine rl_store1 F M tok9 rfl (k := 1) rfl rfl rfl rfl rfl ?_; clear F M a; intro w a M F
   refine rl_nil ?_
   exact ⟨([] : List UInt8), F.to ⟨rfl, rfl, rfl, trivial⟩, M, (by rw [if_neg (by simp_all)])⟩
  ·intro hc
   have h5b := hc; clear hc
   have h5 : (keys) = true := (of_not_f h5b)
   have h5c : (keys) = true := (of_not_f h5b)
   refine wp_skip ?_
   exact ⟨x.key, F.to ⟨rfl, rfl, rfl, trivial⟩, M, (by rw [if_pos (by simp_all)])⟩
 ·clear F M
  rintro a w ⟨kk9, F, M, hkk9⟩
  refine q_tn <| wp_seq <| w_reg <| rl_run F (run_fieldAddr tok30.k rfl rfl (F.ev rfl)) rfl ?_; clear F a; intro a F
  refine rl_run F (run_load1 (agf tok27 rfl) (F.ev rfl) (M.cellL (k := 1) rfl rfl)) rfl ?_; clear F a; intro a F
  replace M := M.perm (perm_front _ 3 _ rfl)
  replace M := M.perm (perm_front _ 3 _ rfl)
  change Mem w0 G (_ :: _ :: _ :: _ :: L) _ at M
  have Eaql7 := Ea
  have Ekql7 := Ek
  obtain ⟨Gl7, hGl7, SAl7, SKl7, M, backl7⟩ := lend2 M Ea Ek
  replace Ea := Ea.mono mono_rdAttr hGl7
  replace Ek := Ek.mono mono_rdN hGl7
  refine rl_callL F ent86 rfl rfl (clonea_spec (xs := x.as) M SAl7 (by omega)) ?_; clear F M a; rintro _ _ w a M ⟨ak6, nk6, ck6, csk6, rfl, rfl, hnk6, Ek6⟩ F
  subst hnk6
  obtain ⟨Gt8, hGt8, M⟩ := backl7 _ _ _ (Gle.refl _) M
  clear backl7
  replace Ea := Eaql7
  replace Ea := Ea.mono mono_rdAttr hGt8
  clear Eaql7
  replace Ek := Ekql7
  replace Ek := Ek.mono mono_rdN hGt8
  clear Ekql7
  replace Ek6 := els_attr (G' := Gt8) Ek6
  have sh9 := M.row_bound (k := 2) rfl
  refine rl_callS F ent85 rfl rfl (clipa_spec M sh9.1 sh9.2) ?_; clear F M a; rintro _ w a M rfl F
  obtain ⟨hnz10, Gz10, az10, cz10, hGz10, hez10, Sz10, M⟩ := M.freeze_row mono_rdAttr (k := 2) rfl Ek6 (by decide)
  clear hez10 az10 cz10
  replace Ea := Ea.mono mono_rdAttr hGz10
  replace Ek := Ek.mono mono_rdN hGz10
  have S11 : RdSl rdAttr 2 Gz10 (.slice (ak6) ((x.as).length) ((x.as).length)) (x.as) := Sz10.clip
  refine rl_run F (run_fieldAddr tok30.k rfl rfl (F.ev rfl)) rfl ?_; clear F a; intro a F
  refine rl_store1 F M tok27 rfl (k := 3) rfl rfl rfl rfl rfl ?_; clear F M a; intro w a M F
  refine rl_nil <| q_tn <| wp_seq <| w_reg <| rl_run F (run_fieldAddr tok30.k rfl rfl (F.ev rfl)) rfl ?_; clear F a; intro a F
  refine rl_run F (run_load1 (agf tok28 rfl) (F.ev rfl) (M.cellL (k := 3) rfl rfl)) rfl ?_; clear F a; intro a F
  refine rl_run F (run_lenSl tok28.k (F.ev rfl)) rfl ?_; clear F a; intro a F
  refine rl_makeE (rd := rdNE) (Z := zeroN) F M tok28.k tok30 rfl (by decide) rfl rfl (l := x.kids.length) (by omega) rfl (by omega) (by show 104 * _ ≤ _; omega) (by omega) (by simp [ti30, Value.cells, Value.oneCell']) (rdNE_close (x := zeroN) ⟨by decide, by decide⟩ ⟨by decide, by decide, by decide⟩ RdSl.nil RdSl.nil) rfl ?_; clear F M a; intro bv12 csv12 w a M Ev12 F
  refine rl_run F (run_assign (F.ev rfl)) rfl ?_; clear F a; intro a F
  refine rl_nil <| q_tn ?_
  iterate 2 (refine wp_seq ?_)
  refine w_reg <| rl_run F (run_fieldAddr tok30.k rfl rfl (F.ev rfl)) rfl ?_; clear F a; intro a F
  refine rl_run F (run_load1 (agf tok28 rfl) (F.ev rfl) (M.cellL (k := 4) rfl rfl)) rfl ?_; clear F a; intro a F
  refine rl_run F (run_lenSl tok28.k (F.ev rfl)) rfl ?_; clear F a; intro a F
  refine rl_run F (run_move (F.ev rfl)) rfl ?_; clear F a; intro a F
  refine rl_nil <| q_tn <| wp_block <| w_loopN (fun m a' w' => ∃ (i : Nat), ∃ (cso : List Value), ∃ (ys : List NT), m = x.kids.length - i ∧ ∃ G13, Gle Gz10 G13 ∧ Fits 38 a' [(1, .bool (keys)), (2, .pointer (some ⟨b1, 0, none⟩)), (4, .pointer (some ⟨b2, 0, none⟩)), (5, .slice (some ⟨bv12, 0, none⟩) (x.kids.length) (x.kids.length)), (21, .slice (ka) (x.kids.length) (kc)), (22, .int .i64 (((x.kids.length : Nat) : Int))), (23, .int .i64 (((i : Nat) : Int)))] ∧ Mem w0 G13 (.row (.slice (some ⟨bv12, 0, none⟩) (x.kids.length) (x.kids.length)) (x.kids.length) (cso) 30 6 :: .row (.slice (ka) (x.kids.length) (kc)) (x.kids.length) (csk) 30 6 :: .row (.slice (ta) (x.as.length) (tc)) (x.as.length) (csa) 87 2 :: .blk b2 [.int .u8 (0), .string (str ([] : List UInt8)), .string (str ([] : List UInt8)), .slice none (0) (0), .string (str ([] : List UInt8)), .slice none (0) (0)] 30 :: .blk b1 [.int .u8 (x.kind), .string (str (x.tag)), .string (str (kk9)), .slice (ak6) ((x.as).length) ((x.as).length), .string (str (x.text)), .slice (ka) (x.kids.length) (kc)] 30 :: L) w' ∧ (i ≤ x.kids.length) ∧ (ys = (x.kids.take i).map (copF keys) ++ List.replicate (x.kids.length - i) zeroN) ∧ (Els rdNE 6 G13 cso ys)) _ ⟨0, csv12, _, rfl, Gz10, Gle.refl _, F.to ⟨rfl, rfl, rfl, rfl, rfl, rfl, rfl, trivial⟩, M, Nat.zero_le _, by simp, Ev12⟩ ?_
  clear F M
  rintro m a w ⟨i, cso, ys, rfl, G13, hG13, F, M, hi, hys, Eo⟩
  replace Ea := Ea.mono mono_rdAttr hG13
  replace Ek := Ek.mono mono_rdN hG13
  replace Sz10 := Sz10.mono mono_rdAttr hG13
  replace S11 := S11.mono mono_rdAttr hG13
  refine wp_seq <| w_reg <| rl_run F (run_lss (F.ev rfl) (F.ev rfl)) rfl ?_; clear F a; intro a F
  refine rl_nil <| q_tn <| wp_seq <| w_cond F rfl ?_ ?_
  ·intro hc
   have h14b := hc; clear hc
   have h14 : ((i : Nat) : Int) < ((x.kids.length : Nat) : Int) := of_decide_eq_true h14b
   refine wp_skip <| q_tn <| wp_seq <| wp_block <| wp_seq <| w_reg <| rl_run F (run_move (F.ev rfl)) rfl ?_; clear F a; intro a F
   obtain ⟨Xe15, hXe15⟩ := get_of_lt (xs := x.kids) (i := i) (by omega)
   obtain ⟨be15, _, Ie15, hme15, _, Ae15, hTe15⟩ := M.atRow (k := 1) rfl (by decide) Ek hXe15
   obtain ⟨tae15, tce15, kae15, kce15, rfl, hke15, hle15, SAe15, SKe15⟩ := rdT_open hTe15
   refine rl_run F (run_indexI tok28.k tok30 (F.ev rfl) (F.ev rfl) (by omega) Ie15) rfl ?_; clear F a; intro a F
   refine rl_run F (run_loadA tok30 rfl (F.ev rfl) (cs := [.int .u8 (Xe15.kind), .string (str (Xe15.tag)), .string (str (Xe15.key)), .slice (tae15) (Xe15.as.length) (tce15), .string (str (Xe15.text)), .slice (kae15) (Xe15.kids.length) (kce15)]) rfl (cellsE Ae15 0 (by omega) rfl)) rfl ?_; clear F a; intro a F
   refine rl_alloc F M tok30 rfl rfl ?_; clear F M a; intro b16 w a M F
   refine rl_run F (run_assign (F.ev rfl)) rfl ?_; clear F a; intro a F
   refine rl_storeA F M tok30 (k := 0) rfl rfl rfl (us := [.int .u8 (Xe15.kind), .string (str (Xe15.tag)), .string (str (Xe15.key)), .slice (tae15) (Xe15.as.length) (tce15), .string (str (Xe15.text)), .slice (kae15) (Xe15.kids.length) (kce15)]) rfl rfl (by simp [Value.oneCell']) (by simp) ?_; clear F M a; intro w a M F
   change Mem w0 G13 (.blk b16 [.int .u8 (Xe15.kind), .string (str (Xe15.tag)), .string (str (Xe15.key)), .slice (tae15) (Xe15.as.length) (tce15), .string (str (Xe15.text)), .slice (kae15) (Xe15.kids.length) (kce15)] 30 :: _ :: _ :: _ :: _ :: .blk b1 [.int .u8 (x.kind), .string (str (x.tag)), .string (str (kk9)), .slice (ak6) ((x.as).length) ((x.as).length), .string (str (x.text)), .slice (ka) (x.kids.length) (kc)] 30 :: L) _ at M
   refine rl_nil <| q_tn ?_
   have hyl : ys.length = x.kids.length := by rw [hys]; simp; omega
   refine w_reg ?_
   iterate 2 (refine rl_run F (run_move (F.ev rfl)) rfl ?_; clear F a; intro a F)
   refine rl_run F (run_loadA tok30 rfl (F.ev rfl) (cs := [.int .u8 (Xe15.kind), .string (str (Xe15.tag)), .string (str (Xe15.key)), .slice (tae15) (Xe15.as.length) (tce15), .string (str (Xe15.text)), .slice (kae15) (Xe15.kids.length) (kce15)]) rfl (M.cellsL (k := 0) rfl rfl)) rfl ?_; clear F a; intro a F
   refine rl_run F (run_move (F.ev rfl)) rfl ?_; clear F a; intro a F
   refine rl_call F ent56 rfl rfl (copied_all Xe15 _ _ _ _ _ _ _ _ _ M hke15 hle15 SAe15 SKe15 (alone_kids hOk (List.mem_of_getElem? hXe15))) ?_; clear F M a; rintro _ Gk18 w a hGk18 M ⟨tak18, kak18, rfl, SAk18, SKk18⟩ F
   replace Ea := Ea.mono mono_rdAttr hGk18
   replace Ek := Ek.mono mono_rdN hGk18
   replace Sz10 := Sz10.mono mono_rdAttr hGk18
   replace S11 := S11.mono mono_rdAttr hGk18
   replace Eo := Eo.mono mono_rdNE hGk18
   replace SAe15 := SAe15.mono mono_rdAttr hGk18
   replace SKe15 := SKe15.mono mono_rdN hGk18
   have hkk18 : inKind .u8 (copF (keys) Xe15).kind := by rw [copF_kind]; exact hke15
   have hlk18 := copF_len (keys := (keys)) (x := Xe15) hle15
   obtain ⟨Xe19, hXe19⟩ := get_of_lt (xs := ys) (i := i) (by omega)
   obtain ⟨be19, _, Ie19, hme19, _, Ae19, hTe19⟩ := M.atRow (k := 1) rfl (by decide) Eo hXe19
   obtain ⟨tae19, kae19, rfl, hke19, hle19, SAe19, SKe19⟩ := rdNE_open hTe19
   refine rl_run F (run_indexI tok28.k tok30 (F.ev rfl) (F.ev rfl) (by omega) Ie19) rfl ?_; clear F a; intro a F
   refine rl_storeEl F M tok30 (k := 1) rfl rfl Eo Ie19 (lt_of_get hXe19) rfl rfl (us := [.int .u8 ((copF (keys) Xe15).kind), .string (str ((copF (keys) Xe15).tag)), .string (str ((copF (keys) Xe15).key)), .slice (tak18) ((copF (keys) Xe15).as.length) ((copF (keys) Xe15).as.length), .string (str ((copF (keys) Xe15).text)), .slice (kak18) ((copF (keys) Xe15).kids.length) ((copF (keys) Xe15).kids.length)]) rfl rfl (by simp [Value.oneCell']) (X' := copF keys Xe15) (rdNE_close (x := copF keys Xe15) hkk18 hlk18 SAk18 SKk18) ?_; clear F M a; intro csu20 w a M Eu20 F
   refine rl_nil <| q_bn <| q_tn <| w_reg <| rl_run F (run_addi (F.ev rfl) (F.ev rfl) (in_i64 (by omega) (by omega))) rfl ?_; clear F a; intro a F
   refine rl_run F (run_move (F.ev rfl)) rfl ?_; clear F a; intro a F
   refine rl_nil <| q_tn ?_
   exact ⟨_, by omega, i + 1, csu20, _, rfl, Gk18, (hG13.trans hGk18), F.to ⟨rfl, rfl, rfl, rfl, rfl, rfl, rfl, trivial⟩, (M.weaken (.cons _ (.cons_cons _ (.cons_cons _ (.cons_cons _ (.cons_cons _ (.cons_cons _ (List.Sublist.refl _)))))))), by omega, by rw [hys]; exact map_fill hXe15, Eu20⟩
  ·intro hc
   have h21b := hc; clear hc
   have h21 : ¬ (((i : Nat) : Int) < ((x.kids.length : Nat) : Int)) := of_decide_eq_false h21b
   refine wp_exit ?_
   iterate 2 (refine q_te ?_)
   refine q_bh <| q_tn <| wp_seq ?_
   rw [List.take_of_length_le (by omega), show x.kids.length - i = 0 by omega, List.replicate_zero, List.append_nil] at hys
   subst hys
   obtain ⟨hnz22, Gz22, az22, cz22, hGz22, hez22, Sz22, M⟩ := M.freeze_row mono_rdNE (k := 0) rfl Eo (by decide)
   clear hez22 az22 cz22
   replace Ea := Ea.mono mono_rdAttr hGz22
   replace Ek := Ek.mono mono_rdN hGz22
   replace Sz10 := Sz10.mono mono_rdAttr hGz22
   replace S11 := S11.mono mono_rdAttr hGz22
   clear hnz22
   refine w_reg <| rl_run F (run_move (F.ev rfl)) rfl ?_; clear F a; intro a F
   refine rl_run F (run_fieldAddr tok30.k rfl rfl (F.ev rfl)) rfl ?_; clear F a; intro a F
   refine rl_store1 F M tok28 rfl (k := 3) rfl rfl rfl rfl rfl ?_; clear F M a; intro w a M F
   refine rl_nil <| q_tn <| wp_seq <| w_reg <| rl_run F (run_loadA tok30 rfl (F.ev rfl) (cs := [.int .u8 (x.kind), .string (str (x.tag)), .string (str (kk9)), .slice (ak6) ((x.as).length) ((x.as).length), .string (str (x.text)), .slice (some ⟨bv12, 0, none⟩) (x.kids.length) (x.kids.length)]) rfl (M.cellsL (k := 3) rfl rfl)) rfl ?_; clear F a; intro a F
   refine rl_storeA F M tok30 (k := 2) rfl rfl rfl (us := [.int .u8 (x.kind), .string (str (x.tag)), .string (str (kk9)), .slice (ak6) ((x.as).length) ((x.as).length), .string (str (x.text)), .slice (some ⟨bv12, 0, none⟩) (x.kids.length) (x.kids.length)]) rfl rfl (by simp [Value.oneCell']) (by simp) ?_; clear F M a; intro w a M F
   change Mem w0 Gz22 (_ :: _ :: .blk b2 [.int .u8 (x.kind), .string (str (x.tag)), .string (str (kk9)), .slice (ak6) ((x.as).length) ((x.as).length), .string (str (x.text)), .slice (some ⟨bv12, 0, none⟩) (x.kids.length) (x.kids.length)] 30 :: .blk b1 [.int .u8 (x.kind), .string (str (x.tag)), .string (str (kk9)), .slice (ak6) ((x.as).length) ((x.as).length), .string (str (x.text)), .slice (some ⟨bv12, 0, none⟩) (x.kids.length) (x.kids.length)] 30 :: L) _ at M
   refine rl_nil <| q_tn <| wp_ret ?_
   replace M := M.perm (perm_front _ 1 _ rfl)
   replace M := M.perm (perm_front _ 1 _ rfl)
   change Mem w0 Gz22 (_ :: _ :: .blk b2 [.int .u8 (x.kind), .string (str (x.tag)), .string (str (kk9)), .slice (ak6) ((x.as).length) ((x.as).length), .string (str (x.text)), .slice (some ⟨bv12, 0, none⟩) (x.kids.length) (x.kids.length)] 30 :: .blk b1 [.int .u8 (x.kind), .string (str (x.tag)), .string (str (kk9)), .slice (ak6) ((x.as).length) ((x.as).length), .string (str (x.text)), .slice (some ⟨bv12, 0, none⟩) (x.kids.length) (x.kids.length)] 30 :: L) _ at M
   refine fin_c F M (k := 2) rfl rfl tok30 rfl rfl rfl ?_
   have he9 : (x.kids.map (copF keys)).length = x.kids.length := by simp
   rw [copF_eq]
   subst hkk9
   exact ⟨_, (((hGt8.trans hGz10).trans hG13).trans hGz22), M.weaken (.cons_cons _ (.cons_cons _ (.cons _ (.cons _ (List.Sublist.refl _))))), _, _, by show _ = Value.agg #[_, _, _, _, _, Value.slice _ (x.kids.map (copF keys)).length (x.kids.map (copF keys)).length]; rw [he9]; rfl, S11, by show RdSl rdNE 6 _ (.slice _ (x.kids.map (copF keys)).length (x.kids.map (copF keys)).length) (x.kids.map (copF keys)); rw [he9]; exact Sz22⟩
theorem stripO_spec {w0 w : World} {G : Ghost} {L : List Res} {x : NT} {ta ka : Option Addr} {tc kc : Nat} {csa csk : List Value} (M : Mem w0 G (.row (.slice ka x.kids.length kc) x.kids.length csk 30 6 :: .row (.slice ta x.as.length tc) x.as.length csa 87 2 :: L) w) (Ea : Els rdAttr 2 G csa x.as) (Ek : Els rdN 6 G csk x.kids) (hk : inKind .u8 x.kind) (hl : (x.tag.length ≤ 9223372036854775807 ∧ x.key.length ≤ 9223372036854775807 ∧ x.text.length ≤ 9223372036854775807)) : Calls Tryz.prog 42 #[.agg #[.int .u8 (x.kind), .string (str (x.tag)), .string (str (x.key)), .slice (ta) (x.as.length) (tc), .string (str (x.text)), .slice (ka) (x.kids.length) (kc)]] w (Ret w0 G (.row (.slice ka x.kids.length kc) x.kids.length csk 30 6 :: .row (.slice ta x.as.length tc) x.as.length csa 87 2 :: L) fun G' v => ∃ a1 a2, v = .agg #[.int .u8 (strF x).kind, .string (str (strF x).tag), .string (str (strF x).key), .slice a1 (strF x).as.length (strF x).as.length, .string (str (strF x).text), .slice a2 (strF x).kids.length (strF x).kids.length] ∧ inKind .u8 (strF x).kind ∧ ((strF x).tag.length ≤ 9223372036854775807 ∧ (strF x).key.length ≤ 9223372036854775807 ∧ (strF x).text.length ≤ 9223372036854775807) ∧ RdSl rdAttr 2 G' (.slice a1 (strF x).as.length (strF x).as.length) (strF x).as ∧ RdSl rdNE 6 G' (.slice a2 (strF x).kids.length (strF x).kids.length) (strF x).kids) := by
 refine calls_start (vs := [_]) Tryz.func42 rfl (n := 9) rfl rfl ?_
 intro a F
 refine wp_seq <| w_reg <| rl_box F M rfl (cs := [.int .u8 (x.kind), .string (str (x.tag)), .string (str (x.key)), .slice (ta) (x.as.length) (tc), .string (str (x.text)), .slice (ka) (x.kids.length) (kc)]) rfl rfl ?_; clear F M a; intro b1 w a M F
 refine rl_alloc F M tok30 rfl rfl ?_; clear F M a; intro b2 w a M F
 refine rl_nil <| q_tn ?_
 iterate 2 (refine wp_seq ?_)
 refine w_reg <| rl_run F (run_loadA tok30 rfl (F.ev rfl) (cs := [.int .u8 (x.kind), .string (str (x.tag)), .string (str (x.key)), .slice (ta) (x.as.length) (tc), .string (str (x.text)), .slice (ka) (x.kids.length) (kc)]) rfl (M.cellsL (k := 1) rfl rfl)) rfl ?_; clear F a; intro a F
 replace M := M.perm (perm_front _ 3 _ rfl)
 replace M := M.perm (perm_front _ 3 _ rfl)
 change Mem w0 G (_ :: _ :: _ :: _ :: L) _ at M
 have Eaql4 := Ea
 have Ekql4 := Ek
 obtain ⟨Gl4, hGl4, SAl4, SKl4, M, backl4⟩ := lend2 M Ea Ek
 replace Ea := Ea.mono mono_rdAttr hGl4
 replace Ek := Ek.mono mono_rdN hGl4
 refine rl_callS F ent30 rfl rfl (ncheck_spec (x := x) M hk hl SAl4 SKl4) ?_; clear F M a; rintro _ w a M rfl F
 obtain ⟨Gt5, hGt5, M⟩ := backl4 _ _ _ (Gle.refl _) M
 clear backl4
 replace Ea := Eaql4
 replace Ea := Ea.mono mono_rdAttr hGt5
 clear Eaql4
 replace Ek := Ekql4
 replace Ek := Ek.mono mono_rdN hGt5
 clear Ekql4
 refine rl_run F (run_nei (F.ev rfl) (F.ev rfl)) rfl ?_; clear F a; intro a F
 refine rl_nil <| q_tn <| w_cond F rfl ?_ ?_
 ·intro hc
  have h6b := hc; clear hc
  have h6 : ¬ (chkF x = 0) := of_decide_eq_false (of_not_t h6b)
  have h6c : (decide (chkF x = 0)) = false := (of_not_t h6b)
  refine wp_seq <| w_reg <| rl_run F (run_buildS (cs := [.int .u8 (0), .string (str ([] : List UInt8)), .string (str ([] : List UInt8)), .slice none (0) (0), .string (str ([] : List UInt8)), .slice none (0) (0)]) (ps := []) tok30.k rfl tok30 (F.evp rfl) rfl) rfl ?_; clear F a; intro a F
  refine rl_storeA F M tok30 (k := 2) rfl rfl rfl (us := [.int .u8 (0), .string (str ([] : List UInt8)), .string (str ([] : List UInt8)), .slice none (0) (0), .string (str ([] : List UInt8)), .slice none (0) (0)]) rfl rfl (by simp [Value.oneCell']) (by simp) ?_; clear F M a; intro w a M F
  change Mem w0 Gt5 (_ :: _ :: .blk b2 [.int .u8 (0), .string (str ([] : List UInt8)), .string (str ([] : List UInt8)), .slice none (0) (0), .string (str ([] : List UInt8)), .slice none (0) (0)] 30 :: _ :: L) _ at M
  refine rl_nil <| q_tn <| wp_ret <| q_tr ?_
  replace M := M.perm (perm_front _ 1 _ rfl)
  replace M := M.perm (perm_front _ 1 _ rfl)
  change Mem w0 Gt5 (_ :: _ :: .blk b2 [.int .u8 (0), .string (str ([] : List UInt8)), .string (str ([] : List UInt8)), .slice none (0) (0), .string (str ([] : List UInt8)), .slice none (0) (0)] 30 :: _ :: L) _ at M
  refine fin_c F M (k := 2) rfl rfl tok30 rfl rfl rfl ?_
  have hV : ¬ Valid x := fun h_ => by have := chkF_yes h_; omega
  rw [strF_no hV]
  exact ⟨_, hGt5, M.weaken (.cons_cons _ (.cons_cons _ (.cons _ (.cons _ (List.Sublist.refl _))))), none, none, rfl, zeroN_k, zeroN_l, RdSl.nil, RdSl.nil⟩
 ·intro hc
  have h7b := hc; clear hc
  have h7 : chkF x = 0 := of_decide_eq_true (of_not_f h7b)
  have h7c : (decide (chkF x = 0)) = true := (of_not_f h7b)
  refine wp_skip <| q_tn <| wp_seq <| w_reg <| rl_run F (run_loadA tok30 rfl (F.ev rfl) (cs := [.int .u8 (x.kind), .string (str (x.tag)), .string (str (x.key)), .slice (ta) (x.as.length) (tc), .string (str (x.text)), .slice (ka) (x.kids.length) (kc)]) rfl (M.cellsL (k := 3) rfl rfl)) rfl ?_; clear F a; intro a F
  replace M := M.perm (perm_front _ 1 _ rfl)
  replace M := M.perm (perm_front _ 1 _ rfl)
  change Mem w0 Gt5 (_ :: _ :: _ :: _ :: L) _ at M
  refine rl_call F ent56 rfl rfl (copiedO_spec M Ea Ek hk hl (valid_ok (chkF_zero.1 (by omega)))) ?_; clear F M a; rintro _ Gk8 w a hGk8 M ⟨tak8, kak8, rfl, SAk8, SKk8⟩ F
  replace Ea := Ea.mono mono_rdAttr hGk8
  replace Ek := Ek.mono mono_rdN hGk8
  have hkk8 : inKind .u8 (copF false x).kind := by rw [copF_kind]; exact hk
  have hlk8 := copF_len (keys := false) (x := x) hl
  refine rl_storeA F M tok30 (k := 2) rfl rfl rfl (us := [.int .u8 ((copF false x).kind), .string (str ((copF false x).tag)), .string (str ((copF false x).key)), .slice (tak8) ((copF false x).as.length) ((copF false x).as.length), .string (str ((copF false x).text)), .slice (kak8) ((copF false x).kids.length) ((copF false x).kids.length)]) rfl rfl (by simp [Value.oneCell']) (by simp) ?_; clear F M a; intro w a M F
  change Mem w0 Gk8 (_ :: _ :: .blk b2 [.int .u8 ((copF false x).kind), .string (str ((copF false x).tag)), .string (str ((copF false x).key)), .slice (tak8) ((copF false x).as.length) ((copF false x).as.length), .string (str ((copF false x).text)), .slice (kak8) ((copF false x).kids.length) ((copF false x).kids.length)] 30 :: _ :: L) _ at M
  refine rl_nil <| q_tn <| wp_ret ?_
  replace M := M.perm (perm_front _ 1 _ rfl)
  replace M := M.perm (perm_front _ 1 _ rfl)
  change Mem w0 Gk8 (_ :: _ :: .blk b2 [.int .u8 ((copF false x).kind), .string (str ((copF false x).tag)), .string (str ((copF false x).key)), .slice (tak8) ((copF false x).as.length) ((copF false x).as.length), .string (str ((copF false x).text)), .slice (kak8) ((copF false x).kids.length) ((copF false x).kids.length)] 30 :: _ :: L) _ at M
  refine fin_c F M (k := 2) rfl rfl tok30 rfl rfl rfl ?_
  have hV : Valid x := chkF_zero.1 (by omega)
  rw [strF_yes hV]
  exact ⟨_, (hGt5.trans hGk8), M.weaken (.cons_cons _ (.cons_cons _ (.cons _ (.cons _ (List.Sublist.refl _))))), _, _, rfl, hkk8, hlk8, SAk8, SKk8⟩
theorem copyO_spec {w0 w : World} {G : Ghost} {L : List Res} {x : NT} {ta ka : Option Addr} {tc kc : Nat} {csa csk : List Value} (M : Mem w0 G (.row (.slice ka x.kids.length kc) x.kids.length csk 30 6 :: .row (.slice ta x.as.length tc) x.as.length csa 87 2 :: L) w) (Ea : Els rdAttr 2 G csa x.as) (Ek : Els rdN 6 G csk x.kids) (hk : inKind .u8 x.kind) (hl : (x.tag.length ≤ 9223372036854775807 ∧ x.key.length ≤ 9223372036854775807 ∧ x.text.length ≤ 9223372036854775807)) : Calls Tryz.prog 49 #[.agg #[.int .u8 (x.kind), .string (str (x.tag)), .string (str (x.key)), .slice (ta) (x.as.length) (tc), .string (str (x.text)), .slice (ka) (x.kids.length) (kc)]] w (Ret w0 G (.row (.slice ka x.kids.length kc) x.kids.length csk 30 6 :: .row (.slice ta x.as.length tc) x.as.length csa 87 2 :: L) fun G' v => ∃ a1 a2, v = .agg #[.int .u8 (cpyF x).kind, .string (str (cpyF x).tag), .string (str (cpyF x).key), .slice a1 (cpyF x).as.length (cpyF x).as.length, .string (str (cpyF x).text), .slice a2 (cpyF x).kids.length (cpyF x).kids.length] ∧ inKind .u8 (cpyF x).kind ∧ ((cpyF x).tag.length ≤ 9223372036854775807 ∧ (cpyF x).key.length ≤ 9223372036854775807 ∧ (cpyF x).text.length ≤ 9223372036854775807) ∧ RdSl rdAttr 2 G' (.slice a1 (cpyF x).as.length (cpyF x).as.length) (cpyF x).as ∧ RdSl rdNE 6 G' (.slice a2 (cpyF x).kids.length (cpyF x).kids.length) (cpyF x).kids) := by
 refine calls_start (vs := [_]) Tryz.func49 rfl (n := 9) rfl rfl ?_
 intro a F
 refine wp_seq <| w_reg <| rl_box F M rfl (cs := [.int .u8 (x.kind), .string (str (x.tag)), .string (str (x.key)), .slice (ta) (x.as.length) (tc), .string (str (x.text)), .slice (ka) (x.kids.length) (kc)]) rfl rfl ?_; clear F M a; intro b1 w a M F
 refine rl_alloc F M tok30 rfl rfl ?_; clear F M a; intro b2 w a M F
 refine rl_nil <| q_tn ?_
 iterate 2 (refine wp_seq ?_)
 refine w_reg <| rl_run F (run_loadA tok30 rfl (F.ev rfl) (cs := [.int .u8 (x.kind), .string (str (x.tag)), .string (str (x.key)), .slice (ta) (x.as.length) (tc), .string (str (x.text)), .slice (ka) (x.kids.length) (kc)]) rfl (M.cellsL (k := 1) rfl rfl)) rfl ?_; clear F a; intro a F
 replace M := M.perm (perm_front _ 3 _ rfl)
 replace M := M.perm (perm_front _ 3 _ rfl)
 change Mem w0 G (_ :: _ :: _ :: _ :: L) _ at M
 have Eaql4 := Ea
 have Ekql4 := Ek
 obtain ⟨Gl4, hGl4, SAl4, SKl4, M, backl4⟩ := lend2 M Ea Ek
 replace Ea := Ea.mono mono_rdAttr hGl4
 replace Ek := Ek.mono mono_rdN hGl4
 refine rl_callS F ent30 rfl rfl (ncheck_spec (x := x) M hk hl SAl4 SKl4) ?_; clear F M a; rintro _ w a M rfl F
 obtain ⟨Gt5, hGt5, M⟩ := backl4 _ _ _ (Gle.refl _) M
 clear backl4
 replace Ea := Eaql4
 replace Ea := Ea.mono mono_rdAttr hGt5
 clear Eaql4
 replace Ek := Ekql4
 replace Ek := Ek.mono mono_rdN hGt5
 clear Ekql4
 refine rl_run F (run_nei (F.ev rfl) (F.ev rfl)) rfl ?_; clear F a; intro a F
 refine rl_nil <| q_tn <| w_cond F rfl ?_ ?_
 ·intro hc
  have h6b := hc; clear hc
  have h6 : ¬ (chkF x = 0) := of_decide_eq_false (of_not_t h6b)
  have h6c : (decide (chkF x = 0)) = false := (of_not_t h6b)
  refine wp_seq <| w_reg <| rl_run F (run_buildS (cs := [.int .u8 (0), .string (str ([] : List UInt8)), .string (str ([] : List UInt8)), .slice none (0) (0), .string (str ([] : List UInt8)), .slice none (0) (0)]) (ps := []) tok30.k rfl tok30 (F.evp rfl) rfl) rfl ?_; clear F a; intro a F
  refine rl_storeA F M tok30 (k := 2) rfl rfl rfl (us := [.int .u8 (0), .string (str ([] : List UInt8)), .string (str ([] : List UInt8)), .slice none (0) (0), .string (str ([] : List UInt8)), .slice none (0) (0)]) rfl rfl (by simp [Value.oneCell']) (by simp) ?_; clear F M a; intro w a M F
  change Mem w0 Gt5 (_ :: _ :: .blk b2 [.int .u8 (0), .string (str ([] : List UInt8)), .string (str ([] : List UInt8)), .slice none (0) (0), .string (str ([] : List UInt8)), .slice none (0) (0)] 30 :: _ :: L) _ at M
  refine rl_nil <| q_tn <| wp_ret <| q_tr ?_
  replace M := M.perm (perm_front _ 1 _ rfl)
  replace M := M.perm (perm_front _ 1 _ rfl)
  change Mem w0 Gt5 (_ :: _ :: .blk b2 [.int .u8 (0), .string (str ([] : List UInt8)), .string (str ([] : List UInt8)), .slice none (0) (0), .string (str ([] : List UInt8)), .slice none (0) (0)] 30 :: _ :: L) _ at M
  refine fin_c F M (k := 2) rfl rfl tok30 rfl rfl rfl ?_
  have hV : ¬ Valid x := fun h_ => by have := chkF_yes h_; omega
  rw [cpyF_no hV]
  exact ⟨_, hGt5, M.weaken (.cons_cons _ (.cons_cons _ (.cons _ (.cons _ (List.Sublist.refl _))))), none, none, rfl, zeroN_k, zeroN_l, RdSl.nil, RdSl.nil⟩
 ·intro hc
  have h7b := hc; clear hc
  have h7 : chkF x = 0 := of_decide_eq_true (of_not_f h7b)
  have h7c : (decide (chkF x = 0)) = true := (of_not_f h7b)
  refine wp_skip <| q_tn <| wp_seq <| w_reg <| rl_run F (run_loadA tok30 rfl (F.ev rfl) (cs := [.int .u8 (x.kind), .string (str (x.tag)), .string (str (x.key)), .slice (ta) (x.as.length) (tc), .string (str (x.text)), .slice (ka) (x.kids.length) (kc)]) rfl (M.cellsL (k := 3) rfl rfl)) rfl ?_; clear F a; intro a F
  replace M := M.perm (perm_front _ 1 _ rfl)
  replace M := M.perm (perm_front _ 1 _ rfl)
  change Mem w0 Gt5 (_ :: _ :: _ :: _ :: L) _ at M
  refine rl_call F ent56 rfl rfl (copiedO_spec M Ea Ek hk hl (valid_ok (chkF_zero.1 (by omega)))) ?_; clear F M a; rintro _ Gk8 w a hGk8 M ⟨tak8, kak8, rfl, SAk8, SKk8⟩ F
  replace Ea := Ea.mono mono_rdAttr hGk8
  replace Ek := Ek.mono mono_rdN hGk8
  have hkk8 : inKind .u8 (copF true x).kind := by rw [copF_kind]; exact hk
  have hlk8 := copF_len (keys := true) (x := x) hl
  refine rl_storeA F M tok30 (k := 2) rfl rfl rfl (us := [.int .u8 ((copF true x).kind), .string (str ((copF true x).tag)), .string (str ((copF true x).key)), .slice (tak8) ((copF true x).as.length) ((copF true x).as.length), .string (str ((copF true x).text)), .slice (kak8) ((copF true x).kids.length) ((copF true x).kids.length)]) rfl rfl (by simp [Value.oneCell']) (by simp) ?_; clear F M a; intro w a M F
  change Mem w0 Gk8 (_ :: _ :: .blk b2 [.int .u8 ((copF true x).kind), .string (str ((copF true x).tag)), .string (str ((copF true x).key)), .slice (tak8) ((copF true x).as.length) ((copF true x).as.length), .string (str ((copF true x).text)), .slice (kak8) ((copF true x).kids.length) ((copF true x).kids.length)] 30 :: _ :: L) _ at M
  refine rl_nil <| q_tn <| wp_ret ?_
  replace M := M.perm (perm_front _ 1 _ rfl)
  replace M := M.perm (perm_front _ 1 _ rfl)
  change Mem w0 Gk8 (_ :: _ :: .blk b2 [.int .u8 ((copF true x).kind), .string (str ((copF true x).tag)), .string (str ((copF true x).key)), .slice (tak8) ((copF true x).as.length) ((copF true x).as.length), .string (str ((copF true x).text)), .slice (kak8) ((copF true x).kids.length) ((copF true x).kids.length)] 30 :: _ :: L) _ at M
  refine fin_c F M (k := 2) rfl rfl tok30 rfl rfl rfl ?_
  have hV : Valid x := chkF_zero.1 (by omega)
  rw [cpyF_yes hV]
  exact ⟨_, (hGt5.trans hGk8), M.weaken (.cons_cons _ (.cons_cons _ (.cons _ (.cons _ (List.Sublist.refl _))))), _, _, rfl, hkk8, hlk8, SAk8, SKk8⟩
theorem perm2 {L : List Res} {a b : Res} (ha : a ∈ L) (hb : b ∈ L) (hn : b ≠ a) : ∃ L', L.Perm (a :: b :: L') := by
 obtain ⟨i, hi⟩ := List.getElem?_of_mem ha
 have h1 := perm_front L i a hi
 have h2 : b ∈ L.eraseIdx i := by
  rcases List.mem_cons.1 (h1.mem_iff.1 hb) with h | h
  ·exact absurd h hn
  ·exact h
 obtain ⟨j, hj⟩ := List.getElem?_of_mem h2
 exact ⟨_, h1.trans ((perm_front _ j b hj).cons a)⟩
theorem ret_perm {f : FuncId} {args : Array Value} {w w0 : World} {G : Ghost} {L L' : List Res} {Φ : Ghost → Value → Prop} (h : Calls Tryz.prog f args w (Ret w0 G L Φ)) (hp : L.Perm L') : Calls Tryz.prog f args w (Ret w0 G L' Φ) :=
 h.mono fun q w' hq => by
  cases q with
  | returned v => obtain ⟨G', h1, h2, h3⟩ := hq; exact ⟨G', h1, h2.perm hp, h3⟩
  | panicked c => exact hq.elim
  | outgrown => exact hq.elim
def GoodY (y : NT) : Ghost → List Value → Prop := fun G' cs => ∃ a1 a2, cs = [.int .u8 y.kind, .string (str y.tag), .string (str y.key), .slice a1 y.as.length y.as.length, .string (str y.text), .slice a2 y.kids.length y.kids.length] ∧ inKind .u8 y.kind ∧ (y.tag.length ≤ 9223372036854775807 ∧ y.key.length ≤ 9223372036854775807 ∧ y.text.length ≤ 9223372036854775807) ∧ RdSl rdAttr 2 G' (.slice a1 y.as.length y.as.length) y.as ∧ RdSl rdNE 6 G' (.slice a2 y.kids.length y.kids.length) y.kids
theorem does_stripO {w0 : World} {G : Ghost} {x : NT} {ta ka : Option Addr} {tc kc : Nat} {csa csk : List Value} (Ea : Els rdAttr 2 G csa x.as) (Ek : Els rdN 6 G csk x.kids) (hk : inKind .u8 x.kind) (hl : (x.tag.length ≤ 9223372036854775807 ∧ x.key.length ≤ 9223372036854775807 ∧ x.text.length ≤ 9223372036854775807)) {y : NT} (hy : strF x = y) {ld cl al st sp sl sc sa pb : Nat} : Thr.Does Tryz.prog w0 G [.row (.slice ka x.kids.length kc) x.kids.length csk 30 6, .row (.slice ta x.as.length tc) x.as.length csa 87 2] ⟨ld, cl, al, st, sp, sl, sc, sa, pb, 30, 30, 42, [.int .u8 (x.kind), .string (str (x.tag)), .string (str (x.key)), .slice (ta) (x.as.length) (tc), .string (str (x.text)), .slice (ka) (x.kids.length) (kc)], [.int .u8 (0), .string (str ([] : List UInt8)), .string (str ([] : List UInt8)), .slice none (0) (0), .string (str ([] : List UInt8)), .slice none (0) (0)], GoodY y⟩ :=
 ⟨fun w G' L hG hK M => by
   subst hy
   obtain ⟨L', hp⟩ := perm2 (hK _ (List.mem_cons_self)) (hK _ (List.mem_cons_of_mem _ (List.mem_cons_self))) (fun h => by injection h with _ _ _ h4 _; exact absurd h4 (by decide))
   exact ret_imp (ret_perm (stripO_spec (M.perm hp) (Ea.mono mono_rdAttr hG) (Ek.mono mono_rdN hG) hk hl) hp.symm) fun G'' v h => by
    obtain ⟨a1, a2, rfl, h⟩ := h
    exact ⟨_, rfl, a1, a2, rfl, h⟩,
  fun G' G'' cs hG h => by
   obtain ⟨a1, a2, rfl, h1, h2, S1, S2⟩ := h
   exact ⟨a1, a2, rfl, h1, h2, S1.mono mono_rdAttr hG, S2.mono mono_rdNE hG⟩,
  fun G' cs h => by
   obtain ⟨a1, a2, rfl, _⟩ := h
   exact ⟨rfl, by simp [Value.oneCell']⟩⟩
theorem does_copyO {w0 : World} {G : Ghost} {x : NT} {ta ka : Option Addr} {tc kc : Nat} {csa csk : List Value} (Ea : Els rdAttr 2 G csa x.as) (Ek : Els rdN 6 G csk x.kids) (hk : inKind .u8 x.kind) (hl : (x.tag.length ≤ 9223372036854775807 ∧ x.key.length ≤ 9223372036854775807 ∧ x.text.length ≤ 9223372036854775807)) {y : NT} (hy : cpyF x = y) {ld cl al st sp sl sc sa pb : Nat} : Thr.Does Tryz.prog w0 G [.row (.slice ka x.kids.length kc) x.kids.length csk 30 6, .row (.slice ta x.as.length tc) x.as.length csa 87 2] ⟨ld, cl, al, st, sp, sl, sc, sa, pb, 30, 30, 49, [.int .u8 (x.kind), .string (str (x.tag)), .string (str (x.key)), .slice (ta) (x.as.length) (tc), .string (str (x.text)), .slice (ka) (x.kids.length) (kc)], [.int .u8 (0), .string (str ([] : List UInt8)), .string (str ([] : List UInt8)), .slice none (0) (0), .string (str ([] : List UInt8)), .slice none (0) (0)], GoodY y⟩ :=
 ⟨fun w G' L hG hK M => by
   subst hy
   obtain ⟨L', hp⟩ := perm2 (hK _ (List.mem_cons_self)) (hK _ (List.mem_cons_of_mem _ (List.mem_cons_self))) (fun h => by injection h with _ _ _ h4 _; exact absurd h4 (by decide))
   exact ret_imp (ret_perm (copyO_spec (M.perm hp) (Ea.mono mono_rdAttr hG) (Ek.mono mono_rdN hG) hk hl) hp.symm) fun G'' v h => by
    obtain ⟨a1, a2, rfl, h⟩ := h
    exact ⟨_, rfl, a1, a2, rfl, h⟩,
  fun G' G'' cs hG h => by
   obtain ⟨a1, a2, rfl, h1, h2, S1, S2⟩ := h
   exact ⟨a1, a2, rfl, h1, h2, S1.mono mono_rdAttr hG, S2.mono mono_rdNE hG⟩,
  fun G' cs h => by
   obtain ⟨a1, a2, rfl, _⟩ := h
   exact ⟨rfl, by simp [Value.oneCell']⟩⟩
end Go.Proofs.YtlnehkjmmegkhaaGreat
