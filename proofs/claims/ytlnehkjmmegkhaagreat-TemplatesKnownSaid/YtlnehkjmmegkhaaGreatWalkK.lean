/- The walks, part K. -/
import Derived.Test.YtlnehkjmmegkhaaGreatWalkJ
namespace Go.Proofs.YtlnehkjmmegkhaaGreat
open Go Go.Y Go.Proofs
set_option linter.unusedSimpArgs false
set_option linter.unusedVariables false
def MakeQ (x : ItemD) (ps : List PT) : Prop := ∀ (w0 w : World) (G : Ghost) (L : List Res) (ma pa : Option Addr) (mc pc : Nat), Mem w0 G L w → RdSl rdStr 1 G (.slice ma x.marks.length mc) x.marks → RdSl rdP 6 G (.slice pa ps.length pc) ps → ps.length ≤ 16 → (∀ p ∈ ps, ∃ n, Tr.Ok AloneP n p) →
    Calls Tryz.prog 62 #[.agg #[.int .u64 (x.key), .int .u8 (x.typ), .string (str (x.text)), .slice (ma) (x.marks.length) (mc)], .slice pa ps.length pc] w (Ret w0 G L fun G' v => ∃ a' c', v = .slice a' (madesF x ps).length c' ∧ RdSl rdNE 6 G' (.slice a' (madesF x ps).length c') (madesF x ps))
theorem mmake_step {x : ItemD} (hik : inKind .u64 x.key) (hio : ItemOk x) (ht : x.text.length ≤ 9223372036854775807) {ps : List PT} (ih : ∀ p ∈ ps, MakeQ x p.kids) {w0 w : World} {G : Ghost} {L : List Res} (M : Mem w0 G L w) {ma pa : Option Addr} {mc pc : Nat} (SM : RdSl rdStr 1 G (.slice ma x.marks.length mc) x.marks) (S : RdSl rdP 6 G (.slice pa ps.length pc) ps) (hps : ps.length ≤ 16) (hok : ∀ p ∈ ps, ∃ n, Tr.Ok AloneP n p) :
    Calls Tryz.prog 62 #[.agg #[.int .u64 (x.key), .int .u8 (x.typ), .string (str (x.text)), .slice (ma) (x.marks.length) (mc)], .slice pa ps.length pc] w (Ret w0 G L fun G' v => ∃ a' c', v = .slice a' (madesF x ps).length c' ∧ RdSl rdNE 6 G' (.slice a' (madesF x ps).length c') (madesF x ps)) := by
  refine calls_start (vs := [_, _]) Tryz.func62 rfl (n := 82) rfl rfl ?_
  intro a F
  refine wp_seq <| w_reg <| rl_box F M rfl (cs := [.int .u64 (x.key), .int .u8 (x.typ), .string (str (x.text)), .slice (ma) (x.marks.length) (mc)]) rfl rfl ?_; clear F M a; intro b1 w a M F
  refine rl_run F (run_assign (F.ev rfl)) rfl ?_; clear F a; intro a F
  refine rl_nil <| q_tn <| wp_seq <| w_reg <| rl_run F (run_assign (F.ev rfl)) rfl ?_; clear F a; intro a F
  refine rl_nil <| q_tn ?_
  iterate 2 (refine wp_seq ?_)
  have bM := SM.bound
  have hio3 := hio.2.2.1
  have hik' : 0 ≤ x.key ∧ x.key ≤ 18446744073709551615 := hik
  refine w_reg <| rl_run F (run_move (F.ev rfl)) rfl ?_; clear F a; intro a F
  refine rl_run F (run_lenSl tok44.k (F.ev rfl)) rfl ?_; clear F a; intro a F
  refine rl_run F (run_move (F.ev rfl)) rfl ?_; clear F a; intro a F
  refine rl_nil <| q_tn <| wp_block ?_
  have M := M.nilrow 30 6
  refine w_loopN (fun m a' w' => ∃ (i : Nat), ∃ (ay : Option Addr), ∃ (ny : Nat), ∃ (cy : Nat), ∃ (csy : List Value), m = ps.length - i ∧ ∃ G2, Gle G G2 ∧ Fits 82 a' [(2, .pointer (some ⟨b1, 0, none⟩)), (10, .slice (pa) (ps.length) (pc)), (11, .int .i64 (((ps.length : Nat) : Int))), (5, .slice (ay) (ny) (cy)), (12, .int .i64 (((i : Nat) : Int)))] ∧ Mem w0 G2 (.row (.slice (ay) (ny) (cy)) (ny) (csy) 30 6 :: .blk b1 [.int .u64 (x.key), .int .u8 (x.typ), .string (str (x.text)), .slice (ma) (x.marks.length) (mc)] 102 :: L) w' ∧ (i ≤ ps.length) ∧ (ny = (madesF x (ps.take i)).length) ∧ (Els rdNE 6 G2 csy (madesF x (ps.take i)))) _ ⟨0, (none), (0), (0), ([]), rfl, G, Gle.refl _, F.to ⟨rfl, rfl, rfl, rfl, rfl, trivial⟩, M, Nat.zero_le _, rfl, Els.nil⟩ ?_
  clear F M
  rintro m a w ⟨i, ay, ny, cy, csy, rfl, G2, hG2, F, M, hi, hny, Ey⟩
  replace SM := SM.mono mono_rdStr hG2
  replace S := S.mono mono_rdP hG2
  refine wp_seq <| w_reg <| rl_run F (run_lss (F.ev rfl) (F.ev rfl)) rfl ?_; clear F a; intro a F
  refine rl_nil <| q_tn <| wp_seq <| w_cond F rfl ?_ ?_
  · intro hc
    have h3b := hc; clear hc
    have h3 : ((i : Nat) : Int) < ((ps.length : Nat) : Int) := of_decide_eq_true h3b
    refine wp_skip <| q_tn <| wp_seq <| wp_block <| wp_seq ?_
    have hml := mades_len hio.2.2.1 (ps.take i)
    rw [List.length_take] at hml
    refine w_reg ?_
    obtain ⟨Xe4, hXe4⟩ := get_of_lt (xs := ps) (i := i) (by omega)
    obtain ⟨be4, oe4, _, Ie4, _, Ae4, hTe4⟩ := S.at hXe4
    obtain ⟨tae4, tce4, kae4, kce4, rfl, hke4, hle4, SAe4, SKe4⟩ := rdT_open hTe4
    refine rl_run F (run_indexI tok44.k tok46 (F.ev rfl) (F.ev rfl) (by omega) Ie4) rfl ?_; clear F a; intro a F
    refine rl_run F (run_loadA tok46 rfl (F.ev rfl) (cs := [.int .u8 (Xe4.kind), .string (str (Xe4.tag)), .string (str (Xe4.key)), .slice (tae4) (Xe4.as.length) (tce4), .string (str (Xe4.text)), .slice (kae4) (Xe4.kids.length) (kce4)]) rfl (M.cellsA Ae4 0 (by omega) rfl)) rfl ?_; clear F a; intro a F
    refine rl_alloc F M tok46 rfl rfl ?_; clear F M a; intro b5 w a M F
    refine rl_storeA F M tok46 (k := 0) rfl rfl rfl (us := [.int .u8 (Xe4.kind), .string (str (Xe4.tag)), .string (str (Xe4.key)), .slice (tae4) (Xe4.as.length) (tce4), .string (str (Xe4.text)), .slice (kae4) (Xe4.kids.length) (kce4)]) rfl rfl (by simp [Value.oneCell']) (by simp) ?_; clear F M a; intro w a M F
    change Mem w0 G2 (.blk b5 [.int .u8 (Xe4.kind), .string (str (Xe4.tag)), .string (str (Xe4.key)), .slice (tae4) (Xe4.as.length) (tce4), .string (str (Xe4.text)), .slice (kae4) (Xe4.kids.length) (kce4)] 46 :: .row (.slice (ay) (ny) (cy)) (ny) (csy) 30 6 :: .blk b1 [.int .u64 (x.key), .int .u8 (x.typ), .string (str (x.text)), .slice (ma) (x.marks.length) (mc)] 102 :: L) _ at M
    refine rl_nil <| q_tn <| wp_seq ?_
    obtain ⟨nk, hOk⟩ := hok Xe4 (List.mem_of_getElem? hXe4)
    refine w_reg <| rl_run F (run_fieldAddr tok46.k rfl rfl (F.ev rfl)) rfl ?_; clear F a; intro a F
    refine rl_run F (run_load1 (agf tok5 rfl) (F.ev rfl) (M.cellL (k := 0) rfl rfl)) rfl ?_; clear F a; intro a F
    refine rl_nil <| q_tn <| wp_block <| wp_seq <| w_reg <| rl_run F (run_eqi (F.ev rfl) (F.ev rfl)) rfl ?_; clear F a; intro a F
    refine rl_run F (run_assign (F.ev rfl)) rfl ?_; clear F a; intro a F
    refine rl_nil <| q_tn <| w_cond F rfl ?_ ?_
    · intro hc
      have h7b := hc; clear hc
      have h7 : Xe4.kind = 1 := of_decide_eq_true h7b
      refine w_plan2 [(.free, 0), (.pure, 1), (.pure, 2), (.free, 3), (.pure, 4), (.pure, 5), (.free, 6), (.pure, 7), (.keep, 8), (.keep, 9), (.keep, 10), (.keep, 11), (.free, 12)] [] (Keep G2 [.blk b5 [.int .u8 (Xe4.kind), .string (str (Xe4.tag)), .string (str (Xe4.key)), .slice (tae4) (Xe4.as.length) (tce4), .string (str (Xe4.text)), .slice (kae4) (Xe4.kids.length) (kce4)] 46, .blk b1 [.int .u64 (x.key), .int .u8 (x.typ), .string (str (x.text)), .slice (ma) (x.marks.length) (mc)] 102]) rfl (by kernel_rfl) (fun c a d v w h => by cases d <;> exact h) ((M.drew _).keep (Gle.refl _) (by simp)) ?_
      replace M := M.drew (w.drawn + 1)
      refine pk_free F (fun w _ => run_move (F.ev rfl)) rfl ?_; clear F a; intro a F
      refine pk_pure F (fun w M => run_loadA tok102 rfl (F.ev rfl) (cs := [.int .u64 (x.key), .int .u8 (x.typ), .string (str (x.text)), .slice (ma) (x.marks.length) (mc)]) rfl (M.cellsL (k := 1) rfl rfl)) rfl ?_; clear F a; intro a F
      refine pk_pure F (fun w M => run_loadA tok46 rfl (F.ev rfl) (cs := [.int .u8 (Xe4.kind), .string (str (Xe4.tag)), .string (str (Xe4.key)), .slice (tae4) (Xe4.as.length) (tce4), .string (str (Xe4.text)), .slice (kae4) (Xe4.kids.length) (kce4)]) rfl (M.cellsL (k := 0) rfl rfl)) rfl ?_; clear F a; intro a F
      refine pk_free F (fun w _ => run_fieldAddr tok46.k rfl rfl (F.ev rfl)) rfl ?_; clear F a; intro a F
      refine pk_pure F (fun w M => run_load1 (agf tok9 rfl) (F.ev rfl) (M.cellL (k := 0) rfl rfl)) rfl ?_; clear F a; intro a F
      refine pk_pure F (fun w M => run_loadA tok102 rfl (F.ev rfl) (cs := [.int .u64 (x.key), .int .u8 (x.typ), .string (str (x.text)), .slice (ma) (x.marks.length) (mc)]) rfl (M.cellsL (k := 1) rfl rfl)) rfl ?_; clear F a; intro a F
      refine pk_free F (fun w _ => run_fieldAddr tok46.k rfl rfl (F.ev rfl)) rfl ?_; clear F a; intro a F
      refine pk_pure F (fun w M => run_load1 (agf tok44 rfl) (F.ev rfl) (M.cellL (k := 0) rfl rfl)) rfl ?_; clear F a; intro a F
      refine pk_keep ?_ rfl
      refine rl_call F ent62 rfl rfl (ih Xe4 (List.mem_of_getElem? hXe4) _ _ _ _ _ _ _ _ M SM SKe4 (okP_len hOk) (okP_kids hOk)) ?_; clear F M a; rintro _ Gk8 w a hGk8 M ⟨ak8, ck8, rfl, Sk8⟩ F
      replace SM := SM.mono mono_rdStr hGk8
      replace S := S.mono mono_rdP hGk8
      replace Ey := Ey.mono mono_rdNE hGk8
      replace Ae4 := Ae4.mono hGk8
      replace SAe4 := SAe4.mono mono_rdSlot hGk8
      replace SKe4 := SKe4.mono mono_rdP hGk8
      refine rl_nil <| ⟨Keep Gk8 [.blk b5 [.int .u8 (Xe4.kind), .string (str (Xe4.tag)), .string (str (Xe4.key)), .slice (tae4) (Xe4.as.length) (tce4), .string (str (Xe4.text)), .slice (kae4) (Xe4.kids.length) (kce4)] 46, .blk b1 [.int .u64 (x.key), .int .u8 (x.typ), .string (str (x.text)), .slice (ma) (x.marks.length) (mc)] 102], M.keep (Gle.refl _) (by simp), fun w h => h.mono hGk8 (by simp), ?_⟩
      refine pk_keep ?_ rfl
      refine rl_call F ent89 rfl rfl (melem_spec (x := x) (p := Xe4) (kk := Xe4.key) (ks := madesF x Xe4.kids) M ht SM hik hke4 hle4 SAe4 SKe4 (okP_slots hOk (by omega)) Sk8) ?_; clear F M a; rintro _ Gm9 w a hGm9 M ⟨am9, rfl, SAm9, SKm9⟩ F
      replace SM := SM.mono mono_rdStr hGm9
      replace S := S.mono mono_rdP hGm9
      replace Ey := Ey.mono mono_rdNE hGm9
      replace Ae4 := Ae4.mono hGm9
      replace SAe4 := SAe4.mono mono_rdSlot hGm9
      replace SKe4 := SKe4.mono mono_rdP hGm9
      replace Sk8 := Sk8.mono mono_rdNE hGm9
      refine rl_nil <| ⟨Keep Gm9 [.blk b5 [.int .u8 (Xe4.kind), .string (str (Xe4.tag)), .string (str (Xe4.key)), .slice (tae4) (Xe4.as.length) (tce4), .string (str (Xe4.text)), .slice (kae4) (Xe4.kids.length) (kce4)] 46, .blk b1 [.int .u64 (x.key), .int .u8 (x.typ), .string (str (x.text)), .slice (ma) (x.marks.length) (mc)] 102], M.keep (Gle.refl _) (by simp), fun w h => h.mono hGm9 (by simp), ?_⟩
      refine pk_keep ?_ rfl
      refine rl_buildSlice1 F M tok28.k tok30 rfl rfl (cs := [.int .u8 (1), .string (str (Xe4.tag)), .string (str (Xe4.key)), .slice (am9) ((Xe4.as.map (attrF x)).length) ((Xe4.as.map (attrF x)).length), .string (str ([] : List UInt8)), .slice (ak8) ((madesF x Xe4.kids).length) ((madesF x Xe4.kids).length)]) rfl rfl (by simp [Value.oneCell']) (by decide) rfl ?_; clear F M a; intro v10 w a M F
      obtain ⟨av10, cv10, rfl, hlev10, hcmv10, hlv10⟩ := M.row_shape (k := 0) rfl
      refine rl_nil <| ⟨Keep Gm9 [.blk b5 [.int .u8 (Xe4.kind), .string (str (Xe4.tag)), .string (str (Xe4.key)), .slice (tae4) (Xe4.as.length) (tce4), .string (str (Xe4.text)), .slice (kae4) (Xe4.kids.length) (kce4)] 46, .blk b1 [.int .u64 (x.key), .int .u8 (x.typ), .string (str (x.text)), .slice (ma) (x.marks.length) (mc)] 102], M.keep (Gle.refl _) (by simp), fun w h => h.mono (Gle.refl _) (by simp), ?_⟩
      have E11 : Els rdNE 6 Gm9 [.int .u8 (1), .string (str (Xe4.tag)), .string (str (Xe4.key)), .slice (am9) ((Xe4.as.map (attrF x)).length) ((Xe4.as.map (attrF x)).length), .string (str ([] : List UInt8)), .slice (ak8) ((madesF x Xe4.kids).length) ((madesF x Xe4.kids).length)] [(.mk 1 Xe4.tag Xe4.key (Xe4.as.map (attrF x)) [] (madesF x Xe4.kids) : NT)] := Els.one (rdNE_close (x := (.mk 1 Xe4.tag Xe4.key (Xe4.as.map (attrF x)) [] (madesF x Xe4.kids) : NT)) u8_1 ⟨hle4.1, (by first | assumption | exact hle4.2.1), Nat.zero_le _⟩ SAm9 SKm9) rfl
      refine pk_keep ?_ rfl
      refine rl_append_row F M (k := 2) (k2 := 0) rfl rfl tok28.k tok30 rfl rfl (by decide) rfl rfl (by show _ * 104 ≤ _; (try simp only [List.length_drop, List.length_take, List.length_append, List.length_cons, List.length_nil]); omega) (by (try simp only [List.length_drop, List.length_take, List.length_append, List.length_cons, List.length_nil]); omega) rfl ?_; clear F M a; intro v12 w a M F
      have Ev12 := Els.append Ey E11
      obtain ⟨av12, cv12, rfl, hlev12, hcmv12, hlv12⟩ := M.row_shape (k := 2) rfl
      refine rl_nil <| ⟨Keep Gm9 [.blk b5 [.int .u8 (Xe4.kind), .string (str (Xe4.tag)), .string (str (Xe4.key)), .slice (tae4) (Xe4.as.length) (tce4), .string (str (Xe4.text)), .slice (kae4) (Xe4.kids.length) (kce4)] 46, .blk b1 [.int .u64 (x.key), .int .u8 (x.typ), .string (str (x.text)), .slice (ma) (x.marks.length) (mc)] 102], M.keep (Gle.refl _) (by simp), fun w h => h.mono (Gle.refl _) (by simp), ?_⟩
      refine pk_free F (fun w _ => run_assign (F.ev rfl)) rfl ?_; clear F a; intro a F
      refine pk_nil ?_
      iterate 2 (refine q_bn ?_)
      refine q_tn <| w_reg <| rl_run F (run_addi (F.ev rfl) (F.ev rfl) (in_i64 (by omega) (by omega))) rfl ?_; clear F a; intro a F
      refine rl_run F (run_move (F.ev rfl)) rfl ?_; clear F a; intro a F
      refine rl_nil <| q_tn ?_
      exact ⟨_, by omega, i + 1, (av12), (ny + 1), (cv12), (csy ++ ([.int .u8 (1), .string (str (Xe4.tag)), .string (str (Xe4.key)), .slice (am9) ((Xe4.as.map (attrF x)).length) ((Xe4.as.map (attrF x)).length), .string (str ([] : List UInt8)), .slice (ak8) ((madesF x Xe4.kids).length) ((madesF x Xe4.kids).length)])), rfl, Gm9, ((hG2.trans hGk8).trans hGm9), F.to ⟨rfl, rfl, rfl, rfl, rfl, trivial⟩, (M.weaken (.cons _ (.cons _ (.cons_cons _ (.cons_cons _ (List.Sublist.refl _)))))), by omega, by rw [mades_snoc hXe4, made1 (by assumption), List.length_append, ← hny]; rfl, by rw [mades_snoc hXe4, made1 (by assumption)]; exact Ev12⟩
    · intro hc
      have h13b := hc; clear hc
      have h13 : ¬ (Xe4.kind = 1) := of_decide_eq_false h13b
      refine wp_seq <| w_reg <| rl_run F (run_eqi (F.ev rfl) (F.ev rfl)) rfl ?_; clear F a; intro a F
      refine rl_run F (run_assign (F.ev rfl)) rfl ?_; clear F a; intro a F
      refine rl_nil <| q_tn <| w_cond F rfl ?_ ?_
      · intro hc
        have h14b := hc; clear hc
        have h14 : Xe4.kind = 2 := of_decide_eq_true h14b
        refine w_reg <| rl_run F (run_move (F.ev rfl)) rfl ?_; clear F a; intro a F
        refine rl_run F (run_fieldAddr tok46.k rfl rfl (F.ev rfl)) rfl ?_; clear F a; intro a F
        refine rl_run F (run_load1 (agf tok9 rfl) (F.ev rfl) (M.cellL (k := 0) rfl rfl)) rfl ?_; clear F a; intro a F
        refine rl_callS F ent90 rfl rfl (mwords_spec (s := Xe4.text) M) ?_; clear F M a; rintro _ w a M rfl F
        refine rl_buildSlice1 F M tok28.k tok30 rfl rfl (cs := [.int .u8 (2), .string (str ([] : List UInt8)), .string (str ([] : List UInt8)), .slice none (0) (0), .string (str (Xe4.text)), .slice none (0) (0)]) rfl rfl (by simp [Value.oneCell']) (by decide) rfl ?_; clear F M a; intro v15 w a M F
        obtain ⟨av15, cv15, rfl, hlev15, hcmv15, hlv15⟩ := M.row_shape (k := 0) rfl
        have E16 : Els rdNE 6 G2 [.int .u8 (2), .string (str ([] : List UInt8)), .string (str ([] : List UInt8)), .slice none (0) (0), .string (str (Xe4.text)), .slice none (0) (0)] [(wordsN Xe4.text)] := Els.one (rdNE_close (x := (wordsN Xe4.text)) u8_2 ⟨Nat.zero_le _, Nat.zero_le _, (by first | assumption | exact hle4.2.2 | (have h_ := dec_len x.key.toNat (by omega); show (Lib.decDigits x.key.toNat).length ≤ _; omega))⟩ RdSl.nil RdSl.nil) rfl
        refine rl_append_row F M (k := 2) (k2 := 0) rfl rfl tok28.k tok30 rfl rfl (by decide) rfl rfl (by show _ * 104 ≤ _; (try simp only [List.length_drop, List.length_take, List.length_append, List.length_cons, List.length_nil]); omega) (by (try simp only [List.length_drop, List.length_take, List.length_append, List.length_cons, List.length_nil]); omega) rfl ?_; clear F M a; intro v17 w a M F
        have Ev17 := Els.append Ey E16
        obtain ⟨av17, cv17, rfl, hlev17, hcmv17, hlv17⟩ := M.row_shape (k := 2) rfl
        refine rl_run F (run_assign (F.ev rfl)) rfl ?_; clear F a; intro a F
        refine rl_nil ?_
        iterate 2 (refine q_bn ?_)
        refine q_tn <| w_reg <| rl_run F (run_addi (F.ev rfl) (F.ev rfl) (in_i64 (by omega) (by omega))) rfl ?_; clear F a; intro a F
        refine rl_run F (run_move (F.ev rfl)) rfl ?_; clear F a; intro a F
        refine rl_nil <| q_tn ?_
        exact ⟨_, by omega, i + 1, (av17), (ny + 1), (cv17), (csy ++ ([.int .u8 (2), .string (str ([] : List UInt8)), .string (str ([] : List UInt8)), .slice none (0) (0), .string (str (Xe4.text)), .slice none (0) (0)])), rfl, G2, hG2, F.to ⟨rfl, rfl, rfl, rfl, rfl, trivial⟩, (M.weaken (.cons _ (.cons _ (.cons_cons _ (.cons_cons _ (List.Sublist.refl _)))))), by omega, by rw [mades_snoc hXe4, made2 (by assumption), List.length_append, ← hny]; rfl, by rw [mades_snoc hXe4, made2 (by assumption)]; exact Ev17⟩
      · intro hc
        have h18b := hc; clear hc
        have h18 : ¬ (Xe4.kind = 2) := of_decide_eq_false h18b
        refine wp_seq <| w_reg <| rl_run F (run_eqi (F.ev rfl) (F.ev rfl)) rfl ?_; clear F a; intro a F
        refine rl_run F (run_assign (F.ev rfl)) rfl ?_; clear F a; intro a F
        refine rl_nil <| q_tn <| w_cond F rfl ?_ ?_
        · intro hc
          have h19b := hc; clear hc
          have h19 : Xe4.kind = 3 := of_decide_eq_true h19b
          refine w_reg <| rl_run F (run_move (F.ev rfl)) rfl ?_; clear F a; intro a F
          refine rl_run F (run_fieldAddr tok102.k rfl rfl (F.ev rfl)) rfl ?_; clear F a; intro a F
          refine rl_run F (run_fieldAddr tok51.k rfl rfl (F.ev rfl)) rfl ?_; clear F a; intro a F
          refine rl_run F (run_load1 (agf tok9 rfl) (F.ev rfl) (M.cellL (k := 2) rfl rfl)) rfl ?_; clear F a; intro a F
          refine rl_callS F ent90 rfl rfl (mwords_spec (s := x.text) M) ?_; clear F M a; rintro _ w a M rfl F
          refine rl_buildSlice1 F M tok28.k tok30 rfl rfl (cs := [.int .u8 (2), .string (str ([] : List UInt8)), .string (str ([] : List UInt8)), .slice none (0) (0), .string (str (x.text)), .slice none (0) (0)]) rfl rfl (by simp [Value.oneCell']) (by decide) rfl ?_; clear F M a; intro v20 w a M F
          obtain ⟨av20, cv20, rfl, hlev20, hcmv20, hlv20⟩ := M.row_shape (k := 0) rfl
          have E21 : Els rdNE 6 G2 [.int .u8 (2), .string (str ([] : List UInt8)), .string (str ([] : List UInt8)), .slice none (0) (0), .string (str (x.text)), .slice none (0) (0)] [(wordsN x.text)] := Els.one (rdNE_close (x := (wordsN x.text)) u8_2 ⟨Nat.zero_le _, Nat.zero_le _, (by first | assumption | exact hle4.2.2 | (have h_ := dec_len x.key.toNat (by omega); show (Lib.decDigits x.key.toNat).length ≤ _; omega))⟩ RdSl.nil RdSl.nil) rfl
          refine rl_append_row F M (k := 2) (k2 := 0) rfl rfl tok28.k tok30 rfl rfl (by decide) rfl rfl (by show _ * 104 ≤ _; (try simp only [List.length_drop, List.length_take, List.length_append, List.length_cons, List.length_nil]); omega) (by (try simp only [List.length_drop, List.length_take, List.length_append, List.length_cons, List.length_nil]); omega) rfl ?_; clear F M a; intro v22 w a M F
          have Ev22 := Els.append Ey E21
          obtain ⟨av22, cv22, rfl, hlev22, hcmv22, hlv22⟩ := M.row_shape (k := 2) rfl
          refine rl_run F (run_assign (F.ev rfl)) rfl ?_; clear F a; intro a F
          refine rl_nil ?_
          iterate 2 (refine q_bn ?_)
          refine q_tn <| w_reg <| rl_run F (run_addi (F.ev rfl) (F.ev rfl) (in_i64 (by omega) (by omega))) rfl ?_; clear F a; intro a F
          refine rl_run F (run_move (F.ev rfl)) rfl ?_; clear F a; intro a F
          refine rl_nil <| q_tn ?_
          exact ⟨_, by omega, i + 1, (av22), (ny + 1), (cv22), (csy ++ ([.int .u8 (2), .string (str ([] : List UInt8)), .string (str ([] : List UInt8)), .slice none (0) (0), .string (str (x.text)), .slice none (0) (0)])), rfl, G2, hG2, F.to ⟨rfl, rfl, rfl, rfl, rfl, trivial⟩, (M.weaken (.cons _ (.cons _ (.cons_cons _ (.cons_cons _ (List.Sublist.refl _)))))), by omega, by rw [mades_snoc hXe4, made3 (by assumption), List.length_append, ← hny]; rfl, by rw [mades_snoc hXe4, made3 (by assumption)]; exact Ev22⟩
        · intro hc
          have h23b := hc; clear hc
          have h23 : ¬ (Xe4.kind = 3) := of_decide_eq_false h23b
          refine wp_seq <| w_reg <| rl_run F (run_eqi (F.ev rfl) (F.ev rfl)) rfl ?_; clear F a; intro a F
          refine rl_run F (run_assign (F.ev rfl)) rfl ?_; clear F a; intro a F
          refine rl_nil <| q_tn <| w_cond F rfl ?_ ?_
          · intro hc
            have h24b := hc; clear hc
            have h24 : Xe4.kind = 4 := of_decide_eq_true h24b
            refine w_reg <| rl_run F (run_move (F.ev rfl)) rfl ?_; clear F a; intro a F
            refine rl_run F (run_fieldAddr tok102.k rfl rfl (F.ev rfl)) rfl ?_; clear F a; intro a F
            refine rl_run F (run_fieldAddr tok51.k rfl rfl (F.ev rfl)) rfl ?_; clear F a; intro a F
            refine rl_run F (run_load1 (agf tok48 rfl) (F.ev rfl) (M.cellL (k := 2) rfl rfl)) rfl ?_; clear F a; intro a F
            have hu25 : (x.key : Int) = (((x.key).toNat : Nat) : Int) := by omega
            rw [hu25] at F
            refine rl_callS F ent91 rfl rfl (deci_spec (u := (x.key).toNat) M (by omega)) ?_; clear F M a; rintro _ w a M rfl F
            refine rl_callS F ent90 rfl rfl (mwords_spec (s := Lib.decDigits ((x.key).toNat)) M) ?_; clear F M a; rintro _ w a M rfl F
            refine rl_buildSlice1 F M tok28.k tok30 rfl rfl (cs := [.int .u8 (2), .string (str ([] : List UInt8)), .string (str ([] : List UInt8)), .slice none (0) (0), .string (str (Lib.decDigits ((x.key).toNat))), .slice none (0) (0)]) rfl rfl (by simp [Value.oneCell']) (by decide) rfl ?_; clear F M a; intro v26 w a M F
            obtain ⟨av26, cv26, rfl, hlev26, hcmv26, hlv26⟩ := M.row_shape (k := 0) rfl
            have E27 : Els rdNE 6 G2 [.int .u8 (2), .string (str ([] : List UInt8)), .string (str ([] : List UInt8)), .slice none (0) (0), .string (str (Lib.decDigits ((x.key).toNat))), .slice none (0) (0)] [(wordsN (Lib.decDigits ((x.key).toNat)))] := Els.one (rdNE_close (x := (wordsN (Lib.decDigits ((x.key).toNat)))) u8_2 ⟨Nat.zero_le _, Nat.zero_le _, (by first | assumption | exact hle4.2.2 | (have h_ := dec_len x.key.toNat (by omega); show (Lib.decDigits x.key.toNat).length ≤ _; omega))⟩ RdSl.nil RdSl.nil) rfl
            refine rl_append_row F M (k := 2) (k2 := 0) rfl rfl tok28.k tok30 rfl rfl (by decide) rfl rfl (by show _ * 104 ≤ _; (try simp only [List.length_drop, List.length_take, List.length_append, List.length_cons, List.length_nil]); omega) (by (try simp only [List.length_drop, List.length_take, List.length_append, List.length_cons, List.length_nil]); omega) rfl ?_; clear F M a; intro v28 w a M F
            have Ev28 := Els.append Ey E27
            obtain ⟨av28, cv28, rfl, hlev28, hcmv28, hlv28⟩ := M.row_shape (k := 2) rfl
            refine rl_run F (run_assign (F.ev rfl)) rfl ?_; clear F a; intro a F
            refine rl_nil ?_
            iterate 2 (refine q_bn ?_)
            refine q_tn <| w_reg <| rl_run F (run_addi (F.ev rfl) (F.ev rfl) (in_i64 (by omega) (by omega))) rfl ?_; clear F a; intro a F
            refine rl_run F (run_move (F.ev rfl)) rfl ?_; clear F a; intro a F
            refine rl_nil <| q_tn ?_
            exact ⟨_, by omega, i + 1, (av28), (ny + 1), (cv28), (csy ++ ([.int .u8 (2), .string (str ([] : List UInt8)), .string (str ([] : List UInt8)), .slice none (0) (0), .string (str (Lib.decDigits ((x.key).toNat))), .slice none (0) (0)])), rfl, G2, hG2, F.to ⟨rfl, rfl, rfl, rfl, rfl, trivial⟩, (M.weaken (.cons _ (.cons _ (.cons_cons _ (.cons_cons _ (List.Sublist.refl _)))))), by omega, by rw [mades_snoc hXe4, made4 (by assumption), List.length_append, ← hny]; rfl, by rw [mades_snoc hXe4, made4 (by assumption)]; exact Ev28⟩
          · intro hc
            have h29b := hc; clear hc
            have h29 : ¬ (Xe4.kind = 4) := of_decide_eq_false h29b
            refine wp_seq <| w_reg <| rl_run F (run_eqi (F.ev rfl) (F.ev rfl)) rfl ?_; clear F a; intro a F
            refine rl_run F (run_assign (F.ev rfl)) rfl ?_; clear F a; intro a F
            refine rl_nil <| q_tn <| w_cond F rfl ?_ ?_
            · intro hc
              have h30b := hc; clear hc
              have h30 : Xe4.kind = 5 := of_decide_eq_true h30b
              refine wp_seq <| w_reg <| rl_run F (run_fieldAddr tok102.k rfl rfl (F.ev rfl)) rfl ?_; clear F a; intro a F
              refine rl_run F (run_fieldAddr tok51.k rfl rfl (F.ev rfl)) rfl ?_; clear F a; intro a F
              refine rl_run F (run_load1 (agf tok49 rfl) (F.ev rfl) (M.cellL (k := 2) rfl rfl)) rfl ?_; clear F a; intro a F
              refine rl_run F (run_lenSl tok49.k (F.ev rfl)) rfl ?_; clear F a; intro a F
              refine rl_run F (run_move (F.ev rfl)) rfl ?_; clear F a; intro a F
              refine rl_nil <| q_tn <| wp_block <| w_loopN (fun m a' w' => ∃ (j : Nat), ∃ (az : Option Addr), ∃ (nz : Nat), ∃ (cz : Nat), ∃ (csz : List Value), m = x.marks.length - j ∧ ∃ G31, Gle G2 G31 ∧ Fits 82 a' [(2, .pointer (some ⟨b1, 0, none⟩)), (7, .pointer (some ⟨b5, 0, none⟩)), (10, .slice (pa) (ps.length) (pc)), (11, .int .i64 (((ps.length : Nat) : Int))), (12, .int .i64 (((i : Nat) : Int))), (63, .slice (ma) (x.marks.length) (mc)), (64, .int .i64 (((x.marks.length : Nat) : Int))), (5, .slice (az) (nz) (cz)), (65, .int .i64 (((j : Nat) : Int)))] ∧ Mem w0 G31 (.blk b5 [.int .u8 (Xe4.kind), .string (str (Xe4.tag)), .string (str (Xe4.key)), .slice (tae4) (Xe4.as.length) (tce4), .string (str (Xe4.text)), .slice (kae4) (Xe4.kids.length) (kce4)] 46 :: .row (.slice (az) (nz) (cz)) (nz) (csz) 30 6 :: .blk b1 [.int .u64 (x.key), .int .u8 (x.typ), .string (str (x.text)), .slice (ma) (x.marks.length) (mc)] 102 :: L) w' ∧ (j ≤ x.marks.length) ∧ (nz = (madesF x (ps.take i) ++ (x.marks.take j).map (eachN x Xe4.tag Xe4.as)).length) ∧ (Els rdNE 6 G31 csz (madesF x (ps.take i) ++ (x.marks.take j).map (eachN x Xe4.tag Xe4.as)))) _ ⟨0, (ay), (ny), (cy), (csy), rfl, G2, Gle.refl _, F.to ⟨rfl, rfl, rfl, rfl, rfl, rfl, rfl, rfl, rfl, trivial⟩, M, Nat.zero_le _, by simp [← hny], by simpa using Ey⟩ ?_
              clear F M
              rintro m a w ⟨j, az, nz, cz, csz, rfl, G31, hG31, F, M, hj, hnz, Ez⟩
              replace SM := SM.mono mono_rdStr hG31
              replace S := S.mono mono_rdP hG31
              replace Ae4 := Ae4.mono hG31
              replace SAe4 := SAe4.mono mono_rdSlot hG31
              replace SKe4 := SKe4.mono mono_rdP hG31
              refine wp_seq <| w_reg <| rl_run F (run_lss (F.ev rfl) (F.ev rfl)) rfl ?_; clear F a; intro a F
              refine rl_nil <| q_tn <| wp_seq <| w_cond F rfl ?_ ?_
              · intro hc
                have h32b := hc; clear hc
                have h32 : ((j : Nat) : Int) < ((x.marks.length : Nat) : Int) := of_decide_eq_true h32b
                refine wp_skip <| q_tn <| wp_seq <| wp_block <| wp_seq ?_
                have hnz2 : nz ≤ 200 := by rw [hnz, List.length_append, List.length_map, List.length_take]; omega
                refine w_reg ?_
                obtain ⟨Xe33, hXe33⟩ := get_of_lt (xs := x.marks) (i := j) (by omega)
                obtain ⟨be33, oe33, _, Ie33, _, Ae33, ⟨rfl, hsle33⟩⟩ := SM.at hXe33
                refine rl_run F (run_indexI tok49.k tok9 (F.ev rfl) (F.ev rfl) (by omega) Ie33) rfl ?_; clear F a; intro a F
                refine rl_run F (run_load1 (agf tok9 rfl) (F.ev rfl) (M.cellA Ae33 0 (by omega) rfl)) rfl ?_; clear F a; intro a F
                refine rl_run F (run_assign (F.ev rfl)) rfl ?_; clear F a; intro a F
                refine rl_nil <| q_tn <| w_plan2 [(.free, 0), (.pure, 1), (.pure, 2), (.free, 3), (.free, 4), (.keep, 5), (.keep, 6), (.keep, 7), (.keep, 8), (.keep, 9), (.free, 10)] [] (Keep G31 [.blk b5 [.int .u8 (Xe4.kind), .string (str (Xe4.tag)), .string (str (Xe4.key)), .slice (tae4) (Xe4.as.length) (tce4), .string (str (Xe4.text)), .slice (kae4) (Xe4.kids.length) (kce4)] 46, .blk b1 [.int .u64 (x.key), .int .u8 (x.typ), .string (str (x.text)), .slice (ma) (x.marks.length) (mc)] 102]) rfl (by kernel_rfl) (fun c a d v w h => by cases d <;> exact h) ((M.drew _).keep (Gle.refl _) (by simp)) ?_
                replace M := M.drew (w.drawn + 1)
                refine pk_free F (fun w _ => run_move (F.ev rfl)) rfl ?_; clear F a; intro a F
                refine pk_pure F (fun w M => run_loadA tok102 rfl (F.ev rfl) (cs := [.int .u64 (x.key), .int .u8 (x.typ), .string (str (x.text)), .slice (ma) (x.marks.length) (mc)]) rfl (M.cellsL (k := 1) rfl rfl)) rfl ?_; clear F a; intro a F
                refine pk_pure F (fun w M => run_loadA tok46 rfl (F.ev rfl) (cs := [.int .u8 (Xe4.kind), .string (str (Xe4.tag)), .string (str (Xe4.key)), .slice (tae4) (Xe4.as.length) (tce4), .string (str (Xe4.text)), .slice (kae4) (Xe4.kids.length) (kce4)]) rfl (M.cellsL (k := 0) rfl rfl)) rfl ?_; clear F a; intro a F
                iterate 2 (refine pk_free F (fun w _ => run_move (F.ev rfl)) rfl ?_; clear F a; intro a F)
                refine pk_keep ?_ rfl
                refine rl_callS F ent90 rfl rfl (mwords_spec (s := Xe33) M) ?_; clear F M a; rintro _ w a M rfl F
                refine rl_nil <| ⟨Keep G31 [.blk b5 [.int .u8 (Xe4.kind), .string (str (Xe4.tag)), .string (str (Xe4.key)), .slice (tae4) (Xe4.as.length) (tce4), .string (str (Xe4.text)), .slice (kae4) (Xe4.kids.length) (kce4)] 46, .blk b1 [.int .u64 (x.key), .int .u8 (x.typ), .string (str (x.text)), .slice (ma) (x.marks.length) (mc)] 102], M.keep (Gle.refl _) (by simp), fun w h => h.mono (Gle.refl _) (by simp), ?_⟩
                refine pk_keep ?_ rfl
                refine rl_buildSlice1 F M tok28.k tok30 rfl rfl (cs := [.int .u8 (2), .string (str ([] : List UInt8)), .string (str ([] : List UInt8)), .slice none (0) (0), .string (str (Xe33)), .slice none (0) (0)]) rfl rfl (by simp [Value.oneCell']) (by decide) rfl ?_; clear F M a; intro v34 w a M F
                obtain ⟨av34, cv34, rfl, hlev34, hcmv34, hlv34⟩ := M.row_shape (k := 0) rfl
                refine rl_nil <| ⟨Keep G31 [.blk b5 [.int .u8 (Xe4.kind), .string (str (Xe4.tag)), .string (str (Xe4.key)), .slice (tae4) (Xe4.as.length) (tce4), .string (str (Xe4.text)), .slice (kae4) (Xe4.kids.length) (kce4)] 46, .blk b1 [.int .u64 (x.key), .int .u8 (x.typ), .string (str (x.text)), .slice (ma) (x.marks.length) (mc)] 102], M.keep (Gle.refl _) (by simp), fun w h => h.mono (Gle.refl _) (by simp), ?_⟩
                have E35 : Els rdNE 6 G31 [.int .u8 (2), .string (str ([] : List UInt8)), .string (str ([] : List UInt8)), .slice none (0) (0), .string (str (Xe33)), .slice none (0) (0)] [(wordsN Xe33)] := Els.one (rdNE_close (x := (wordsN Xe33)) u8_2 ⟨Nat.zero_le _, Nat.zero_le _, (by first | assumption | exact hle4.2.2 | (have h_ := dec_len x.key.toNat (by omega); show (Lib.decDigits x.key.toNat).length ≤ _; omega))⟩ RdSl.nil RdSl.nil) rfl
                obtain ⟨hnz36, Gz36, az36, cz36, hGz36, hez36, Sz36, M⟩ := M.freeze_row mono_rdNE (k := 0) rfl E35 (by decide)
                clear hez36 az36 cz36
                replace SM := SM.mono mono_rdStr hGz36
                replace S := S.mono mono_rdP hGz36
                replace Ae4 := Ae4.mono hGz36
                replace SAe4 := SAe4.mono mono_rdSlot hGz36
                replace SKe4 := SKe4.mono mono_rdP hGz36
                replace Ez := Ez.mono mono_rdNE hGz36
                replace Ae33 := Ae33.mono hGz36
                clear hnz36
                replace Sz36 : RdSl rdNE 6 Gz36 (.slice (av34) ([(wordsN Xe33)]).length (cv34)) ([(wordsN Xe33)]) := Sz36
                refine pk_keep ?_ rfl
                refine rl_call F ent89 rfl rfl (melem_spec (x := x) (p := Xe4) (kk := Xe33) (ks := [(wordsN Xe33)]) M ht SM hik hke4 hle4 SAe4 SKe4 (okP_slots hOk (by omega)) Sz36) ?_; clear F M a; rintro _ Gm37 w a hGm37 M ⟨am37, rfl, SAm37, SKm37⟩ F
                replace SM := SM.mono mono_rdStr hGm37
                replace S := S.mono mono_rdP hGm37
                replace Ae4 := Ae4.mono hGm37
                replace SAe4 := SAe4.mono mono_rdSlot hGm37
                replace SKe4 := SKe4.mono mono_rdP hGm37
                replace Ez := Ez.mono mono_rdNE hGm37
                replace Ae33 := Ae33.mono hGm37
                replace Sz36 := Sz36.mono mono_rdNE hGm37
                refine rl_nil <| ⟨Keep Gm37 [.blk b5 [.int .u8 (Xe4.kind), .string (str (Xe4.tag)), .string (str (Xe4.key)), .slice (tae4) (Xe4.as.length) (tce4), .string (str (Xe4.text)), .slice (kae4) (Xe4.kids.length) (kce4)] 46, .blk b1 [.int .u64 (x.key), .int .u8 (x.typ), .string (str (x.text)), .slice (ma) (x.marks.length) (mc)] 102], M.keep (Gle.refl _) (by simp), fun w h => h.mono (hGz36.trans hGm37) (by simp), ?_⟩
                refine pk_keep ?_ rfl
                refine rl_buildSlice1 F M tok28.k tok30 rfl rfl (cs := [.int .u8 (1), .string (str (Xe4.tag)), .string (str (Xe33)), .slice (am37) ((Xe4.as.map (attrF x)).length) ((Xe4.as.map (attrF x)).length), .string (str ([] : List UInt8)), .slice (av34) (([(wordsN Xe33)]).length) (([(wordsN Xe33)]).length)]) rfl rfl (by simp [Value.oneCell']) (by decide) rfl ?_; clear F M a; intro v38 w a M F
                obtain ⟨av38, cv38, rfl, hlev38, hcmv38, hlv38⟩ := M.row_shape (k := 0) rfl
                refine rl_nil <| ⟨Keep Gm37 [.blk b5 [.int .u8 (Xe4.kind), .string (str (Xe4.tag)), .string (str (Xe4.key)), .slice (tae4) (Xe4.as.length) (tce4), .string (str (Xe4.text)), .slice (kae4) (Xe4.kids.length) (kce4)] 46, .blk b1 [.int .u64 (x.key), .int .u8 (x.typ), .string (str (x.text)), .slice (ma) (x.marks.length) (mc)] 102], M.keep (Gle.refl _) (by simp), fun w h => h.mono (Gle.refl _) (by simp), ?_⟩
                have E39 : Els rdNE 6 Gm37 [.int .u8 (1), .string (str (Xe4.tag)), .string (str (Xe33)), .slice (am37) ((Xe4.as.map (attrF x)).length) ((Xe4.as.map (attrF x)).length), .string (str ([] : List UInt8)), .slice (av34) (([(wordsN Xe33)]).length) (([(wordsN Xe33)]).length)] [(.mk 1 Xe4.tag Xe33 (Xe4.as.map (attrF x)) [] ([(wordsN Xe33)]) : NT)] := Els.one (rdNE_close (x := (.mk 1 Xe4.tag Xe33 (Xe4.as.map (attrF x)) [] ([(wordsN Xe33)]) : NT)) u8_1 ⟨hle4.1, (by first | assumption | exact hle4.2.1), Nat.zero_le _⟩ SAm37 SKm37) rfl
                refine pk_keep ?_ rfl
                refine rl_append_row F M (k := 2) (k2 := 0) rfl rfl tok28.k tok30 rfl rfl (by decide) rfl rfl (by show _ * 104 ≤ _; (try simp only [List.length_drop, List.length_take, List.length_append, List.length_cons, List.length_nil]); omega) (by (try simp only [List.length_drop, List.length_take, List.length_append, List.length_cons, List.length_nil]); omega) rfl ?_; clear F M a; intro v40 w a M F
                have Ev40 := Els.append Ez E39
                obtain ⟨av40, cv40, rfl, hlev40, hcmv40, hlv40⟩ := M.row_shape (k := 2) rfl
                refine rl_nil <| ⟨Keep Gm37 [.blk b5 [.int .u8 (Xe4.kind), .string (str (Xe4.tag)), .string (str (Xe4.key)), .slice (tae4) (Xe4.as.length) (tce4), .string (str (Xe4.text)), .slice (kae4) (Xe4.kids.length) (kce4)] 46, .blk b1 [.int .u64 (x.key), .int .u8 (x.typ), .string (str (x.text)), .slice (ma) (x.marks.length) (mc)] 102], M.keep (Gle.refl _) (by simp), fun w h => h.mono (Gle.refl _) (by simp), ?_⟩
                refine pk_free F (fun w _ => run_assign (F.ev rfl)) rfl ?_; clear F a; intro a F
                refine pk_nil <| q_bn <| q_tn <| w_reg <| rl_run F (run_addi (F.ev rfl) (F.ev rfl) (in_i64 (by omega) (by omega))) rfl ?_; clear F a; intro a F
                refine rl_run F (run_move (F.ev rfl)) rfl ?_; clear F a; intro a F
                refine rl_nil <| q_tn ?_
                exact ⟨_, by omega, j + 1, (av40), (nz + 1), (cv40), (csz ++ ([.int .u8 (1), .string (str (Xe4.tag)), .string (str (Xe33)), .slice (am37) ((Xe4.as.map (attrF x)).length) ((Xe4.as.map (attrF x)).length), .string (str ([] : List UInt8)), .slice (av34) (([(wordsN Xe33)]).length) (([(wordsN Xe33)]).length)])), rfl, Gm37, ((hG31.trans hGz36).trans hGm37), F.to ⟨rfl, rfl, rfl, rfl, rfl, rfl, rfl, rfl, rfl, trivial⟩, (M.weaken (.cons _ (.cons_cons _ (.cons_cons _ (.cons_cons _ (List.Sublist.refl _)))))), by omega, by rw [each_snoc hXe33, ← List.append_assoc, List.length_append, ← hnz]; rfl, by rw [each_snoc hXe33, ← List.append_assoc]; exact Ev40⟩
              · intro hc
                have h41b := hc; clear hc
                have h41 : ¬ (((j : Nat) : Int) < ((x.marks.length : Nat) : Int)) := of_decide_eq_false h41b
                refine wp_exit ?_
                iterate 2 (refine q_te ?_)
                refine q_bh ?_
                iterate 2 (refine q_bn ?_)
                refine q_tn <| w_reg <| rl_run F (run_addi (F.ev rfl) (F.ev rfl) (in_i64 (by omega) (by omega))) rfl ?_; clear F a; intro a F
                refine rl_run F (run_move (F.ev rfl)) rfl ?_; clear F a; intro a F
                refine rl_nil <| q_tn ?_
                exact ⟨_, by omega, i + 1, (az), (nz), (cz), (csz), rfl, G31, (hG2.trans hG31), F.to ⟨rfl, rfl, rfl, rfl, rfl, trivial⟩, (M.weaken (.cons _ (.cons_cons _ (.cons_cons _ (List.Sublist.refl _))))), by omega, by rw [mades_snoc hXe4, made5 (by assumption)]; rw [List.take_of_length_le (l := x.marks) (by omega)] at hnz; exact hnz, by rw [mades_snoc hXe4, made5 (by assumption)]; rw [List.take_of_length_le (l := x.marks) (by omega)] at Ez; exact Ez⟩
            · intro hc
              have h42b := hc; clear hc
              have h42 : ¬ (Xe4.kind = 5) := of_decide_eq_false h42b
              refine wp_skip ?_
              iterate 2 (refine q_bn ?_)
              refine q_tn <| w_reg <| rl_run F (run_addi (F.ev rfl) (F.ev rfl) (in_i64 (by omega) (by omega))) rfl ?_; clear F a; intro a F
              refine rl_run F (run_move (F.ev rfl)) rfl ?_; clear F a; intro a F
              refine rl_nil <| q_tn ?_
              exact ⟨_, by omega, i + 1, (ay), (ny), (cy), (csy), rfl, G2, hG2, F.to ⟨rfl, rfl, rfl, rfl, rfl, trivial⟩, (M.weaken (.cons _ (.cons_cons _ (.cons_cons _ (List.Sublist.refl _))))), by omega, by rw [mades_snoc hXe4, made0 (by assumption) (by assumption) (by assumption) (by assumption) (by assumption), List.append_nil]; exact hny, by rw [mades_snoc hXe4, made0 (by assumption) (by assumption) (by assumption) (by assumption) (by assumption), List.append_nil]; exact Ey⟩
  · intro hc
    have h43b := hc; clear hc
    have h43 : ¬ (((i : Nat) : Int) < ((ps.length : Nat) : Int)) := of_decide_eq_false h43b
    refine wp_exit ?_
    iterate 2 (refine q_te ?_)
    refine q_bh <| q_tn <| wp_seq <| w_reg <| rl_run F (run_move (F.ev rfl)) rfl ?_; clear F a; intro a F
    refine rl_run F (run_assign (F.ev rfl)) rfl ?_; clear F a; intro a F
    refine rl_nil <| q_tn <| wp_ret <| fin1 F rfl rfl ?_
    rw [List.take_of_length_le (by omega)] at hny Ey
    obtain ⟨hnz44, Gz44, az44, cz44, hGz44, hez44, Sz44, M⟩ := M.freeze_row mono_rdNE (k := 0) rfl Ey (by decide)
    clear hez44 az44 cz44
    exact ⟨Gz44, (hG2.trans hGz44), M.weaken (.cons _ (List.Sublist.refl _)), _, _, by rw [hny], by have h_ := Sz44; rw [hny] at h_; exact h_⟩
theorem mmake_all {x : ItemD} (hik : inKind .u64 x.key) (hio : ItemOk x) (ht : x.text.length ≤ 9223372036854775807) (ps : List PT) : MakeQ x ps := by
  suffices h : ∀ n (ps : List PT), Tr.sizes ps ≤ n → MakeQ x ps from h _ ps (Nat.le_refl _)
  intro n
  induction n with
  | zero => intro ps hn w0 w G L ma pa mc pc M SM S hps hok; exact mmake_step hik hio ht (fun p hp => by have := sizes_kids_lt hp; omega) M SM S hps hok
  | succ n ih => intro ps hn w0 w G L ma pa mc pc M SM S hps hok; exact mmake_step hik hio ht (fun p hp => ih _ (by have := sizes_kids_lt hp; omega)) M SM S hps hok
end Go.Proofs.YtlnehkjmmegkhaaGreat
