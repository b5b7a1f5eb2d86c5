/- The walks, part M. -/
import Derived.Test.YtlnehkjmmegkhaaGreatWalkL
namespace Go.Proofs.YtlnehkjmmegkhaaGreat
open Go Go.Y Go.Proofs
set_option linter.unusedSimpArgs false
set_option linter.unusedVariables false
theorem rattrs_spec {w0 w : World} {G : Ghost} {L : List Res} (M : Mem w0 G L w) {x : ItemD} {ma : Option Addr} {mc : Nat} (ht : x.text.length ≤ 9223372036854775807) (SM : RdSl rdStr 1 G (.slice ma x.marks.length mc) x.marks) (hik : inKind .u64 x.key) {ad : Option Addr} {cd : Nat} {xs : List SlotD} (S : RdSl rdSlot 3 G (.slice ad xs.length cd) xs) (hxs : xs.length ≤ 8) : Calls Tryz.prog 93 #[.slice ad xs.length cd, .agg #[.int .u64 (x.key), .int .u8 (x.typ), .string (str (x.text)), .slice (ma) (x.marks.length) (mc)]] w (Ret w0 G L fun G' v => ∃ a' c', v = .slice a' ((xs).map (attrF x)).length c' ∧ RdSl rdAttr 2 G' (.slice a' ((xs).map (attrF x)).length c') ((xs).map (attrF x))) := by
  refine calls_start (vs := [_, _]) Tryz.func93 rfl (n := 51) rfl rfl ?_
  intro a F
  refine wp_seq <| w_reg <| rl_box F M rfl (cs := [.int .u64 (x.key), .int .u8 (x.typ), .string (str (x.text)), .slice (ma) (x.marks.length) (mc)]) rfl rfl ?_; clear F M a; intro b1 w a M F
  refine rl_run F (run_assign (F.ev rfl)) rfl ?_; clear F a; intro a F
  refine rl_nil <| q_tn <| wp_seq <| w_reg <| rl_run F (run_assign (F.ev rfl)) rfl ?_; clear F a; intro a F
  refine rl_nil <| q_tn ?_
  iterate 2 (refine wp_seq ?_)
  have bM := SM.bound
  have hik' : 0 ≤ x.key ∧ x.key ≤ 18446744073709551615 := hik
  refine w_reg <| rl_run F (run_assign (F.ev rfl)) rfl ?_; clear F a; intro a F
  refine rl_nil <| q_tn <| wp_block ?_
  have M := M.nilrow 87 2
  refine w_loopN (fun m a' w' => ∃ (i : Nat), ∃ (ay : Option Addr), ∃ (ny : Nat), ∃ (cy : Nat), ∃ (csy : List Value), m = xs.length - i ∧ Fits 51 a' [(0, .slice (ad) (xs.length) (cd)), (3, .pointer (some ⟨b1, 0, none⟩)), (5, .slice (ay) (ny) (cy)), (6, .int .i64 (((i : Nat) : Int)))] ∧ Mem w0 G (.row (.slice (ay) (ny) (cy)) (ny) (csy) 87 2 :: .blk b1 [.int .u64 (x.key), .int .u8 (x.typ), .string (str (x.text)), .slice (ma) (x.marks.length) (mc)] 51 :: L) w' ∧ (i ≤ xs.length) ∧ (ny = ((xs.take i).map (attrF x)).length) ∧ (Els rdAttr 2 G csy ((xs.take i).map (attrF x)))) _ ⟨0, (none), (0), (0), ([]), rfl, F.to ⟨rfl, rfl, rfl, rfl, trivial⟩, M, Nat.zero_le _, rfl, Els.nil⟩ ?_
  clear F M
  rintro m a w ⟨i, ay, ny, cy, csy, rfl, F, M, hi, hny, Ey⟩
  iterate 2 (refine wp_seq ?_)
  refine w_reg ?_
  iterate 2 (refine rl_run F (run_move (F.ev rfl)) rfl ?_; clear F a; intro a F)
  refine rl_run F (run_lenSl tok43.k (F.ev rfl)) rfl ?_; clear F a; intro a F
  refine rl_run F (run_lss (F.ev rfl) (F.ev rfl)) rfl ?_; clear F a; intro a F
  refine rl_nil <| q_tn <| w_cond F rfl ?_ ?_
  · intro hc
    have h2b := hc; clear hc
    have h2 : ((i : Nat) : Int) < ((xs.length : Nat) : Int) := of_decide_eq_true h2b
    refine wp_skip <| q_tn <| wp_seq <| wp_block <| wp_seq <| w_reg ?_
    iterate 2 (refine rl_run F (run_move (F.ev rfl)) rfl ?_; clear F a; intro a F)
    obtain ⟨Xe3, hXe3⟩ := get_of_lt (xs := xs) (i := i) (by omega)
    obtain ⟨be3, oe3, _, Ie3, _, Ae3, ⟨rfl, hn1e3, hk1e3, hv1e3⟩⟩ := S.at hXe3
    refine rl_run F (run_indexI tok43.k tok76 (F.ev rfl) (F.ev rfl) (by omega) Ie3) rfl ?_; clear F a; intro a F
    refine rl_run F (run_fieldAddr tok76.k rfl rfl (F.ev rfl)) rfl ?_; clear F a; intro a F
    refine rl_run F (run_load1 (agf tok9 rfl) (F.ev rfl) (M.cellA Ae3 2 rfl rfl)) rfl ?_; clear F a; intro a F
    refine rl_run F (run_assign (F.ev rfl)) rfl ?_; clear F a; intro a F
    refine rl_nil <| q_tn ?_
    iterate 2 (refine wp_seq ?_)
    refine w_reg ?_
    iterate 2 (refine rl_run F (run_move (F.ev rfl)) rfl ?_; clear F a; intro a F)
    obtain ⟨be4, oe4, _, Ie4, _, Ae4, ⟨rfl, hn1e4, hk1e4, hv1e4⟩⟩ := S.at hXe3
    refine rl_run F (run_indexI tok43.k tok76 (F.ev rfl) (F.ev rfl) (by omega) Ie4) rfl ?_; clear F a; intro a F
    refine rl_run F (run_fieldAddr tok76.k rfl rfl (F.ev rfl)) rfl ?_; clear F a; intro a F
    refine rl_run F (run_load1 (agf tok5 rfl) (F.ev rfl) (M.cellA Ae4 1 rfl rfl)) rfl ?_; clear F a; intro a F
    refine rl_nil <| q_tn <| wp_block <| wp_seq <| w_reg <| rl_run F (run_eqi (F.ev rfl) (F.ev rfl)) rfl ?_; clear F a; intro a F
    refine rl_run F (run_assign (F.ev rfl)) rfl ?_; clear F a; intro a F
    refine rl_nil <| q_tn <| w_cut (fun a' w' => ∃ (vv : List UInt8), Fits 51 a' [(0, .slice (ad) (xs.length) (cd)), (3, .pointer (some ⟨b1, 0, none⟩)), (5, .slice (ay) (ny) (cy)), (6, .int .i64 (((i : Nat) : Int))), (7, .string (str (vv)))] ∧ Mem w0 G (.row (.slice (ay) (ny) (cy)) (ny) (csy) 87 2 :: .blk b1 [.int .u64 (x.key), .int .u8 (x.typ), .string (str (x.text)), .slice (ma) (x.marks.length) (mc)] 51 :: L) w' ∧ (vv = attrV x Xe3)) ?_ ?_
    · skip
      refine w_cond F rfl ?_ ?_
      · intro hc
        have h5b := hc; clear hc
        have h5 : Xe3.src = 1 := of_decide_eq_true h5b
        refine w_reg <| rl_run F (run_fieldAddr tok51.k rfl rfl (F.ev rfl)) rfl ?_; clear F a; intro a F
        refine rl_run F (run_load1 (agf tok9 rfl) (F.ev rfl) (M.cellL (k := 1) rfl rfl)) rfl ?_; clear F a; intro a F
        refine rl_run F (run_assign (F.ev rfl)) rfl ?_; clear F a; intro a F
        refine rl_nil ?_
        exact ⟨(x.text), F.to ⟨rfl, rfl, rfl, rfl, rfl, trivial⟩, M, by unfold attrV; (try rw [if_pos (by assumption)]); (try rw [if_neg (by assumption)]); (try rw [if_pos (by assumption)]); (try rw [if_neg (by assumption)]); (try rw [if_pos (by assumption)]); (try rw [if_neg (by assumption)])⟩
      · intro hc
        have h6b := hc; clear hc
        have h6 : ¬ (Xe3.src = 1) := of_decide_eq_false h6b
        refine wp_seq <| w_reg <| rl_run F (run_eqi (F.ev rfl) (F.ev rfl)) rfl ?_; clear F a; intro a F
        refine rl_run F (run_assign (F.ev rfl)) rfl ?_; clear F a; intro a F
        refine rl_nil <| q_tn <| w_cond F rfl ?_ ?_
        · intro hc
          have h7b := hc; clear hc
          have h7 : Xe3.src = 2 := of_decide_eq_true h7b
          refine w_reg <| rl_run F (run_fieldAddr tok51.k rfl rfl (F.ev rfl)) rfl ?_; clear F a; intro a F
          refine rl_run F (run_load1 (agf tok48 rfl) (F.ev rfl) (M.cellL (k := 1) rfl rfl)) rfl ?_; clear F a; intro a F
          have hu8 : (x.key : Int) = (((x.key).toNat : Nat) : Int) := by omega
          rw [hu8] at F
          refine rl_callS F ent92 rfl rfl (rdeci_spec (u := (x.key).toNat) M (by omega)) ?_; clear F M a; rintro _ w a M rfl F
          refine rl_run F (run_assign (F.ev rfl)) rfl ?_; clear F a; intro a F
          refine rl_nil ?_
          exact ⟨(Lib.decDigits ((x.key).toNat)), F.to ⟨rfl, rfl, rfl, rfl, rfl, trivial⟩, M, by unfold attrV; (try rw [if_pos (by assumption)]); (try rw [if_neg (by assumption)]); (try rw [if_pos (by assumption)]); (try rw [if_neg (by assumption)]); (try rw [if_pos (by assumption)]); (try rw [if_neg (by assumption)])⟩
        · intro hc
          have h9b := hc; clear hc
          have h9 : ¬ (Xe3.src = 2) := of_decide_eq_false h9b
          refine wp_seq <| w_reg <| rl_run F (run_eqi (F.ev rfl) (F.ev rfl)) rfl ?_; clear F a; intro a F
          refine rl_run F (run_assign (F.ev rfl)) rfl ?_; clear F a; intro a F
          refine rl_nil <| q_tn <| w_cond F rfl ?_ ?_
          · intro hc
            have h10b := hc; clear hc
            have h10 : Xe3.src = 3 := of_decide_eq_true h10b
            refine w_reg <| rl_run F (run_fieldAddr tok51.k rfl rfl (F.ev rfl)) rfl ?_; clear F a; intro a F
            refine rl_run F (run_load1 (agf tok49 rfl) (F.ev rfl) (M.cellL (k := 1) rfl rfl)) rfl ?_; clear F a; intro a F
            refine rl_run F (run_lenSl tok49.k (F.ev rfl)) rfl ?_; clear F a; intro a F
            refine rl_run F (run_conv_int tok48.k ⟨_, by rw [under_int tok3.k]⟩ (F.ev rfl) (in_u64 (by omega) (by omega))) rfl ?_; clear F a; intro a F
            refine rl_callS F ent92 rfl rfl (rdeci_spec (u := x.marks.length) M (by omega)) ?_; clear F M a; rintro _ w a M rfl F
            refine rl_run F (run_assign (F.ev rfl)) rfl ?_; clear F a; intro a F
            refine rl_nil ?_
            exact ⟨(Lib.decDigits x.marks.length), F.to ⟨rfl, rfl, rfl, rfl, rfl, trivial⟩, M, by unfold attrV; (try rw [if_pos (by assumption)]); (try rw [if_neg (by assumption)]); (try rw [if_pos (by assumption)]); (try rw [if_neg (by assumption)]); (try rw [if_pos (by assumption)]); (try rw [if_neg (by assumption)])⟩
          · intro hc
            have h11b := hc; clear hc
            have h11 : ¬ (Xe3.src = 3) := of_decide_eq_false h11b
            refine wp_skip ?_
            exact ⟨(Xe3.v), F.to ⟨rfl, rfl, rfl, rfl, rfl, trivial⟩, M, by unfold attrV; (try rw [if_pos (by assumption)]); (try rw [if_neg (by assumption)]); (try rw [if_pos (by assumption)]); (try rw [if_neg (by assumption)]); (try rw [if_pos (by assumption)]); (try rw [if_neg (by assumption)])⟩
    · clear F M
      rintro a w ⟨vv, F, M, hvv⟩
      refine q_bn <| q_tn ?_
      rw [hvv] at F
      have hny2 : ny ≤ 8 := by rw [hny, List.length_map, List.length_take]; omega
      refine w_reg ?_
      iterate 3 (refine rl_run F (run_move (F.ev rfl)) rfl ?_; clear F a; intro a F)
      obtain ⟨be12, oe12, _, Ie12, _, Ae12, ⟨rfl, hn1e12, hk1e12, hv1e12⟩⟩ := S.at hXe3
      refine rl_run F (run_indexI tok43.k tok76 (F.ev rfl) (F.ev rfl) (by omega) Ie12) rfl ?_; clear F a; intro a F
      refine rl_run F (run_fieldAddr tok76.k rfl rfl (F.ev rfl)) rfl ?_; clear F a; intro a F
      refine rl_run F (run_load1 (agf tok9 rfl) (F.ev rfl) (M.cellA Ae12 0 rfl rfl)) rfl ?_; clear F a; intro a F
      refine rl_run F (run_move (F.ev rfl)) rfl ?_; clear F a; intro a F
      refine rl_run F (run_buildS (cs := [.string (str (Xe3.n)), .string (str (attrV x Xe3))]) (ps := [(0, .string (str (Xe3.n))), (1, .string (str (attrV x Xe3)))]) tok87.k rfl tok87 (F.evp rfl) rfl) rfl ?_; clear F a; intro a F
      refine rl_buildSlice1 F M tok27.k tok87 rfl rfl (cs := [.string (str (Xe3.n)), .string (str (attrV x Xe3))]) rfl rfl (by simp [Value.oneCell']) (by decide) rfl ?_; clear F M a; intro v13 w a M F
      obtain ⟨av13, cv13, rfl, hlev13, hcmv13, hlv13⟩ := M.row_shape (k := 0) rfl
      have E14 : Els rdAttr 2 G [.string (str (Xe3.n)), .string (str (attrV x Xe3))] [attrF x Xe3] := Els.one ⟨rfl, hn1e3, attrV_len ht hik (by omega) Xe3 hv1e3⟩ rfl
      refine rl_append_row F M (k := 1) (k2 := 0) rfl rfl tok27.k tok87 rfl rfl (by decide) rfl rfl (by show _ * 32 ≤ _; (try simp only [List.length_drop, List.length_take, List.length_append, List.length_cons, List.length_nil]); omega) (by (try simp only [List.length_drop, List.length_take, List.length_append, List.length_cons, List.length_nil]); omega) rfl ?_; clear F M a; intro v15 w a M F
      have Ev15 := Els.append Ey E14
      obtain ⟨av15, cv15, rfl, hlev15, hcmv15, hlv15⟩ := M.row_shape (k := 1) rfl
      refine rl_run F (run_assign (F.ev rfl)) rfl ?_; clear F a; intro a F
      refine rl_nil <| q_bn <| q_tn <| w_reg <| rl_run F (run_move (F.ev rfl)) rfl ?_; clear F a; intro a F
      refine rl_run F (run_addi (F.ev rfl) (F.ev rfl) (in_i64 (by omega) (by omega))) rfl ?_; clear F a; intro a F
      refine rl_run F (run_assign (F.ev rfl)) rfl ?_; clear F a; intro a F
      refine rl_nil <| q_tn ?_
      exact ⟨_, by omega, i + 1, (av15), (ny + 1), (cv15), (csy ++ ([.string (str (Xe3.n)), .string (str (attrV x Xe3))])), rfl, F.to ⟨rfl, rfl, rfl, rfl, trivial⟩, (M.weaken (.cons _ (.cons_cons _ (.cons_cons _ (List.Sublist.refl _))))), by omega, by rw [Tr.take_snoc' hXe3, List.map_append, List.length_append, ← hny]; rfl, by rw [Tr.take_snoc' hXe3, List.map_append]; exact Ev15⟩
  · intro hc
    have h16b := hc; clear hc
    have h16 : ¬ (((i : Nat) : Int) < ((xs.length : Nat) : Int)) := of_decide_eq_false h16b
    refine wp_exit ?_
    iterate 2 (refine q_te ?_)
    refine q_bh <| q_tn <| wp_seq <| w_reg <| rl_run F (run_move (F.ev rfl)) rfl ?_; clear F a; intro a F
    refine rl_run F (run_assign (F.ev rfl)) rfl ?_; clear F a; intro a F
    refine rl_nil <| q_tn <| wp_ret <| fin1 F rfl rfl ?_
    rw [List.take_of_length_le (by omega)] at hny Ey
    obtain ⟨hnz17, Gz17, az17, cz17, hGz17, hez17, Sz17, M⟩ := M.freeze_row mono_rdAttr (k := 0) rfl Ey (by decide)
    clear hez17 az17 cz17
    exact ⟨Gz17, hGz17, M.weaken (.cons _ (List.Sublist.refl _)), _, _, by rw [hny], by have h_ := Sz17; rw [hny] at h_; exact h_⟩
def RmadeQ (x : ItemD) (p : PT) : Prop := ∀ (w0 w : World) (G : Ghost) (L : List Res) (ma tap kap : Option Addr) (mc tcp kcp : Nat), Mem w0 G L w → inKind .u8 p.kind → (p.tag.length ≤ 9223372036854775807 ∧ p.key.length ≤ 9223372036854775807 ∧ p.text.length ≤ 9223372036854775807) → RdSl rdSlot 3 G (.slice tap p.as.length tcp) p.as → RdSl rdP 6 G (.slice kap p.kids.length kcp) p.kids → RdSl rdStr 1 G (.slice ma x.marks.length mc) x.marks → (∃ n, Tr.Ok AloneP n p) →
    Calls Tryz.prog 63 #[.agg #[.int .u8 (p.kind), .string (str (p.tag)), .string (str (p.key)), .slice (tap) (p.as.length) (tcp), .string (str (p.text)), .slice (kap) (p.kids.length) (kcp)], .agg #[.int .u64 (x.key), .int .u8 (x.typ), .string (str (x.text)), .slice (ma) (x.marks.length) (mc)]] w (Ret w0 G L fun G' v => ∃ a' c', v = .slice a' (madeF x p).length c' ∧ RdSl rdN 6 G' (.slice a' (madeF x p).length c') (madeF x p))
theorem rmade_step {x : ItemD} (hik : inKind .u64 x.key) (hio : ItemOk x) (ht : x.text.length ≤ 9223372036854775807) {p : PT} (ih : ∀ c ∈ p.kids, RmadeQ x c) {w0 w : World} {G : Ghost} {L : List Res} (M : Mem w0 G L w) {tap : Option Addr} {tcp : Nat} {kap : Option Addr} {kcp : Nat} (hkp : inKind .u8 p.kind) (hlp : (p.tag.length ≤ 9223372036854775807 ∧ p.key.length ≤ 9223372036854775807 ∧ p.text.length ≤ 9223372036854775807)) (SAp : RdSl rdSlot 3 G (.slice tap p.as.length tcp) p.as) (SKp : RdSl rdP 6 G (.slice kap p.kids.length kcp) p.kids) {ma : Option Addr} {mc : Nat} (SM : RdSl rdStr 1 G (.slice ma x.marks.length mc) x.marks) (hok : ∃ n, Tr.Ok AloneP n p) :
    Calls Tryz.prog 63 #[.agg #[.int .u8 (p.kind), .string (str (p.tag)), .string (str (p.key)), .slice (tap) (p.as.length) (tcp), .string (str (p.text)), .slice (kap) (p.kids.length) (kcp)], .agg #[.int .u64 (x.key), .int .u8 (x.typ), .string (str (x.text)), .slice (ma) (x.marks.length) (mc)]] w (Ret w0 G L fun G' v => ∃ a' c', v = .slice a' (madeF x p).length c' ∧ RdSl rdN 6 G' (.slice a' (madeF x p).length c') (madeF x p)) := by
  refine calls_start (vs := [_, _]) Tryz.func63 rfl (n := 91) rfl rfl ?_
  intro a F
  refine wp_seq <| w_reg <| rl_box F M rfl (cs := [.int .u8 (p.kind), .string (str (p.tag)), .string (str (p.key)), .slice (tap) (p.as.length) (tcp), .string (str (p.text)), .slice (kap) (p.kids.length) (kcp)]) rfl rfl ?_; clear F M a; intro b1 w a M F
  refine rl_box F M rfl (cs := [.int .u64 (x.key), .int .u8 (x.typ), .string (str (x.text)), .slice (ma) (x.marks.length) (mc)]) rfl rfl ?_; clear F M a; intro b2 w a M F
  refine rl_run F (run_assign (F.ev rfl)) rfl ?_; clear F a; intro a F
  refine rl_nil <| q_tn ?_
  iterate 2 (refine wp_seq ?_)
  have bM := SM.bound
  have hio3 := hio.2.2.1
  have hik' : 0 ≤ x.key ∧ x.key ≤ 18446744073709551615 := hik
  obtain ⟨nk, hOk⟩ := hok
  have hkl := okP_len hOk
  refine w_reg <| rl_run F (run_fieldAddr tok46.k rfl rfl (F.ev rfl)) rfl ?_; clear F a; intro a F
  refine rl_run F (run_load1 (agf tok5 rfl) (F.ev rfl) (M.cellL (k := 1) rfl rfl)) rfl ?_; clear F a; intro a F
  refine rl_nil <| q_tn <| wp_block <| wp_seq <| w_reg <| rl_run F (run_eqi (F.ev rfl) (F.ev rfl)) rfl ?_; clear F a; intro a F
  refine rl_run F (run_assign (F.ev rfl)) rfl ?_; clear F a; intro a F
  refine rl_nil <| q_tn <| w_cond F rfl ?_ ?_
  · intro hc
    have h3b := hc; clear hc
    have h3 : p.kind = 2 := of_decide_eq_true h3b
    refine wp_seq <| w_reg <| rl_run F (run_fieldAddr tok46.k rfl rfl (F.ev rfl)) rfl ?_; clear F a; intro a F
    refine rl_run F (run_load1 (agf tok9 rfl) (F.ev rfl) (M.cellL (k := 1) rfl rfl)) rfl ?_; clear F a; intro a F
    refine rl_run F (run_buildS (cs := [.int .u8 (2), .string (str ([] : List UInt8)), .string (str ([] : List UInt8)), .slice none (0) (0), .string (str (p.text)), .slice none (0) (0)]) (ps := [(0, .int .u8 (2)), (4, .string (str (p.text)))]) tok30.k rfl tok30 (F.evp rfl) rfl) rfl ?_; clear F a; intro a F
    refine rl_buildSlice1 F M tok28.k tok30 rfl rfl (cs := [.int .u8 (2), .string (str ([] : List UInt8)), .string (str ([] : List UInt8)), .slice none (0) (0), .string (str (p.text)), .slice none (0) (0)]) rfl rfl (by simp [Value.oneCell']) (by decide) rfl ?_; clear F M a; intro v4 w a M F
    obtain ⟨av4, cv4, rfl, hlev4, hcmv4, hlv4⟩ := M.row_shape (k := 0) rfl
    refine rl_run F (run_assign (F.ev rfl)) rfl ?_; clear F a; intro a F
    refine rl_nil <| q_tn <| wp_ret <| q_br <| q_tr <| fin1 F rfl rfl ?_
    have E5 : Els rdN 6 G [.int .u8 (2), .string (str ([] : List UInt8)), .string (str ([] : List UInt8)), .slice none (0) (0), .string (str (p.text)), .slice none (0) (0)] [(.mk 2 ([] : List UInt8) ([] : List UInt8) ([]) p.text ([]) : NT)] := Els.one (rdT_close (x := (.mk 2 ([] : List UInt8) ([] : List UInt8) ([]) p.text ([]) : NT)) u8_2 ⟨(by first | exact Nat.zero_le _ | assumption | exact hlp.1 | exact hlp.2.1 | exact hlp.2.2 | (have h_ := dec_len x.key.toNat (by omega); show (Lib.decDigits x.key.toNat).length ≤ _; omega)), (by first | exact Nat.zero_le _ | assumption | exact hlp.1 | exact hlp.2.1 | exact hlp.2.2 | (have h_ := dec_len x.key.toNat (by omega); show (Lib.decDigits x.key.toNat).length ≤ _; omega)), (by first | exact Nat.zero_le _ | assumption | exact hlp.1 | exact hlp.2.1 | exact hlp.2.2 | (have h_ := dec_len x.key.toNat (by omega); show (Lib.decDigits x.key.toNat).length ≤ _; omega))⟩ RdSl.nil RdSl.nil) rfl
    obtain ⟨hnz6, Gz6, az6, cz6, hGz6, hez6, Sz6, M⟩ := M.freeze_row mono_rdN (k := 0) rfl E5 (by decide)
    clear hez6 az6 cz6
    exact ⟨Gz6, ((Gle.refl _).trans hGz6), M.weaken (.cons _ (.cons _ (List.Sublist.refl _))), _, _, by rw [made2 (by assumption)]; rfl, by rw [made2 (by assumption)]; exact Sz6⟩
  · intro hc
    have h7b := hc; clear hc
    have h7 : ¬ (p.kind = 2) := of_decide_eq_false h7b
    refine wp_seq <| w_reg <| rl_run F (run_eqi (F.ev rfl) (F.ev rfl)) rfl ?_; clear F a; intro a F
    refine rl_run F (run_assign (F.ev rfl)) rfl ?_; clear F a; intro a F
    refine rl_nil <| q_tn <| w_cond F rfl ?_ ?_
    · intro hc
      have h8b := hc; clear hc
      have h8 : p.kind = 3 := of_decide_eq_true h8b
      refine wp_seq <| w_reg <| rl_run F (run_fieldAddr tok51.k rfl rfl (F.ev rfl)) rfl ?_; clear F a; intro a F
      refine rl_run F (run_load1 (agf tok9 rfl) (F.ev rfl) (M.cellL (k := 0) rfl rfl)) rfl ?_; clear F a; intro a F
      refine rl_run F (run_buildS (cs := [.int .u8 (2), .string (str ([] : List UInt8)), .string (str ([] : List UInt8)), .slice none (0) (0), .string (str (x.text)), .slice none (0) (0)]) (ps := [(0, .int .u8 (2)), (4, .string (str (x.text)))]) tok30.k rfl tok30 (F.evp rfl) rfl) rfl ?_; clear F a; intro a F
      refine rl_buildSlice1 F M tok28.k tok30 rfl rfl (cs := [.int .u8 (2), .string (str ([] : List UInt8)), .string (str ([] : List UInt8)), .slice none (0) (0), .string (str (x.text)), .slice none (0) (0)]) rfl rfl (by simp [Value.oneCell']) (by decide) rfl ?_; clear F M a; intro v9 w a M F
      obtain ⟨av9, cv9, rfl, hlev9, hcmv9, hlv9⟩ := M.row_shape (k := 0) rfl
      refine rl_run F (run_assign (F.ev rfl)) rfl ?_; clear F a; intro a F
      refine rl_nil <| q_tn <| wp_ret <| q_br <| q_tr <| fin1 F rfl rfl ?_
      have E10 : Els rdN 6 G [.int .u8 (2), .string (str ([] : List UInt8)), .string (str ([] : List UInt8)), .slice none (0) (0), .string (str (x.text)), .slice none (0) (0)] [(.mk 2 ([] : List UInt8) ([] : List UInt8) ([]) x.text ([]) : NT)] := Els.one (rdT_close (x := (.mk 2 ([] : List UInt8) ([] : List UInt8) ([]) x.text ([]) : NT)) u8_2 ⟨(by first | exact Nat.zero_le _ | assumption | exact hlp.1 | exact hlp.2.1 | exact hlp.2.2 | (have h_ := dec_len x.key.toNat (by omega); show (Lib.decDigits x.key.toNat).length ≤ _; omega)), (by first | exact Nat.zero_le _ | assumption | exact hlp.1 | exact hlp.2.1 | exact hlp.2.2 | (have h_ := dec_len x.key.toNat (by omega); show (Lib.decDigits x.key.toNat).length ≤ _; omega)), (by first | exact Nat.zero_le _ | assumption | exact hlp.1 | exact hlp.2.1 | exact hlp.2.2 | (have h_ := dec_len x.key.toNat (by omega); show (Lib.decDigits x.key.toNat).length ≤ _; omega))⟩ RdSl.nil RdSl.nil) rfl
      obtain ⟨hnz11, Gz11, az11, cz11, hGz11, hez11, Sz11, M⟩ := M.freeze_row mono_rdN (k := 0) rfl E10 (by decide)
      clear hez11 az11 cz11
      exact ⟨Gz11, ((Gle.refl _).trans hGz11), M.weaken (.cons _ (.cons _ (List.Sublist.refl _))), _, _, by rw [made3 (by assumption)]; rfl, by rw [made3 (by assumption)]; exact Sz11⟩
    · intro hc
      have h12b := hc; clear hc
      have h12 : ¬ (p.kind = 3) := of_decide_eq_false h12b
      refine wp_seq <| w_reg <| rl_run F (run_eqi (F.ev rfl) (F.ev rfl)) rfl ?_; clear F a; intro a F
      refine rl_run F (run_assign (F.ev rfl)) rfl ?_; clear F a; intro a F
      refine rl_nil <| q_tn <| w_cond F rfl ?_ ?_
      · intro hc
        have h13b := hc; clear hc
        have h13 : p.kind = 4 := of_decide_eq_true h13b
        refine wp_seq <| w_reg <| rl_run F (run_fieldAddr tok51.k rfl rfl (F.ev rfl)) rfl ?_; clear F a; intro a F
        refine rl_run F (run_load1 (agf tok48 rfl) (F.ev rfl) (M.cellL (k := 0) rfl rfl)) rfl ?_; clear F a; intro a F
        have hu14 : (x.key : Int) = (((x.key).toNat : Nat) : Int) := by omega
        rw [hu14] at F
        refine rl_callS F ent92 rfl rfl (rdeci_spec (u := (x.key).toNat) M (by omega)) ?_; clear F M a; rintro _ w a M rfl F
        refine rl_run F (run_buildS (cs := [.int .u8 (2), .string (str ([] : List UInt8)), .string (str ([] : List UInt8)), .slice none (0) (0), .string (str (Lib.decDigits ((x.key).toNat))), .slice none (0) (0)]) (ps := [(0, .int .u8 (2)), (4, .string (str (Lib.decDigits ((x.key).toNat))))]) tok30.k rfl tok30 (F.evp rfl) rfl) rfl ?_; clear F a; intro a F
        refine rl_buildSlice1 F M tok28.k tok30 rfl rfl (cs := [.int .u8 (2), .string (str ([] : List UInt8)), .string (str ([] : List UInt8)), .slice none (0) (0), .string (str (Lib.decDigits ((x.key).toNat))), .slice none (0) (0)]) rfl rfl (by simp [Value.oneCell']) (by decide) rfl ?_; clear F M a; intro v15 w a M F
        obtain ⟨av15, cv15, rfl, hlev15, hcmv15, hlv15⟩ := M.row_shape (k := 0) rfl
        refine rl_run F (run_assign (F.ev rfl)) rfl ?_; clear F a; intro a F
        refine rl_nil <| q_tn <| wp_ret <| q_br <| q_tr <| fin1 F rfl rfl ?_
        have E16 : Els rdN 6 G [.int .u8 (2), .string (str ([] : List UInt8)), .string (str ([] : List UInt8)), .slice none (0) (0), .string (str (Lib.decDigits ((x.key).toNat))), .slice none (0) (0)] [(.mk 2 ([] : List UInt8) ([] : List UInt8) ([]) (Lib.decDigits ((x.key).toNat)) ([]) : NT)] := Els.one (rdT_close (x := (.mk 2 ([] : List UInt8) ([] : List UInt8) ([]) (Lib.decDigits ((x.key).toNat)) ([]) : NT)) u8_2 ⟨(by first | exact Nat.zero_le _ | assumption | exact hlp.1 | exact hlp.2.1 | exact hlp.2.2 | (have h_ := dec_len x.key.toNat (by omega); show (Lib.decDigits x.key.toNat).length ≤ _; omega)), (by first | exact Nat.zero_le _ | assumption | exact hlp.1 | exact hlp.2.1 | exact hlp.2.2 | (have h_ := dec_len x.key.toNat (by omega); show (Lib.decDigits x.key.toNat).length ≤ _; omega)), (by first | exact Nat.zero_le _ | assumption | exact hlp.1 | exact hlp.2.1 | exact hlp.2.2 | (have h_ := dec_len x.key.toNat (by omega); show (Lib.decDigits x.key.toNat).length ≤ _; omega))⟩ RdSl.nil RdSl.nil) rfl
        obtain ⟨hnz17, Gz17, az17, cz17, hGz17, hez17, Sz17, M⟩ := M.freeze_row mono_rdN (k := 0) rfl E16 (by decide)
        clear hez17 az17 cz17
        exact ⟨Gz17, ((Gle.refl _).trans hGz17), M.weaken (.cons _ (.cons _ (List.Sublist.refl _))), _, _, by rw [made4 (by assumption)]; rfl, by rw [made4 (by assumption)]; exact Sz17⟩
      · intro hc
        have h18b := hc; clear hc
        have h18 : ¬ (p.kind = 4) := of_decide_eq_false h18b
        refine wp_seq <| w_reg <| rl_run F (run_eqi (F.ev rfl) (F.ev rfl)) rfl ?_; clear F a; intro a F
        refine rl_run F (run_assign (F.ev rfl)) rfl ?_; clear F a; intro a F
        refine rl_nil <| q_tn <| w_cond F rfl ?_ ?_
        · intro hc
          have h19b := hc; clear hc
          have h19 : p.kind = 5 := of_decide_eq_true h19b
          refine wp_seq <| w_reg <| rl_run F (run_assign (F.ev rfl)) rfl ?_; clear F a; intro a F
          refine rl_nil <| q_tn ?_
          iterate 2 (refine wp_seq ?_)
          refine w_reg <| rl_run F (run_assign (F.ev rfl)) rfl ?_; clear F a; intro a F
          refine rl_nil <| q_tn <| wp_block ?_
          have M := M.nilrow 30 6
          refine w_loopN (fun m a' w' => ∃ (j : Nat), ∃ (az : Option Addr), ∃ (nz : Nat), ∃ (cz : Nat), ∃ (csz : List Value), m = x.marks.length - j ∧ ∃ G20, Gle G G20 ∧ Fits 91 a' [(2, .pointer (some ⟨b1, 0, none⟩)), (3, .pointer (some ⟨b2, 0, none⟩)), (5, .slice (az) (nz) (cz)), (6, .int .i64 (((j : Nat) : Int)))] ∧ Mem w0 G20 (.row (.slice (az) (nz) (cz)) (nz) (csz) 30 6 :: .blk b2 [.int .u64 (x.key), .int .u8 (x.typ), .string (str (x.text)), .slice (ma) (x.marks.length) (mc)] 51 :: .blk b1 [.int .u8 (p.kind), .string (str (p.tag)), .string (str (p.key)), .slice (tap) (p.as.length) (tcp), .string (str (p.text)), .slice (kap) (p.kids.length) (kcp)] 46 :: L) w' ∧ (j ≤ x.marks.length) ∧ (nz = ((x.marks.take j).map (eachN x p.tag p.as)).length) ∧ (Els rdN 6 G20 csz ((x.marks.take j).map (eachN x p.tag p.as)))) _ ⟨0, (none), (0), (0), ([]), rfl, G, Gle.refl _, F.to ⟨rfl, rfl, rfl, rfl, trivial⟩, M, Nat.zero_le _, rfl, Els.nil⟩ ?_
          clear F M
          rintro m a w ⟨j, az, nz, cz, csz, rfl, G20, hG20, F, M, hj, hnz, Ez⟩
          replace SAp := SAp.mono mono_rdSlot hG20
          replace SKp := SKp.mono mono_rdP hG20
          replace SM := SM.mono mono_rdStr hG20
          iterate 2 (refine wp_seq ?_)
          refine w_reg <| rl_run F (run_move (F.ev rfl)) rfl ?_; clear F a; intro a F
          refine rl_run F (run_fieldAddr tok51.k rfl rfl (F.ev rfl)) rfl ?_; clear F a; intro a F
          refine rl_run F (run_load1 (agf tok49 rfl) (F.ev rfl) (M.cellL (k := 1) rfl rfl)) rfl ?_; clear F a; intro a F
          refine rl_run F (run_lenSl tok49.k (F.ev rfl)) rfl ?_; clear F a; intro a F
          refine rl_run F (run_lss (F.ev rfl) (F.ev rfl)) rfl ?_; clear F a; intro a F
          refine rl_nil <| q_tn <| w_cond F rfl ?_ ?_
          · intro hc
            have h21b := hc; clear hc
            have h21 : ((j : Nat) : Int) < ((x.marks.length : Nat) : Int) := of_decide_eq_true h21b
            refine wp_skip <| q_tn <| wp_seq <| wp_block ?_
            have hnz2 : nz ≤ 8 := by rw [hnz, List.length_map, List.length_take]; omega
            refine w_tree (.run 0 (.run 1 (.run 2 (.run 3 (.run 4 (.run 5 (.run 6 (.run 7 (.run 8 (.run 9 (.run 10 (.run 12 (.run 13 (.run 14 (.run 15 (.run 16 (.run 17 (.act 11 (.act 18 (.run 19 (.act 20 (.act 21 (.run 22 .fin) .no) .no)) .no) (.act 18 (.act 11 (.run 19 (.act 20 (.act 21 (.run 22 .fin) .no) .no)) .no) .no))))))))))))))))))) (Keep G20 [.blk b2 [.int .u64 (x.key), .int .u8 (x.typ), .string (str (x.text)), .slice (ma) (x.marks.length) (mc)] 51, .blk b1 [.int .u8 (p.kind), .string (str (p.tag)), .string (str (p.key)), .slice (tap) (p.as.length) (tcp), .string (str (p.text)), .slice (kap) (p.kids.length) (kcp)] 46]) rfl (by kernel_rfl) (fun c a d v w h => by cases d <;> exact h) ((M.drew _).keep (Gle.refl _) (by simp)) ?_
            replace M := M.drew (w.drawn + 1)
            refine pt_run F (fun w M => run_move (F.ev rfl)) rfl ?_; clear F a; intro a F
            refine pt_run F (fun w M => run_fieldAddr tok46.k rfl rfl (F.ev rfl)) rfl ?_; clear F a; intro a F
            refine pt_run F (fun w M => run_load1 (agf tok9 rfl) (F.ev rfl) (M.cellL (k := 1) rfl rfl)) rfl ?_; clear F a; intro a F
            refine pt_run F (fun w M => run_fieldAddr tok51.k rfl rfl (F.ev rfl)) rfl ?_; clear F a; intro a F
            refine pt_run F (fun w M => run_load1 (agf tok49 rfl) (F.ev rfl) (M.cellL (k := 0) rfl rfl)) rfl ?_; clear F a; intro a F
            refine pt_run F (fun w M => run_move (F.ev rfl)) rfl ?_; clear F a; intro a F
            obtain ⟨Xe22, hXe22⟩ := get_of_lt (xs := x.marks) (i := j) (by omega)
            obtain ⟨be22, oe22, _, Ie22, _, Ae22, ⟨rfl, hsle22⟩⟩ := SM.at hXe22
            refine pt_run F (fun w M => run_indexI tok49.k tok9 (F.ev rfl) (F.ev rfl) (by omega) Ie22) rfl ?_; clear F a; intro a F
            refine pt_run F (fun w M => run_load1 (agf tok9 rfl) (F.ev rfl) (M.cellA Ae22 0 (by omega) rfl)) rfl ?_; clear F a; intro a F
            refine pt_run F (fun w M => run_fieldAddr tok46.k rfl rfl (F.ev rfl)) rfl ?_; clear F a; intro a F
            refine pt_run F (fun w M => run_load1 (agf tok43 rfl) (F.ev rfl) (M.cellL (k := 1) rfl rfl)) rfl ?_; clear F a; intro a F
            refine pt_run F (fun w M => run_loadA tok51 rfl (F.ev rfl) (cs := [.int .u64 (x.key), .int .u8 (x.typ), .string (str (x.text)), .slice (ma) (x.marks.length) (mc)]) rfl (M.cellsL (k := 0) rfl rfl)) rfl ?_; clear F a; intro a F
            refine pt_run F (fun w M => run_fieldAddr tok51.k rfl rfl (F.ev rfl)) rfl ?_; clear F a; intro a F
            refine pt_run F (fun w M => run_load1 (agf tok49 rfl) (F.ev rfl) (M.cellL (k := 0) rfl rfl)) rfl ?_; clear F a; intro a F
            refine pt_run F (fun w M => run_move (F.ev rfl)) rfl ?_; clear F a; intro a F
            obtain ⟨be23, oe23, _, Ie23, _, Ae23, ⟨rfl, hsle23⟩⟩ := SM.at hXe22
            refine pt_run F (fun w M => run_indexI tok49.k tok9 (F.ev rfl) (F.ev rfl) (by omega) Ie23) rfl ?_; clear F a; intro a F
            refine pt_run F (fun w M => run_load1 (agf tok9 rfl) (F.ev rfl) (M.cellA Ae23 0 (by omega) rfl)) rfl ?_; clear F a; intro a F
            refine pt_run F (fun w M => run_buildS (cs := [.int .u8 (2), .string (str ([] : List UInt8)), .string (str ([] : List UInt8)), .slice none (0) (0), .string (str (Xe22)), .slice none (0) (0)]) (ps := [(0, .int .u8 (2)), (4, .string (str (Xe22)))]) tok30.k rfl tok30 (F.evp rfl) rfl) rfl ?_; clear F a; intro a F
            refine pt_act ?_ rfl ?_
            · skip
              refine rl_call F ent93 rfl rfl (rattrs_spec (x := x) (xs := p.as) M ht SM hik SAp (okP_slots hOk (by omega)).1) ?_; clear F M a; rintro _ Gt24 w a hGt24 M ⟨at24, ct24, rfl, St24⟩ F
              replace SAp := SAp.mono mono_rdSlot hGt24
              replace SKp := SKp.mono mono_rdP hGt24
              replace SM := SM.mono mono_rdStr hGt24
              replace Ez := Ez.mono mono_rdN hGt24
              replace Ae22 := Ae22.mono hGt24
              replace Ae23 := Ae23.mono hGt24
              refine rl_nil <| ⟨Keep Gt24 [.blk b2 [.int .u64 (x.key), .int .u8 (x.typ), .string (str (x.text)), .slice (ma) (x.marks.length) (mc)] 51, .blk b1 [.int .u8 (p.kind), .string (str (p.tag)), .string (str (p.key)), .slice (tap) (p.as.length) (tcp), .string (str (p.text)), .slice (kap) (p.kids.length) (kcp)] 46], M.keep (Gle.refl _) (by simp), fun w h => h.mono hGt24 (by simp), ?_⟩
              refine pt_act ?_ rfl pt_no
              refine rl_buildSlice1 F M tok28.k tok30 rfl rfl (cs := [.int .u8 (2), .string (str ([] : List UInt8)), .string (str ([] : List UInt8)), .slice none (0) (0), .string (str (Xe22)), .slice none (0) (0)]) rfl rfl (by simp [Value.oneCell']) (by decide) rfl ?_; clear F M a; intro v25 w a M F
              obtain ⟨av25, cv25, rfl, hlev25, hcmv25, hlv25⟩ := M.row_shape (k := 0) rfl
              refine rl_nil <| ⟨Keep Gt24 [.blk b2 [.int .u64 (x.key), .int .u8 (x.typ), .string (str (x.text)), .slice (ma) (x.marks.length) (mc)] 51, .blk b1 [.int .u8 (p.kind), .string (str (p.tag)), .string (str (p.key)), .slice (tap) (p.as.length) (tcp), .string (str (p.text)), .slice (kap) (p.kids.length) (kcp)] 46], M.keep (Gle.refl _) (by simp), fun w h => h.mono (Gle.refl _) (by simp), ?_⟩
              have E26 : Els rdN 6 Gt24 [.int .u8 (2), .string (str ([] : List UInt8)), .string (str ([] : List UInt8)), .slice none (0) (0), .string (str (Xe22)), .slice none (0) (0)] [(.mk 2 ([] : List UInt8) ([] : List UInt8) ([]) Xe22 ([]) : NT)] := Els.one (rdT_close (x := (.mk 2 ([] : List UInt8) ([] : List UInt8) ([]) Xe22 ([]) : NT)) u8_2 ⟨(by first | exact Nat.zero_le _ | assumption | exact hlp.1 | exact hlp.2.1 | exact hlp.2.2 | (have h_ := dec_len x.key.toNat (by omega); show (Lib.decDigits x.key.toNat).length ≤ _; omega)), (by first | exact Nat.zero_le _ | assumption | exact hlp.1 | exact hlp.2.1 | exact hlp.2.2 | (have h_ := dec_len x.key.toNat (by omega); show (Lib.decDigits x.key.toNat).length ≤ _; omega)), (by first | exact Nat.zero_le _ | assumption | exact hlp.1 | exact hlp.2.1 | exact hlp.2.2 | (have h_ := dec_len x.key.toNat (by omega); show (Lib.decDigits x.key.toNat).length ≤ _; omega))⟩ RdSl.nil RdSl.nil) rfl
              obtain ⟨hnz27, Gz27, az27, cz27, hGz27, hez27, Sz27, M⟩ := M.freeze_row mono_rdN (k := 0) rfl E26 (by decide)
              clear hez27 az27 cz27
              replace SAp := SAp.mono mono_rdSlot hGz27
              replace SKp := SKp.mono mono_rdP hGz27
              replace SM := SM.mono mono_rdStr hGz27
              replace Ez := Ez.mono mono_rdN hGz27
              replace Ae22 := Ae22.mono hGz27
              replace Ae23 := Ae23.mono hGz27
              replace St24 := St24.mono mono_rdAttr hGz27
              clear hnz27
              replace Sz27 : RdSl rdN 6 Gz27 (.slice (av25) ([(.mk 2 ([] : List UInt8) ([] : List UInt8) ([]) Xe22 ([]) : NT)]).length (cv25)) ([(.mk 2 ([] : List UInt8) ([] : List UInt8) ([]) Xe22 ([]) : NT)]) := Sz27
              refine pt_run F (fun w M => run_buildS (cs := [.int .u8 (1), .string (str (p.tag)), .string (str (Xe22)), .slice (at24) ((p.as.map (attrF x)).length) (ct24), .string (str ([] : List UInt8)), .slice (av25) (([(.mk 2 ([] : List UInt8) ([] : List UInt8) ([]) Xe22 ([]) : NT)]).length) (cv25)]) (ps := [(0, .int .u8 (1)), (1, .string (str (p.tag))), (2, .string (str (Xe22))), (3, .slice (at24) ((p.as.map (attrF x)).length) (ct24)), (5, .slice (av25) (([(.mk 2 ([] : List UInt8) ([] : List UInt8) ([]) Xe22 ([]) : NT)]).length) (cv25))]) tok30.k rfl tok30 (F.evp rfl) rfl) rfl ?_; clear F a; intro a F
              refine pt_act ?_ rfl pt_no
              refine rl_buildSlice1 F M tok28.k tok30 rfl rfl (cs := [.int .u8 (1), .string (str (p.tag)), .string (str (Xe22)), .slice (at24) ((p.as.map (attrF x)).length) (ct24), .string (str ([] : List UInt8)), .slice (av25) (([(.mk 2 ([] : List UInt8) ([] : List UInt8) ([]) Xe22 ([]) : NT)]).length) (cv25)]) rfl rfl (by simp [Value.oneCell']) (by decide) rfl ?_; clear F M a; intro v28 w a M F
              obtain ⟨av28, cv28, rfl, hlev28, hcmv28, hlv28⟩ := M.row_shape (k := 0) rfl
              refine rl_nil <| ⟨Keep Gz27 [.blk b2 [.int .u64 (x.key), .int .u8 (x.typ), .string (str (x.text)), .slice (ma) (x.marks.length) (mc)] 51, .blk b1 [.int .u8 (p.kind), .string (str (p.tag)), .string (str (p.key)), .slice (tap) (p.as.length) (tcp), .string (str (p.text)), .slice (kap) (p.kids.length) (kcp)] 46], M.keep (Gle.refl _) (by simp), fun w h => h.mono hGz27 (by simp), ?_⟩
              have E29 : Els rdN 6 Gz27 [.int .u8 (1), .string (str (p.tag)), .string (str (Xe22)), .slice (at24) ((p.as.map (attrF x)).length) (ct24), .string (str ([] : List UInt8)), .slice (av25) (([(.mk 2 ([] : List UInt8) ([] : List UInt8) ([]) Xe22 ([]) : NT)]).length) (cv25)] [(.mk 1 p.tag Xe22 (p.as.map (attrF x)) ([] : List UInt8) ([(.mk 2 ([] : List UInt8) ([] : List UInt8) ([]) Xe22 ([]) : NT)]) : NT)] := Els.one (rdT_close (x := (.mk 1 p.tag Xe22 (p.as.map (attrF x)) ([] : List UInt8) ([(.mk 2 ([] : List UInt8) ([] : List UInt8) ([]) Xe22 ([]) : NT)]) : NT)) u8_1 ⟨(by first | exact Nat.zero_le _ | assumption | exact hlp.1 | exact hlp.2.1 | exact hlp.2.2 | (have h_ := dec_len x.key.toNat (by omega); show (Lib.decDigits x.key.toNat).length ≤ _; omega)), (by first | exact Nat.zero_le _ | assumption | exact hlp.1 | exact hlp.2.1 | exact hlp.2.2 | (have h_ := dec_len x.key.toNat (by omega); show (Lib.decDigits x.key.toNat).length ≤ _; omega)), (by first | exact Nat.zero_le _ | assumption | exact hlp.1 | exact hlp.2.1 | exact hlp.2.2 | (have h_ := dec_len x.key.toNat (by omega); show (Lib.decDigits x.key.toNat).length ≤ _; omega))⟩ St24 Sz27) rfl
              refine pt_act ?_ rfl pt_no
              refine rl_append_row F M (k := 1) (k2 := 0) rfl rfl tok28.k tok30 rfl rfl (by decide) rfl rfl (by show _ * 104 ≤ _; (try simp only [List.length_drop, List.length_take, List.length_append, List.length_cons, List.length_nil]); omega) (by (try simp only [List.length_drop, List.length_take, List.length_append, List.length_cons, List.length_nil]); omega) rfl ?_; clear F M a; intro v30 w a M F
              have Ev30 := Els.append Ez E29
              obtain ⟨av30, cv30, rfl, hlev30, hcmv30, hlv30⟩ := M.row_shape (k := 1) rfl
              refine rl_nil <| ⟨Keep Gz27 [.blk b2 [.int .u64 (x.key), .int .u8 (x.typ), .string (str (x.text)), .slice (ma) (x.marks.length) (mc)] 51, .blk b1 [.int .u8 (p.kind), .string (str (p.tag)), .string (str (p.key)), .slice (tap) (p.as.length) (tcp), .string (str (p.text)), .slice (kap) (p.kids.length) (kcp)] 46], M.keep (Gle.refl _) (by simp), fun w h => h.mono (Gle.refl _) (by simp), ?_⟩
              refine pt_run F (fun w M => run_assign (F.ev rfl)) rfl ?_; clear F a; intro a F
              refine pt_fin <| q_bn <| q_tn <| w_reg <| rl_run F (run_move (F.ev rfl)) rfl ?_; clear F a; intro a F
              refine rl_run F (run_addi (F.ev rfl) (F.ev rfl) (in_i64 (by omega) (by omega))) rfl ?_; clear F a; intro a F
              refine rl_run F (run_assign (F.ev rfl)) rfl ?_; clear F a; intro a F
              refine rl_nil <| q_tn ?_
              exact ⟨_, by omega, j + 1, (av30), (nz + 1), (cv30), (csz ++ ([.int .u8 (1), .string (str (p.tag)), .string (str (Xe22)), .slice (at24) ((p.as.map (attrF x)).length) (ct24), .string (str ([] : List UInt8)), .slice (av25) (([(.mk 2 ([] : List UInt8) ([] : List UInt8) ([]) Xe22 ([]) : NT)]).length) (cv25)])), rfl, Gz27, ((hG20.trans hGt24).trans hGz27), F.to ⟨rfl, rfl, rfl, rfl, trivial⟩, (M.weaken (.cons _ (.cons_cons _ (.cons_cons _ (.cons_cons _ (List.Sublist.refl _)))))), by omega, by rw [each_snoc hXe22, List.length_append, ← hnz]; rfl, by rw [each_snoc hXe22]; exact Ev30⟩
            refine pt_act ?_ rfl ?_
            · skip
              refine rl_buildSlice1 F M tok28.k tok30 rfl rfl (cs := [.int .u8 (2), .string (str ([] : List UInt8)), .string (str ([] : List UInt8)), .slice none (0) (0), .string (str (Xe22)), .slice none (0) (0)]) rfl rfl (by simp [Value.oneCell']) (by decide) rfl ?_; clear F M a; intro v31 w a M F
              obtain ⟨av31, cv31, rfl, hlev31, hcmv31, hlv31⟩ := M.row_shape (k := 0) rfl
              refine rl_nil <| ⟨Keep G20 [.blk b2 [.int .u64 (x.key), .int .u8 (x.typ), .string (str (x.text)), .slice (ma) (x.marks.length) (mc)] 51, .blk b1 [.int .u8 (p.kind), .string (str (p.tag)), .string (str (p.key)), .slice (tap) (p.as.length) (tcp), .string (str (p.text)), .slice (kap) (p.kids.length) (kcp)] 46], M.keep (Gle.refl _) (by simp), fun w h => h.mono (Gle.refl _) (by simp), ?_⟩
              refine pt_act ?_ rfl pt_no
              refine rl_call F ent93 rfl rfl (rattrs_spec (x := x) (xs := p.as) M ht SM hik SAp (okP_slots hOk (by omega)).1) ?_; clear F M a; rintro _ Gt32 w a hGt32 M ⟨at32, ct32, rfl, St32⟩ F
              replace SAp := SAp.mono mono_rdSlot hGt32
              replace SKp := SKp.mono mono_rdP hGt32
              replace SM := SM.mono mono_rdStr hGt32
              replace Ez := Ez.mono mono_rdN hGt32
              replace Ae22 := Ae22.mono hGt32
              replace Ae23 := Ae23.mono hGt32
              refine rl_nil <| ⟨Keep Gt32 [.blk b2 [.int .u64 (x.key), .int .u8 (x.typ), .string (str (x.text)), .slice (ma) (x.marks.length) (mc)] 51, .blk b1 [.int .u8 (p.kind), .string (str (p.tag)), .string (str (p.key)), .slice (tap) (p.as.length) (tcp), .string (str (p.text)), .slice (kap) (p.kids.length) (kcp)] 46], M.keep (Gle.refl _) (by simp), fun w h => h.mono hGt32 (by simp), ?_⟩
              have E33 : Els rdN 6 Gt32 [.int .u8 (2), .string (str ([] : List UInt8)), .string (str ([] : List UInt8)), .slice none (0) (0), .string (str (Xe22)), .slice none (0) (0)] [(.mk 2 ([] : List UInt8) ([] : List UInt8) ([]) Xe22 ([]) : NT)] := Els.one (rdT_close (x := (.mk 2 ([] : List UInt8) ([] : List UInt8) ([]) Xe22 ([]) : NT)) u8_2 ⟨(by first | exact Nat.zero_le _ | assumption | exact hlp.1 | exact hlp.2.1 | exact hlp.2.2 | (have h_ := dec_len x.key.toNat (by omega); show (Lib.decDigits x.key.toNat).length ≤ _; omega)), (by first | exact Nat.zero_le _ | assumption | exact hlp.1 | exact hlp.2.1 | exact hlp.2.2 | (have h_ := dec_len x.key.toNat (by omega); show (Lib.decDigits x.key.toNat).length ≤ _; omega)), (by first | exact Nat.zero_le _ | assumption | exact hlp.1 | exact hlp.2.1 | exact hlp.2.2 | (have h_ := dec_len x.key.toNat (by omega); show (Lib.decDigits x.key.toNat).length ≤ _; omega))⟩ RdSl.nil RdSl.nil) rfl
              obtain ⟨hnz34, Gz34, az34, cz34, hGz34, hez34, Sz34, M⟩ := M.freeze_row mono_rdN (k := 0) rfl E33 (by decide)
              clear hez34 az34 cz34
              replace SAp := SAp.mono mono_rdSlot hGz34
              replace SKp := SKp.mono mono_rdP hGz34
              replace SM := SM.mono mono_rdStr hGz34
              replace Ez := Ez.mono mono_rdN hGz34
              replace Ae22 := Ae22.mono hGz34
              replace Ae23 := Ae23.mono hGz34
              replace St32 := St32.mono mono_rdAttr hGz34
              clear hnz34
              replace Sz34 : RdSl rdN 6 Gz34 (.slice (av31) ([(.mk 2 ([] : List UInt8) ([] : List UInt8) ([]) Xe22 ([]) : NT)]).length (cv31)) ([(.mk 2 ([] : List UInt8) ([] : List UInt8) ([]) Xe22 ([]) : NT)]) := Sz34
              refine pt_run F (fun w M => run_buildS (cs := [.int .u8 (1), .string (str (p.tag)), .string (str (Xe22)), .slice (at32) ((p.as.map (attrF x)).length) (ct32), .string (str ([] : List UInt8)), .slice (av31) (([(.mk 2 ([] : List UInt8) ([] : List UInt8) ([]) Xe22 ([]) : NT)]).length) (cv31)]) (ps := [(0, .int .u8 (1)), (1, .string (str (p.tag))), (2, .string (str (Xe22))), (3, .slice (at32) ((p.as.map (attrF x)).length) (ct32)), (5, .slice (av31) (([(.mk 2 ([] : List UInt8) ([] : List UInt8) ([]) Xe22 ([]) : NT)]).length) (cv31))]) tok30.k rfl tok30 (F.evp rfl) rfl) rfl ?_; clear F a; intro a F
              refine pt_act ?_ rfl pt_no
              refine rl_buildSlice1 F M tok28.k tok30 rfl rfl (cs := [.int .u8 (1), .string (str (p.tag)), .string (str (Xe22)), .slice (at32) ((p.as.map (attrF x)).length) (ct32), .string (str ([] : List UInt8)), .slice (av31) (([(.mk 2 ([] : List UInt8) ([] : List UInt8) ([]) Xe22 ([]) : NT)]).length) (cv31)]) rfl rfl (by simp [Value.oneCell']) (by decide) rfl ?_; clear F M a; intro v35 w a M F
              obtain ⟨av35, cv35, rfl, hlev35, hcmv35, hlv35⟩ := M.row_shape (k := 0) rfl
              refine rl_nil <| ⟨Keep Gz34 [.blk b2 [.int .u64 (x.key), .int .u8 (x.typ), .string (str (x.text)), .slice (ma) (x.marks.length) (mc)] 51, .blk b1 [.int .u8 (p.kind), .string (str (p.tag)), .string (str (p.key)), .slice (tap) (p.as.length) (tcp), .string (str (p.text)), .slice (kap) (p.kids.length) (kcp)] 46], M.keep (Gle.refl _) (by simp), fun w h => h.mono hGz34 (by simp), ?_⟩
              have E36 : Els rdN 6 Gz34 [.int .u8 (1), .string (str (p.tag)), .string (str (Xe22)), .slice (at32) ((p.as.map (attrF x)).length) (ct32), .string (str ([] : List UInt8)), .slice (av31) (([(.mk 2 ([] : List UInt8) ([] : List UInt8) ([]) Xe22 ([]) : NT)]).length) (cv31)] [(.mk 1 p.tag Xe22 (p.as.map (attrF x)) ([] : List UInt8) ([(.mk 2 ([] : List UInt8) ([] : List UInt8) ([]) Xe22 ([]) : NT)]) : NT)] := Els.one (rdT_close (x := (.mk 1 p.tag Xe22 (p.as.map (attrF x)) ([] : List UInt8) ([(.mk 2 ([] : List UInt8) ([] : List UInt8) ([]) Xe22 ([]) : NT)]) : NT)) u8_1 ⟨(by first | exact Nat.zero_le _ | assumption | exact hlp.1 | exact hlp.2.1 | exact hlp.2.2 | (have h_ := dec_len x.key.toNat (by omega); show (Lib.decDigits x.key.toNat).length ≤ _; omega)), (by first | exact Nat.zero_le _ | assumption | exact hlp.1 | exact hlp.2.1 | exact hlp.2.2 | (have h_ := dec_len x.key.toNat (by omega); show (Lib.decDigits x.key.toNat).length ≤ _; omega)), (by first | exact Nat.zero_le _ | assumption | exact hlp.1 | exact hlp.2.1 | exact hlp.2.2 | (have h_ := dec_len x.key.toNat (by omega); show (Lib.decDigits x.key.toNat).length ≤ _; omega))⟩ St32 Sz34) rfl
              refine pt_act ?_ rfl pt_no
              refine rl_append_row F M (k := 1) (k2 := 0) rfl rfl tok28.k tok30 rfl rfl (by decide) rfl rfl (by show _ * 104 ≤ _; (try simp only [List.length_drop, List.length_take, List.length_append, List.length_cons, List.length_nil]); omega) (by (try simp only [List.length_drop, List.length_take, List.length_append, List.length_cons, List.length_nil]); omega) rfl ?_; clear F M a; intro v37 w a M F
              have Ev37 := Els.append Ez E36
              obtain ⟨av37, cv37, rfl, hlev37, hcmv37, hlv37⟩ := M.row_shape (k := 1) rfl
              refine rl_nil <| ⟨Keep Gz34 [.blk b2 [.int .u64 (x.key), .int .u8 (x.typ), .string (str (x.text)), .slice (ma) (x.marks.length) (mc)] 51, .blk b1 [.int .u8 (p.kind), .string (str (p.tag)), .string (str (p.key)), .slice (tap) (p.as.length) (tcp), .string (str (p.text)), .slice (kap) (p.kids.length) (kcp)] 46], M.keep (Gle.refl _) (by simp), fun w h => h.mono (Gle.refl _) (by simp), ?_⟩
              refine pt_run F (fun w M => run_assign (F.ev rfl)) rfl ?_; clear F a; intro a F
              refine pt_fin <| q_bn <| q_tn <| w_reg <| rl_run F (run_move (F.ev rfl)) rfl ?_; clear F a; intro a F
              refine rl_run F (run_addi (F.ev rfl) (F.ev rfl) (in_i64 (by omega) (by omega))) rfl ?_; clear F a; intro a F
              refine rl_run F (run_assign (F.ev rfl)) rfl ?_; clear F a; intro a F
              refine rl_nil <| q_tn ?_
              exact ⟨_, by omega, j + 1, (av37), (nz + 1), (cv37), (csz ++ ([.int .u8 (1), .string (str (p.tag)), .string (str (Xe22)), .slice (at32) ((p.as.map (attrF x)).length) (ct32), .string (str ([] : List UInt8)), .slice (av31) (([(.mk 2 ([] : List UInt8) ([] : List UInt8) ([]) Xe22 ([]) : NT)]).length) (cv31)])), rfl, Gz34, ((hG20.trans hGt32).trans hGz34), F.to ⟨rfl, rfl, rfl, rfl, trivial⟩, (M.weaken (.cons _ (.cons_cons _ (.cons_cons _ (.cons_cons _ (List.Sublist.refl _)))))), by omega, by rw [each_snoc hXe22, List.length_append, ← hnz]; rfl, by rw [each_snoc hXe22]; exact Ev37⟩
            exact pt_no
          · intro hc
            have h38b := hc; clear hc
            have h38 : ¬ (((j : Nat) : Int) < ((x.marks.length : Nat) : Int)) := of_decide_eq_false h38b
            refine wp_exit ?_
            iterate 2 (refine q_te ?_)
            refine q_bh <| q_tn <| wp_seq <| w_reg <| rl_run F (run_move (F.ev rfl)) rfl ?_; clear F a; intro a F
            refine rl_run F (run_assign (F.ev rfl)) rfl ?_; clear F a; intro a F
            refine rl_nil <| q_tn <| wp_ret <| q_br <| q_tr <| fin1 F rfl rfl ?_
            rw [List.take_of_length_le (by omega)] at hnz Ez
            obtain ⟨hnz39, Gz39, az39, cz39, hGz39, hez39, Sz39, M⟩ := M.freeze_row mono_rdN (k := 0) rfl Ez (by decide)
            clear hez39 az39 cz39
            exact ⟨Gz39, (hG20.trans hGz39), M.weaken (.cons _ (.cons _ (List.Sublist.refl _))), _, _, by rw [made5 (by assumption), hnz], by rw [made5 (by assumption)]; have h_ := Sz39; rw [hnz] at h_; exact h_⟩
        · intro hc
          have h40b := hc; clear hc
          have h40 : ¬ (p.kind = 5) := of_decide_eq_false h40b
          refine wp_skip <| q_bn <| q_tn <| wp_seq ?_
          have hk1p := okP_kind hOk (by assumption) (by assumption) (by assumption) (by assumption)
          refine w_tree (.run 0 (.run 1 (.run 2 (.run 3 (.run 4 (.run 5 (.run 6 (.act 7 (.run 8 (.act 9 (.act 10 .fin .no) .no)) (.act 9 (.act 7 (.run 8 (.act 10 .fin .no)) .no) .no))))))))) (Keep G [.blk b2 [.int .u64 (x.key), .int .u8 (x.typ), .string (str (x.text)), .slice (ma) (x.marks.length) (mc)] 51, .blk b1 [.int .u8 (p.kind), .string (str (p.tag)), .string (str (p.key)), .slice (tap) (p.as.length) (tcp), .string (str (p.text)), .slice (kap) (p.kids.length) (kcp)] 46]) rfl (by kernel_rfl) (fun c a d v w h => by cases d <;> exact h) ((M.drew _).keep (Gle.refl _) (by simp)) ?_
          replace M := M.drew (w.drawn + 1)
          refine pt_run F (fun w M => run_fieldAddr tok46.k rfl rfl (F.ev rfl)) rfl ?_; clear F a; intro a F
          refine pt_run F (fun w M => run_load1 (agf tok9 rfl) (F.ev rfl) (M.cellL (k := 1) rfl rfl)) rfl ?_; clear F a; intro a F
          refine pt_run F (fun w M => run_fieldAddr tok46.k rfl rfl (F.ev rfl)) rfl ?_; clear F a; intro a F
          refine pt_run F (fun w M => run_load1 (agf tok9 rfl) (F.ev rfl) (M.cellL (k := 1) rfl rfl)) rfl ?_; clear F a; intro a F
          refine pt_run F (fun w M => run_fieldAddr tok46.k rfl rfl (F.ev rfl)) rfl ?_; clear F a; intro a F
          refine pt_run F (fun w M => run_load1 (agf tok43 rfl) (F.ev rfl) (M.cellL (k := 1) rfl rfl)) rfl ?_; clear F a; intro a F
          refine pt_run F (fun w M => run_loadA tok51 rfl (F.ev rfl) (cs := [.int .u64 (x.key), .int .u8 (x.typ), .string (str (x.text)), .slice (ma) (x.marks.length) (mc)]) rfl (M.cellsL (k := 0) rfl rfl)) rfl ?_; clear F a; intro a F
          refine pt_act ?_ rfl ?_
          · skip
            refine rl_call F ent93 rfl rfl (rattrs_spec (x := x) (xs := p.as) M ht SM hik SAp (okP_slots hOk (by omega)).1) ?_; clear F M a; rintro _ Gt41 w a hGt41 M ⟨at41, ct41, rfl, St41⟩ F
            replace SAp := SAp.mono mono_rdSlot hGt41
            replace SKp := SKp.mono mono_rdP hGt41
            replace SM := SM.mono mono_rdStr hGt41
            refine rl_nil <| ⟨Keep Gt41 [.blk b2 [.int .u64 (x.key), .int .u8 (x.typ), .string (str (x.text)), .slice (ma) (x.marks.length) (mc)] 51, .blk b1 [.int .u8 (p.kind), .string (str (p.tag)), .string (str (p.key)), .slice (tap) (p.as.length) (tcp), .string (str (p.text)), .slice (kap) (p.kids.length) (kcp)] 46], M.keep (Gle.refl _) (by simp), fun w h => h.mono hGt41 (by simp), ?_⟩
            refine pt_run F (fun w M => run_buildS (cs := [.int .u8 (1), .string (str (p.tag)), .string (str (p.key)), .slice (at41) ((p.as.map (attrF x)).length) (ct41), .string (str ([] : List UInt8)), .slice none (0) (0)]) (ps := [(0, .int .u8 (1)), (1, .string (str (p.tag))), (2, .string (str (p.key))), (3, .slice (at41) ((p.as.map (attrF x)).length) (ct41))]) tok30.k rfl tok30 (F.evp rfl) rfl) rfl ?_; clear F a; intro a F
            refine pt_act ?_ rfl pt_no
            refine rl_alloc F M tok30 rfl rfl ?_; clear F M a; intro b42 w a M F
            refine rl_nil <| ⟨Keep Gt41 [.blk b2 [.int .u64 (x.key), .int .u8 (x.typ), .string (str (x.text)), .slice (ma) (x.marks.length) (mc)] 51, .blk b1 [.int .u8 (p.kind), .string (str (p.tag)), .string (str (p.key)), .slice (tap) (p.as.length) (tcp), .string (str (p.text)), .slice (kap) (p.kids.length) (kcp)] 46], M.keep (Gle.refl _) (by simp), fun w h => h.mono (Gle.refl _) (by simp), ?_⟩
            refine pt_act ?_ rfl pt_no
            refine rl_storeA F M tok30 (k := 0) rfl rfl rfl (us := [.int .u8 (1), .string (str (p.tag)), .string (str (p.key)), .slice (at41) ((p.as.map (attrF x)).length) (ct41), .string (str ([] : List UInt8)), .slice none (0) (0)]) rfl rfl (by simp [Value.oneCell']) (by simp) ?_; clear F M a; intro w a M F
            change Mem w0 Gt41 (.blk b42 [.int .u8 (1), .string (str (p.tag)), .string (str (p.key)), .slice (at41) ((p.as.map (attrF x)).length) (ct41), .string (str ([] : List UInt8)), .slice none (0) (0)] 30 :: .blk b2 [.int .u64 (x.key), .int .u8 (x.typ), .string (str (x.text)), .slice (ma) (x.marks.length) (mc)] 51 :: .blk b1 [.int .u8 (p.kind), .string (str (p.tag)), .string (str (p.key)), .slice (tap) (p.as.length) (tcp), .string (str (p.text)), .slice (kap) (p.kids.length) (kcp)] 46 :: L) _ at M
            refine rl_nil <| ⟨Keep Gt41 [.blk b2 [.int .u64 (x.key), .int .u8 (x.typ), .string (str (x.text)), .slice (ma) (x.marks.length) (mc)] 51, .blk b1 [.int .u8 (p.kind), .string (str (p.tag)), .string (str (p.key)), .slice (tap) (p.as.length) (tcp), .string (str (p.text)), .slice (kap) (p.kids.length) (kcp)] 46], M.keep (Gle.refl _) (by simp), fun w h => h.mono (Gle.refl _) (by simp), ?_⟩
            refine pt_fin <| q_tn ?_
            iterate 2 (refine wp_seq ?_)
            refine w_reg <| rl_run F (run_assign (F.ev rfl)) rfl ?_; clear F a; intro a F
            refine rl_nil <| q_tn <| wp_block ?_
            have M := M.nilrow 30 6
            refine w_loopN (fun m a' w' => ∃ (i : Nat), ∃ (ay : Option Addr), ∃ (ny : Nat), ∃ (cy : Nat), ∃ (csy : List Value), m = p.kids.length - i ∧ ∃ G44, Gle Gt41 G44 ∧ Fits 91 a' [(2, .pointer (some ⟨b1, 0, none⟩)), (3, .pointer (some ⟨b2, 0, none⟩)), (7, .pointer (some ⟨b42, 0, none⟩)), (8, .int .i64 (((i : Nat) : Int)))] ∧ Mem w0 G44 (.row (.slice (ay) (ny) (cy)) (ny) (csy) 30 6 :: .blk b42 [.int .u8 (1), .string (str (p.tag)), .string (str (p.key)), .slice (at41) ((p.as.map (attrF x)).length) (ct41), .string (str ([] : List UInt8)), .slice (ay) (ny) (cy)] 30 :: .blk b2 [.int .u64 (x.key), .int .u8 (x.typ), .string (str (x.text)), .slice (ma) (x.marks.length) (mc)] 51 :: .blk b1 [.int .u8 (p.kind), .string (str (p.tag)), .string (str (p.key)), .slice (tap) (p.as.length) (tcp), .string (str (p.text)), .slice (kap) (p.kids.length) (kcp)] 46 :: L) w' ∧ (i ≤ p.kids.length) ∧ (ny = (madesF x (p.kids.take i)).length) ∧ (Els rdN 6 G44 csy (madesF x (p.kids.take i)))) _ ⟨0, (none), (0), (0), ([]), rfl, Gt41, Gle.refl _, F.to ⟨rfl, rfl, rfl, rfl, trivial⟩, M, Nat.zero_le _, rfl, Els.nil⟩ ?_
            clear F M
            rintro m a w ⟨i, ay, ny, cy, csy, rfl, G44, hG44, F, M, hi, hny, Ey⟩
            replace SAp := SAp.mono mono_rdSlot hG44
            replace SKp := SKp.mono mono_rdP hG44
            replace SM := SM.mono mono_rdStr hG44
            replace St41 := St41.mono mono_rdAttr hG44
            iterate 2 (refine wp_seq ?_)
            refine w_reg <| rl_run F (run_move (F.ev rfl)) rfl ?_; clear F a; intro a F
            refine rl_run F (run_fieldAddr tok46.k rfl rfl (F.ev rfl)) rfl ?_; clear F a; intro a F
            refine rl_run F (run_load1 (agf tok44 rfl) (F.ev rfl) (M.cellL (k := 3) rfl rfl)) rfl ?_; clear F a; intro a F
            refine rl_run F (run_lenSl tok44.k (F.ev rfl)) rfl ?_; clear F a; intro a F
            refine rl_run F (run_lss (F.ev rfl) (F.ev rfl)) rfl ?_; clear F a; intro a F
            refine rl_nil <| q_tn <| w_cond F rfl ?_ ?_
            · intro hc
              have h45b := hc; clear hc
              have h45 : ((i : Nat) : Int) < ((p.kids.length : Nat) : Int) := of_decide_eq_true h45b
              refine wp_skip <| q_tn <| wp_seq <| wp_block ?_
              have hml := mades_len hio3 (p.kids.take i)
              rw [List.length_take] at hml
              refine w_plan3 [(.free, 0), (.pure, 1), (.free, 2), (.pure, 3), (.free, 4), (.free, 5), (.pure, 6), (.pure, 7), (.keep, 8), (.keep, 9), (.free, 10), (.chg, 11)] [11] (Keep G44 [.blk b42 [.int .u8 (1), .string (str (p.tag)), .string (str (p.key)), .slice (at41) ((p.as.map (attrF x)).length) (ct41), .string (str ([] : List UInt8)), .slice (ay) (ny) (cy)] 30, .blk b2 [.int .u64 (x.key), .int .u8 (x.typ), .string (str (x.text)), .slice (ma) (x.marks.length) (mc)] 51, .blk b1 [.int .u8 (p.kind), .string (str (p.tag)), .string (str (p.key)), .slice (tap) (p.as.length) (tcp), .string (str (p.text)), .slice (kap) (p.kids.length) (kcp)] 46]) rfl (by kernel_rfl) (fun c a d v w h => by cases d <;> exact h) ((M.drew _).keep (Gle.refl _) (by simp)) ?_
              replace M := M.drew (w.drawn + 1)
              refine pk_free F (fun w _ => run_fieldAddr tok30.k rfl rfl (F.ev rfl)) rfl ?_; clear F a; intro a F
              refine pk_pure F (fun w M => run_load1 (agf tok28 rfl) (F.ev rfl) (M.cellL (k := 0) rfl rfl)) rfl ?_; clear F a; intro a F
              refine pk_free F (fun w _ => run_fieldAddr tok46.k rfl rfl (F.ev rfl)) rfl ?_; clear F a; intro a F
              refine pk_pure F (fun w M => run_load1 (agf tok44 rfl) (F.ev rfl) (M.cellL (k := 2) rfl rfl)) rfl ?_; clear F a; intro a F
              refine pk_free F (fun w _ => run_move (F.ev rfl)) rfl ?_; clear F a; intro a F
              obtain ⟨Xe46, hXe46⟩ := get_of_lt (xs := p.kids) (i := i) (by omega)
              obtain ⟨be46, oe46, _, Ie46, _, Ae46, hTe46⟩ := SKp.at hXe46
              obtain ⟨tae46, tce46, kae46, kce46, rfl, hke46, hle46, SAe46, SKe46⟩ := rdT_open hTe46
              refine pk_free F (fun w _ => run_indexI tok44.k tok46 (F.ev rfl) (F.ev rfl) (by omega) Ie46) rfl ?_; clear F a; intro a F
              refine pk_pure F (fun w M => run_loadA tok46 rfl (F.ev rfl) (cs := [.int .u8 (Xe46.kind), .string (str (Xe46.tag)), .string (str (Xe46.key)), .slice (tae46) (Xe46.as.length) (tce46), .string (str (Xe46.text)), .slice (kae46) (Xe46.kids.length) (kce46)]) rfl (M.cellsA Ae46 0 (by omega) rfl)) rfl ?_; clear F a; intro a F
              refine pk_pure F (fun w M => run_loadA tok51 rfl (F.ev rfl) (cs := [.int .u64 (x.key), .int .u8 (x.typ), .string (str (x.text)), .slice (ma) (x.marks.length) (mc)]) rfl (M.cellsL (k := 1) rfl rfl)) rfl ?_; clear F a; intro a F
              have hm8 := made_len hio3 Xe46
              refine pk_keep ?_ rfl
              refine rl_call F ent63 rfl rfl (ih Xe46 (List.mem_of_getElem? hXe46) _ _ _ _ _ _ _ _ _ _ M hke46 hle46 SAe46 SKe46 SM (okP_kids hOk _ (List.mem_of_getElem? hXe46))) ?_; clear F M a; rintro _ Gk47 w a hGk47 M ⟨ak47, ck47, rfl, Sk47⟩ F
              replace SAp := SAp.mono mono_rdSlot hGk47
              replace SKp := SKp.mono mono_rdP hGk47
              replace SM := SM.mono mono_rdStr hGk47
              replace St41 := St41.mono mono_rdAttr hGk47
              replace Ey := Ey.mono mono_rdN hGk47
              replace Ae46 := Ae46.mono hGk47
              replace SAe46 := SAe46.mono mono_rdSlot hGk47
              replace SKe46 := SKe46.mono mono_rdP hGk47
              refine rl_nil <| ⟨Keep Gk47 [.blk b42 [.int .u8 (1), .string (str (p.tag)), .string (str (p.key)), .slice (at41) ((p.as.map (attrF x)).length) (ct41), .string (str ([] : List UInt8)), .slice (ay) (ny) (cy)] 30, .blk b2 [.int .u64 (x.key), .int .u8 (x.typ), .string (str (x.text)), .slice (ma) (x.marks.length) (mc)] 51, .blk b1 [.int .u8 (p.kind), .string (str (p.tag)), .string (str (p.key)), .slice (tap) (p.as.length) (tcp), .string (str (p.text)), .slice (kap) (p.kids.length) (kcp)] 46], M.keep (Gle.refl _) (by simp), fun w h => h.mono hGk47 (by simp), ?_⟩
              refine pk_keep ?_ rfl
              refine rl_append F M (k := 0) rfl tok28.k tok30 rfl rfl (by decide) rfl Sk47 rfl (by show _ * 104 ≤ _; (try simp only [List.length_drop, List.length_take, List.length_append, List.length_cons, List.length_nil]); omega) (by (try simp only [List.length_drop, List.length_take, List.length_append, List.length_cons, List.length_nil]); omega) rfl ?_; clear F M a; intro v48 csv48 w a M Ev48 F
              have Ev48 := Els.append Ey Ev48
              obtain ⟨av48, cv48, rfl, hlev48, hcmv48, hlv48⟩ := M.row_shape (k := 0) rfl
              refine rl_nil <| ⟨Keep Gk47 [.blk b42 [.int .u8 (1), .string (str (p.tag)), .string (str (p.key)), .slice (at41) ((p.as.map (attrF x)).length) (ct41), .string (str ([] : List UInt8)), .slice (ay) (ny) (cy)] 30, .blk b2 [.int .u64 (x.key), .int .u8 (x.typ), .string (str (x.text)), .slice (ma) (x.marks.length) (mc)] 51, .blk b1 [.int .u8 (p.kind), .string (str (p.tag)), .string (str (p.key)), .slice (tap) (p.as.length) (tcp), .string (str (p.text)), .slice (kap) (p.kids.length) (kcp)] 46], M.keep (Gle.refl _) (by simp), fun w h => h.mono (Gle.refl _) (by simp), ?_⟩
              refine pk_free F (fun w _ => run_fieldAddr tok30.k rfl rfl (F.ev rfl)) rfl ?_; clear F a; intro a F
              refine pk_chg ?_ rfl
              refine rl_store1 F M tok28 rfl (k := 1) rfl rfl rfl rfl rfl ?_; clear F M a; intro w a M F
              refine rl_nil <| ⟨Keep Gk47 [.row (.slice (av48) (ny + (madeF x Xe46).length) (cv48)) (ny + (madeF x Xe46).length) (csy ++ csv48) 30 6, .blk b42 [.int .u8 (1), .string (str (p.tag)), .string (str (p.key)), .slice (at41) ((p.as.map (attrF x)).length) (ct41), .string (str ([] : List UInt8)), .slice (av48) (ny + (madeF x Xe46).length) (cv48)] 30, .blk b2 [.int .u64 (x.key), .int .u8 (x.typ), .string (str (x.text)), .slice (ma) (x.marks.length) (mc)] 51, .blk b1 [.int .u8 (p.kind), .string (str (p.tag)), .string (str (p.key)), .slice (tap) (p.as.length) (tcp), .string (str (p.text)), .slice (kap) (p.kids.length) (kcp)] 46], M.keep (Gle.refl _) (by simp), ?_⟩
              refine pk_nil <| q_bn <| q_tn <| w_reg <| rl_run F (run_move (F.ev rfl)) rfl ?_; clear F a; intro a F
              refine rl_run F (run_addi (F.ev rfl) (F.ev rfl) (in_i64 (by omega) (by omega))) rfl ?_; clear F a; intro a F
              refine rl_run F (run_assign (F.ev rfl)) rfl ?_; clear F a; intro a F
              refine rl_nil <| q_tn ?_
              exact ⟨_, by omega, i + 1, (av48), (ny + (madeF x Xe46).length), (cv48), (csy ++ csv48), rfl, Gk47, (hG44.trans hGk47), F.to ⟨rfl, rfl, rfl, rfl, trivial⟩, M, by omega, by rw [mades_snoc hXe46, List.length_append, ← hny], by rw [mades_snoc hXe46]; exact Ev48⟩
            · intro hc
              have h49b := hc; clear hc
              have h49 : ¬ (((i : Nat) : Int) < ((p.kids.length : Nat) : Int)) := of_decide_eq_false h49b
              refine wp_exit ?_
              iterate 2 (refine q_te ?_)
              refine q_bh <| q_tn <| wp_seq ?_
              rw [List.take_of_length_le (by omega)] at hny Ey
              subst hny
              obtain ⟨hnz50, Gz50, az50, cz50, hGz50, hez50, Sz50, M⟩ := M.freeze_row mono_rdN (k := 0) rfl Ey (by decide)
              clear hez50 az50 cz50
              replace SAp := SAp.mono mono_rdSlot hGz50
              replace SKp := SKp.mono mono_rdP hGz50
              replace SM := SM.mono mono_rdStr hGz50
              replace St41 := St41.mono mono_rdAttr hGz50
              clear hnz50
              refine w_reg <| rl_run F (run_loadA tok30 rfl (F.ev rfl) (cs := [.int .u8 (1), .string (str (p.tag)), .string (str (p.key)), .slice (at41) ((p.as.map (attrF x)).length) (ct41), .string (str ([] : List UInt8)), .slice (ay) ((madesF x p.kids).length) (cy)]) rfl (M.cellsL (k := 0) rfl rfl)) rfl ?_; clear F a; intro a F
              refine rl_buildSlice1 F M tok28.k tok30 rfl rfl (cs := [.int .u8 (1), .string (str (p.tag)), .string (str (p.key)), .slice (at41) ((p.as.map (attrF x)).length) (ct41), .string (str ([] : List UInt8)), .slice (ay) ((madesF x p.kids).length) (cy)]) rfl rfl (by simp [Value.oneCell']) (by decide) rfl ?_; clear F M a; intro v51 w a M F
              obtain ⟨av51, cv51, rfl, hlev51, hcmv51, hlv51⟩ := M.row_shape (k := 0) rfl
              refine rl_run F (run_assign (F.ev rfl)) rfl ?_; clear F a; intro a F
              refine rl_nil <| q_tn <| wp_ret <| fin1 F rfl rfl ?_
              have E52 : Els rdN 6 Gz50 [.int .u8 (1), .string (str (p.tag)), .string (str (p.key)), .slice (at41) ((p.as.map (attrF x)).length) (ct41), .string (str ([] : List UInt8)), .slice (ay) ((madesF x p.kids).length) (cy)] [(.mk 1 p.tag p.key (p.as.map (attrF x)) ([] : List UInt8) (madesF x p.kids) : NT)] := Els.one (rdT_close (x := (.mk 1 p.tag p.key (p.as.map (attrF x)) ([] : List UInt8) (madesF x p.kids) : NT)) u8_1 ⟨(by first | exact Nat.zero_le _ | assumption | exact hlp.1 | exact hlp.2.1 | exact hlp.2.2 | (have h_ := dec_len x.key.toNat (by omega); show (Lib.decDigits x.key.toNat).length ≤ _; omega)), (by first | exact Nat.zero_le _ | assumption | exact hlp.1 | exact hlp.2.1 | exact hlp.2.2 | (have h_ := dec_len x.key.toNat (by omega); show (Lib.decDigits x.key.toNat).length ≤ _; omega)), (by first | exact Nat.zero_le _ | assumption | exact hlp.1 | exact hlp.2.1 | exact hlp.2.2 | (have h_ := dec_len x.key.toNat (by omega); show (Lib.decDigits x.key.toNat).length ≤ _; omega))⟩ St41 Sz50) rfl
              obtain ⟨hnz53, Gz53, az53, cz53, hGz53, hez53, Sz53, M⟩ := M.freeze_row mono_rdN (k := 0) rfl E52 (by decide)
              clear hez53 az53 cz53
              exact ⟨Gz53, (((hGt41.trans hG44).trans hGz50).trans hGz53), M.weaken (.cons _ (.cons _ (.cons _ (List.Sublist.refl _)))), _, _, by rw [made1 hk1p]; rfl, by rw [made1 hk1p]; exact Sz53⟩
          refine pt_act ?_ rfl ?_
          · skip
            refine rl_alloc F M tok30 rfl rfl ?_; clear F M a; intro b54 w a M F
            refine rl_nil <| ⟨Keep G [.blk b2 [.int .u64 (x.key), .int .u8 (x.typ), .string (str (x.text)), .slice (ma) (x.marks.length) (mc)] 51, .blk b1 [.int .u8 (p.kind), .string (str (p.tag)), .string (str (p.key)), .slice (tap) (p.as.length) (tcp), .string (str (p.text)), .slice (kap) (p.kids.length) (kcp)] 46], M.keep (Gle.refl _) (by simp), fun w h => h.mono (Gle.refl _) (by simp), ?_⟩
            refine pt_act ?_ rfl pt_no
            refine rl_call F ent93 rfl rfl (rattrs_spec (x := x) (xs := p.as) M ht SM hik SAp (okP_slots hOk (by omega)).1) ?_; clear F M a; rintro _ Gt56 w a hGt56 M ⟨at56, ct56, rfl, St56⟩ F
            replace SAp := SAp.mono mono_rdSlot hGt56
            replace SKp := SKp.mono mono_rdP hGt56
            replace SM := SM.mono mono_rdStr hGt56
            refine rl_nil <| ⟨Keep Gt56 [.blk b2 [.int .u64 (x.key), .int .u8 (x.typ), .string (str (x.text)), .slice (ma) (x.marks.length) (mc)] 51, .blk b1 [.int .u8 (p.kind), .string (str (p.tag)), .string (str (p.key)), .slice (tap) (p.as.length) (tcp), .string (str (p.text)), .slice (kap) (p.kids.length) (kcp)] 46], M.keep (Gle.refl _) (by simp), fun w h => h.mono hGt56 (by simp), ?_⟩
            refine pt_run F (fun w M => run_buildS (cs := [.int .u8 (1), .string (str (p.tag)), .string (str (p.key)), .slice (at56) ((p.as.map (attrF x)).length) (ct56), .string (str ([] : List UInt8)), .slice none (0) (0)]) (ps := [(0, .int .u8 (1)), (1, .string (str (p.tag))), (2, .string (str (p.key))), (3, .slice (at56) ((p.as.map (attrF x)).length) (ct56))]) tok30.k rfl tok30 (F.evp rfl) rfl) rfl ?_; clear F a; intro a F
            refine pt_act ?_ rfl pt_no
            refine rl_storeA F M tok30 (k := 0) rfl rfl rfl (us := [.int .u8 (1), .string (str (p.tag)), .string (str (p.key)), .slice (at56) ((p.as.map (attrF x)).length) (ct56), .string (str ([] : List UInt8)), .slice none (0) (0)]) rfl rfl (by simp [Value.oneCell']) (by simp) ?_; clear F M a; intro w a M F
            change Mem w0 Gt56 (.blk b54 [.int .u8 (1), .string (str (p.tag)), .string (str (p.key)), .slice (at56) ((p.as.map (attrF x)).length) (ct56), .string (str ([] : List UInt8)), .slice none (0) (0)] 30 :: .blk b2 [.int .u64 (x.key), .int .u8 (x.typ), .string (str (x.text)), .slice (ma) (x.marks.length) (mc)] 51 :: .blk b1 [.int .u8 (p.kind), .string (str (p.tag)), .string (str (p.key)), .slice (tap) (p.as.length) (tcp), .string (str (p.text)), .slice (kap) (p.kids.length) (kcp)] 46 :: L) _ at M
            refine rl_nil <| ⟨Keep Gt56 [.blk b2 [.int .u64 (x.key), .int .u8 (x.typ), .string (str (x.text)), .slice (ma) (x.marks.length) (mc)] 51, .blk b1 [.int .u8 (p.kind), .string (str (p.tag)), .string (str (p.key)), .slice (tap) (p.as.length) (tcp), .string (str (p.text)), .slice (kap) (p.kids.length) (kcp)] 46], M.keep (Gle.refl _) (by simp), fun w h => h.mono (Gle.refl _) (by simp), ?_⟩
            refine pt_fin <| q_tn ?_
            iterate 2 (refine wp_seq ?_)
            refine w_reg <| rl_run F (run_assign (F.ev rfl)) rfl ?_; clear F a; intro a F
            refine rl_nil <| q_tn <| wp_block ?_
            have M := M.nilrow 30 6
            refine w_loopN (fun m a' w' => ∃ (i : Nat), ∃ (ay : Option Addr), ∃ (ny : Nat), ∃ (cy : Nat), ∃ (csy : List Value), m = p.kids.length - i ∧ ∃ G57, Gle Gt56 G57 ∧ Fits 91 a' [(2, .pointer (some ⟨b1, 0, none⟩)), (3, .pointer (some ⟨b2, 0, none⟩)), (7, .pointer (some ⟨b54, 0, none⟩)), (8, .int .i64 (((i : Nat) : Int)))] ∧ Mem w0 G57 (.row (.slice (ay) (ny) (cy)) (ny) (csy) 30 6 :: .blk b54 [.int .u8 (1), .string (str (p.tag)), .string (str (p.key)), .slice (at56) ((p.as.map (attrF x)).length) (ct56), .string (str ([] : List UInt8)), .slice (ay) (ny) (cy)] 30 :: .blk b2 [.int .u64 (x.key), .int .u8 (x.typ), .string (str (x.text)), .slice (ma) (x.marks.length) (mc)] 51 :: .blk b1 [.int .u8 (p.kind), .string (str (p.tag)), .string (str (p.key)), .slice (tap) (p.as.length) (tcp), .string (str (p.text)), .slice (kap) (p.kids.length) (kcp)] 46 :: L) w' ∧ (i ≤ p.kids.length) ∧ (ny = (madesF x (p.kids.take i)).length) ∧ (Els rdN 6 G57 csy (madesF x (p.kids.take i)))) _ ⟨0, (none), (0), (0), ([]), rfl, Gt56, Gle.refl _, F.to ⟨rfl, rfl, rfl, rfl, trivial⟩, M, Nat.zero_le _, rfl, Els.nil⟩ ?_
            clear F M
            rintro m a w ⟨i, ay, ny, cy, csy, rfl, G57, hG57, F, M, hi, hny, Ey⟩
            replace SAp := SAp.mono mono_rdSlot hG57
            replace SKp := SKp.mono mono_rdP hG57
            replace SM := SM.mono mono_rdStr hG57
            replace St56 := St56.mono mono_rdAttr hG57
            iterate 2 (refine wp_seq ?_)
            refine w_reg <| rl_run F (run_move (F.ev rfl)) rfl ?_; clear F a; intro a F
            refine rl_run F (run_fieldAddr tok46.k rfl rfl (F.ev rfl)) rfl ?_; clear F a; intro a F
            refine rl_run F (run_load1 (agf tok44 rfl) (F.ev rfl) (M.cellL (k := 3) rfl rfl)) rfl ?_; clear F a; intro a F
            refine rl_run F (run_lenSl tok44.k (F.ev rfl)) rfl ?_; clear F a; intro a F
            refine rl_run F (run_lss (F.ev rfl) (F.ev rfl)) rfl ?_; clear F a; intro a F
            refine rl_nil <| q_tn <| w_cond F rfl ?_ ?_
            · intro hc
              have h58b := hc; clear hc
              have h58 : ((i : Nat) : Int) < ((p.kids.length : Nat) : Int) := of_decide_eq_true h58b
              refine wp_skip <| q_tn <| wp_seq <| wp_block ?_
              have hml := mades_len hio3 (p.kids.take i)
              rw [List.length_take] at hml
              refine w_plan3 [(.free, 0), (.pure, 1), (.free, 2), (.pure, 3), (.free, 4), (.free, 5), (.pure, 6), (.pure, 7), (.keep, 8), (.keep, 9), (.free, 10), (.chg, 11)] [11] (Keep G57 [.blk b54 [.int .u8 (1), .string (str (p.tag)), .string (str (p.key)), .slice (at56) ((p.as.map (attrF x)).length) (ct56), .string (str ([] : List UInt8)), .slice (ay) (ny) (cy)] 30, .blk b2 [.int .u64 (x.key), .int .u8 (x.typ), .string (str (x.text)), .slice (ma) (x.marks.length) (mc)] 51, .blk b1 [.int .u8 (p.kind), .string (str (p.tag)), .string (str (p.key)), .slice (tap) (p.as.length) (tcp), .string (str (p.text)), .slice (kap) (p.kids.length) (kcp)] 46]) rfl (by kernel_rfl) (fun c a d v w h => by cases d <;> exact h) ((M.drew _).keep (Gle.refl _) (by simp)) ?_
              replace M := M.drew (w.drawn + 1)
              refine pk_free F (fun w _ => run_fieldAddr tok30.k rfl rfl (F.ev rfl)) rfl ?_; clear F a; intro a F
              refine pk_pure F (fun w M => run_load1 (agf tok28 rfl) (F.ev rfl) (M.cellL (k := 0) rfl rfl)) rfl ?_; clear F a; intro a F
              refine pk_free F (fun w _ => run_fieldAddr tok46.k rfl rfl (F.ev rfl)) rfl ?_; clear F a; intro a F
              refine pk_pure F (fun w M => run_load1 (agf tok44 rfl) (F.ev rfl) (M.cellL (k := 2) rfl rfl)) rfl ?_; clear F a; intro a F
              refine pk_free F (fun w _ => run_move (F.ev rfl)) rfl ?_; clear F a; intro a F
              obtain ⟨Xe59, hXe59⟩ := get_of_lt (xs := p.kids) (i := i) (by omega)
              obtain ⟨be59, oe59, _, Ie59, _, Ae59, hTe59⟩ := SKp.at hXe59
              obtain ⟨tae59, tce59, kae59, kce59, rfl, hke59, hle59, SAe59, SKe59⟩ := rdT_open hTe59
              refine pk_free F (fun w _ => run_indexI tok44.k tok46 (F.ev rfl) (F.ev rfl) (by omega) Ie59) rfl ?_; clear F a; intro a F
              refine pk_pure F (fun w M => run_loadA tok46 rfl (F.ev rfl) (cs := [.int .u8 (Xe59.kind), .string (str (Xe59.tag)), .string (str (Xe59.key)), .slice (tae59) (Xe59.as.length) (tce59), .string (str (Xe59.text)), .slice (kae59) (Xe59.kids.length) (kce59)]) rfl (M.cellsA Ae59 0 (by omega) rfl)) rfl ?_; clear F a; intro a F
              refine pk_pure F (fun w M => run_loadA tok51 rfl (F.ev rfl) (cs := [.int .u64 (x.key), .int .u8 (x.typ), .string (str (x.text)), .slice (ma) (x.marks.length) (mc)]) rfl (M.cellsL (k := 1) rfl rfl)) rfl ?_; clear F a; intro a F
              have hm8 := made_len hio3 Xe59
              refine pk_keep ?_ rfl
              refine rl_call F ent63 rfl rfl (ih Xe59 (List.mem_of_getElem? hXe59) _ _ _ _ _ _ _ _ _ _ M hke59 hle59 SAe59 SKe59 SM (okP_kids hOk _ (List.mem_of_getElem? hXe59))) ?_; clear F M a; rintro _ Gk60 w a hGk60 M ⟨ak60, ck60, rfl, Sk60⟩ F
              replace SAp := SAp.mono mono_rdSlot hGk60
              replace SKp := SKp.mono mono_rdP hGk60
              replace SM := SM.mono mono_rdStr hGk60
              replace St56 := St56.mono mono_rdAttr hGk60
              replace Ey := Ey.mono mono_rdN hGk60
              replace Ae59 := Ae59.mono hGk60
              replace SAe59 := SAe59.mono mono_rdSlot hGk60
              replace SKe59 := SKe59.mono mono_rdP hGk60
              refine rl_nil <| ⟨Keep Gk60 [.blk b54 [.int .u8 (1), .string (str (p.tag)), .string (str (p.key)), .slice (at56) ((p.as.map (attrF x)).length) (ct56), .string (str ([] : List UInt8)), .slice (ay) (ny) (cy)] 30, .blk b2 [.int .u64 (x.key), .int .u8 (x.typ), .string (str (x.text)), .slice (ma) (x.marks.length) (mc)] 51, .blk b1 [.int .u8 (p.kind), .string (str (p.tag)), .string (str (p.key)), .slice (tap) (p.as.length) (tcp), .string (str (p.text)), .slice (kap) (p.kids.length) (kcp)] 46], M.keep (Gle.refl _) (by simp), fun w h => h.mono hGk60 (by simp), ?_⟩
              refine pk_keep ?_ rfl
              refine rl_append F M (k := 0) rfl tok28.k tok30 rfl rfl (by decide) rfl Sk60 rfl (by show _ * 104 ≤ _; (try simp only [List.length_drop, List.length_take, List.length_append, List.length_cons, List.length_nil]); omega) (by (try simp only [List.length_drop, List.length_take, List.length_append, List.length_cons, List.length_nil]); omega) rfl ?_; clear F M a; intro v61 csv61 w a M Ev61 F
              have Ev61 := Els.append Ey Ev61
              obtain ⟨av61, cv61, rfl, hlev61, hcmv61, hlv61⟩ := M.row_shape (k := 0) rfl
              refine rl_nil <| ⟨Keep Gk60 [.blk b54 [.int .u8 (1), .string (str (p.tag)), .string (str (p.key)), .slice (at56) ((p.as.map (attrF x)).length) (ct56), .string (str ([] : List UInt8)), .slice (ay) (ny) (cy)] 30, .blk b2 [.int .u64 (x.key), .int .u8 (x.typ), .string (str (x.text)), .slice (ma) (x.marks.length) (mc)] 51, .blk b1 [.int .u8 (p.kind), .string (str (p.tag)), .string (str (p.key)), .slice (tap) (p.as.length) (tcp), .string (str (p.text)), .slice (kap) (p.kids.length) (kcp)] 46], M.keep (Gle.refl _) (by simp), fun w h => h.mono (Gle.refl _) (by simp), ?_⟩
              refine pk_free F (fun w _ => run_fieldAddr tok30.k rfl rfl (F.ev rfl)) rfl ?_; clear F a; intro a F
              refine pk_chg ?_ rfl
              refine rl_store1 F M tok28 rfl (k := 1) rfl rfl rfl rfl rfl ?_; clear F M a; intro w a M F
              refine rl_nil <| ⟨Keep Gk60 [.row (.slice (av61) (ny + (madeF x Xe59).length) (cv61)) (ny + (madeF x Xe59).length) (csy ++ csv61) 30 6, .blk b54 [.int .u8 (1), .string (str (p.tag)), .string (str (p.key)), .slice (at56) ((p.as.map (attrF x)).length) (ct56), .string (str ([] : List UInt8)), .slice (av61) (ny + (madeF x Xe59).length) (cv61)] 30, .blk b2 [.int .u64 (x.key), .int .u8 (x.typ), .string (str (x.text)), .slice (ma) (x.marks.length) (mc)] 51, .blk b1 [.int .u8 (p.kind), .string (str (p.tag)), .string (str (p.key)), .slice (tap) (p.as.length) (tcp), .string (str (p.text)), .slice (kap) (p.kids.length) (kcp)] 46], M.keep (Gle.refl _) (by simp), ?_⟩
              refine pk_nil <| q_bn <| q_tn <| w_reg <| rl_run F (run_move (F.ev rfl)) rfl ?_; clear F a; intro a F
              refine rl_run F (run_addi (F.ev rfl) (F.ev rfl) (in_i64 (by omega) (by omega))) rfl ?_; clear F a; intro a F
              refine rl_run F (run_assign (F.ev rfl)) rfl ?_; clear F a; intro a F
              refine rl_nil <| q_tn ?_
              exact ⟨_, by omega, i + 1, (av61), (ny + (madeF x Xe59).length), (cv61), (csy ++ csv61), rfl, Gk60, (hG57.trans hGk60), F.to ⟨rfl, rfl, rfl, rfl, trivial⟩, M, by omega, by rw [mades_snoc hXe59, List.length_append, ← hny], by rw [mades_snoc hXe59]; exact Ev61⟩
            · intro hc
              have h62b := hc; clear hc
              have h62 : ¬ (((i : Nat) : Int) < ((p.kids.length : Nat) : Int)) := of_decide_eq_false h62b
              refine wp_exit ?_
              iterate 2 (refine q_te ?_)
              refine q_bh <| q_tn <| wp_seq ?_
              rw [List.take_of_length_le (by omega)] at hny Ey
              subst hny
              obtain ⟨hnz63, Gz63, az63, cz63, hGz63, hez63, Sz63, M⟩ := M.freeze_row mono_rdN (k := 0) rfl Ey (by decide)
              clear hez63 az63 cz63
              replace SAp := SAp.mono mono_rdSlot hGz63
              replace SKp := SKp.mono mono_rdP hGz63
              replace SM := SM.mono mono_rdStr hGz63
              replace St56 := St56.mono mono_rdAttr hGz63
              clear hnz63
              refine w_reg <| rl_run F (run_loadA tok30 rfl (F.ev rfl) (cs := [.int .u8 (1), .string (str (p.tag)), .string (str (p.key)), .slice (at56) ((p.as.map (attrF x)).length) (ct56), .string (str ([] : List UInt8)), .slice (ay) ((madesF x p.kids).length) (cy)]) rfl (M.cellsL (k := 0) rfl rfl)) rfl ?_; clear F a; intro a F
              refine rl_buildSlice1 F M tok28.k tok30 rfl rfl (cs := [.int .u8 (1), .string (str (p.tag)), .string (str (p.key)), .slice (at56) ((p.as.map (attrF x)).length) (ct56), .string (str ([] : List UInt8)), .slice (ay) ((madesF x p.kids).length) (cy)]) rfl rfl (by simp [Value.oneCell']) (by decide) rfl ?_; clear F M a; intro v64 w a M F
              obtain ⟨av64, cv64, rfl, hlev64, hcmv64, hlv64⟩ := M.row_shape (k := 0) rfl
              refine rl_run F (run_assign (F.ev rfl)) rfl ?_; clear F a; intro a F
              refine rl_nil <| q_tn <| wp_ret <| fin1 F rfl rfl ?_
              have E65 : Els rdN 6 Gz63 [.int .u8 (1), .string (str (p.tag)), .string (str (p.key)), .slice (at56) ((p.as.map (attrF x)).length) (ct56), .string (str ([] : List UInt8)), .slice (ay) ((madesF x p.kids).length) (cy)] [(.mk 1 p.tag p.key (p.as.map (attrF x)) ([] : List UInt8) (madesF x p.kids) : NT)] := Els.one (rdT_close (x := (.mk 1 p.tag p.key (p.as.map (attrF x)) ([] : List UInt8) (madesF x p.kids) : NT)) u8_1 ⟨(by first | exact Nat.zero_le _ | assumption | exact hlp.1 | exact hlp.2.1 | exact hlp.2.2 | (have h_ := dec_len x.key.toNat (by omega); show (Lib.decDigits x.key.toNat).length ≤ _; omega)), (by first | exact Nat.zero_le _ | assumption | exact hlp.1 | exact hlp.2.1 | exact hlp.2.2 | (have h_ := dec_len x.key.toNat (by omega); show (Lib.decDigits x.key.toNat).length ≤ _; omega)), (by first | exact Nat.zero_le _ | assumption | exact hlp.1 | exact hlp.2.1 | exact hlp.2.2 | (have h_ := dec_len x.key.toNat (by omega); show (Lib.decDigits x.key.toNat).length ≤ _; omega))⟩ St56 Sz63) rfl
              obtain ⟨hnz66, Gz66, az66, cz66, hGz66, hez66, Sz66, M⟩ := M.freeze_row mono_rdN (k := 0) rfl E65 (by decide)
              clear hez66 az66 cz66
              exact ⟨Gz66, (((hGt56.trans hG57).trans hGz63).trans hGz66), M.weaken (.cons _ (.cons _ (.cons _ (List.Sublist.refl _)))), _, _, by rw [made1 hk1p]; rfl, by rw [made1 hk1p]; exact Sz66⟩
          exact pt_no
theorem rmade_all {x : ItemD} (hik : inKind .u64 x.key) (hio : ItemOk x) (ht : x.text.length ≤ 9223372036854775807) (p : PT) : RmadeQ x p := by
  induction p using Tr.ind with
  | _ p ih => intro w0 w G L ma tap kap mc tcp kcp M hk hl SA SK SM hok; exact rmade_step hik hio ht ih M hk hl SA SK SM hok
theorem rrender_spec {w0 w : World} {G : Ghost} {L : List Res} (M : Mem w0 G L w) {p : PT} {tap : Option Addr} {tcp : Nat} {kap : Option Addr} {kcp : Nat} (hkp : inKind .u8 p.kind) (hlp : (p.tag.length ≤ 9223372036854775807 ∧ p.key.length ≤ 9223372036854775807 ∧ p.text.length ≤ 9223372036854775807)) (SAp : RdSl rdSlot 3 G (.slice tap p.as.length tcp) p.as) (SKp : RdSl rdP 6 G (.slice kap p.kids.length kcp) p.kids) {x : ItemD} {ma : Option Addr} {mc : Nat} (ht : x.text.length ≤ 9223372036854775807) (SM : RdSl rdStr 1 G (.slice ma x.marks.length mc) x.marks) (hik : inKind .u64 x.key) {most : Int} : Calls Tryz.prog 23 #[.agg #[.int .u8 (p.kind), .string (str (p.tag)), .string (str (p.key)), .slice (tap) (p.as.length) (tcp), .string (str (p.text)), .slice (kap) (p.kids.length) (kcp)], .agg #[.int .u64 (x.key), .int .u8 (x.typ), .string (str (x.text)), .slice (ma) (x.marks.length) (mc)], .int .i64 most] w (Ret w0 G L fun G' v => ∃ a1 c1 a2 c2, v = .tuple #[.agg #[.int .u8 (rendN p x most).kind, .string (str (rendN p x most).tag), .string (str (rendN p x most).key), .slice a1 (rendN p x most).as.length c1, .string (str (rendN p x most).text), .slice a2 (rendN p x most).kids.length c2], .int .i64 (rendE p x most)] ∧ RdSl rdAttr 2 G' (.slice a1 (rendN p x most).as.length c1) (rendN p x most).as ∧ RdSl rdN 6 G' (.slice a2 (rendN p x most).kids.length c2) (rendN p x most).kids) := by
  refine calls_start (vs := [_, _, _]) Tryz.func23 rfl (n := 44) rfl rfl ?_
  intro a F
  refine wp_seq <| w_reg <| rl_box F M rfl (cs := [.int .u8 (p.kind), .string (str (p.tag)), .string (str (p.key)), .slice (tap) (p.as.length) (tcp), .string (str (p.text)), .slice (kap) (p.kids.length) (kcp)]) rfl rfl ?_; clear F M a; intro b1 w a M F
  refine rl_box F M rfl (cs := [.int .u64 (x.key), .int .u8 (x.typ), .string (str (x.text)), .slice (ma) (x.marks.length) (mc)]) rfl rfl ?_; clear F M a; intro b2 w a M F
  refine rl_alloc F M tok30 rfl rfl ?_; clear F M a; intro b3 w a M F
  refine rl_run F (run_assign (F.ev rfl)) rfl ?_; clear F a; intro a F
  refine rl_nil <| q_tn ?_
  iterate 2 (refine wp_seq ?_)
  refine w_reg <| rl_run F (run_move (F.ev rfl)) rfl ?_; clear F a; intro a F
  refine rl_run F (run_lss (F.ev rfl) (F.ev rfl)) rfl ?_; clear F a; intro a F
  refine rl_run F (run_move (F.ev rfl)) rfl ?_; clear F a; intro a F
  rcases Bool.eq_false_or_eq_true (decide (most < 1)) with hc | hc
  · skip
    have h5b := hc; clear hc
    have h5 : most < 1 := of_decide_eq_true h5b
    iterate 2 (refine rl_guard_f F rfl rfl rfl h5b ?_; clear F a; intro a F)
    refine rl_run F (run_pick_t (F.ev rfl) h5b (F.ev rfl)) rfl ?_; clear F a; intro a F
    refine rl_nil <| q_tn <| w_cond_t F rfl rfl ?_
    refine wp_seq <| w_reg <| rl_run F (run_buildS (cs := [.int .u8 (0), .string (str ([] : List UInt8)), .string (str ([] : List UInt8)), .slice none (0) (0), .string (str ([] : List UInt8)), .slice none (0) (0)]) (ps := []) tok30.k rfl tok30 (F.evp rfl) rfl) rfl ?_; clear F a; intro a F
    refine rl_storeA F M tok30 (k := 0) rfl rfl rfl (us := [.int .u8 (0), .string (str ([] : List UInt8)), .string (str ([] : List UInt8)), .slice none (0) (0), .string (str ([] : List UInt8)), .slice none (0) (0)]) rfl rfl (by simp [Value.oneCell']) (by simp) ?_; clear F M a; intro w a M F
    change Mem w0 G (.blk b3 [.int .u8 (0), .string (str ([] : List UInt8)), .string (str ([] : List UInt8)), .slice none (0) (0), .string (str ([] : List UInt8)), .slice none (0) (0)] 30 :: .blk b2 [.int .u64 (x.key), .int .u8 (x.typ), .string (str (x.text)), .slice (ma) (x.marks.length) (mc)] 51 :: .blk b1 [.int .u8 (p.kind), .string (str (p.tag)), .string (str (p.key)), .slice (tap) (p.as.length) (tcp), .string (str (p.text)), .slice (kap) (p.kids.length) (kcp)] 46 :: L) _ at M
    refine rl_run F (run_assign (F.ev rfl)) rfl ?_; clear F a; intro a F
    refine rl_nil <| q_tn <| wp_ret <| q_tr <| fin_ct F M (k := 0) rfl rfl tok30 rfl rfl rfl rfl ?_
    have hE : rendE p x most = 1 := rend_arg (by omega)
    have hN : rendN p x most = zeroN := rendN_no (by rw [hE]; (first | decide | omega))
    exact ⟨_, (Gle.refl _), (M.weaken (.cons _ (.cons _ (.cons _ (List.Sublist.refl _))))), none, 0, none, 0, by rw [hE, hN]; rfl, by rw [hN]; exact RdSl.nil, by rw [hN]; exact RdSl.nil⟩
  · skip
    have h6b := hc; clear hc
    have h6 : ¬ (most < 1) := of_decide_eq_false h6b
    refine rl_guard_t F rfl rfl rfl h6b ?_
    refine rl_run F (run_move (F.ev rfl)) rfl ?_; clear F a; intro a F
    refine rl_guard_t F rfl rfl rfl h6b ?_
    refine rl_run F (run_gtr (F.ev rfl) (F.ev rfl)) rfl ?_; clear F a; intro a F
    refine rl_run F (run_pick_f (F.ev rfl) h6b (F.ev rfl)) rfl ?_; clear F a; intro a F
    refine rl_nil <| q_tn <| w_cond F rfl ?_ ?_
    · intro hc
      have h7b := hc; clear hc
      have h7 : 64 < most := of_decide_eq_true h7b
      refine wp_seq <| w_reg <| rl_run F (run_buildS (cs := [.int .u8 (0), .string (str ([] : List UInt8)), .string (str ([] : List UInt8)), .slice none (0) (0), .string (str ([] : List UInt8)), .slice none (0) (0)]) (ps := []) tok30.k rfl tok30 (F.evp rfl) rfl) rfl ?_; clear F a; intro a F
      refine rl_storeA F M tok30 (k := 0) rfl rfl rfl (us := [.int .u8 (0), .string (str ([] : List UInt8)), .string (str ([] : List UInt8)), .slice none (0) (0), .string (str ([] : List UInt8)), .slice none (0) (0)]) rfl rfl (by simp [Value.oneCell']) (by simp) ?_; clear F M a; intro w a M F
      change Mem w0 G (.blk b3 [.int .u8 (0), .string (str ([] : List UInt8)), .string (str ([] : List UInt8)), .slice none (0) (0), .string (str ([] : List UInt8)), .slice none (0) (0)] 30 :: .blk b2 [.int .u64 (x.key), .int .u8 (x.typ), .string (str (x.text)), .slice (ma) (x.marks.length) (mc)] 51 :: .blk b1 [.int .u8 (p.kind), .string (str (p.tag)), .string (str (p.key)), .slice (tap) (p.as.length) (tcp), .string (str (p.text)), .slice (kap) (p.kids.length) (kcp)] 46 :: L) _ at M
      refine rl_run F (run_assign (F.ev rfl)) rfl ?_; clear F a; intro a F
      refine rl_nil <| q_tn <| wp_ret <| q_tr <| fin_ct F M (k := 0) rfl rfl tok30 rfl rfl rfl rfl ?_
      have hE : rendE p x most = 1 := rend_arg (by omega)
      have hN : rendN p x most = zeroN := rendN_no (by rw [hE]; (first | decide | omega))
      exact ⟨_, (Gle.refl _), (M.weaken (.cons _ (.cons _ (.cons _ (List.Sublist.refl _))))), none, 0, none, 0, by rw [hE, hN]; rfl, by rw [hN]; exact RdSl.nil, by rw [hN]; exact RdSl.nil⟩
    · intro hc
      have h8b := hc; clear hc
      have h8 : ¬ (64 < most) := of_decide_eq_false h8b
      refine wp_skip <| q_tn ?_
      iterate 2 (refine wp_seq ?_)
      refine w_reg <| rl_run F (run_loadA tok46 rfl (F.ev rfl) (cs := [.int .u8 (p.kind), .string (str (p.tag)), .string (str (p.key)), .slice (tap) (p.as.length) (tcp), .string (str (p.text)), .slice (kap) (p.kids.length) (kcp)]) rfl (M.cellsL (k := 2) rfl rfl)) rfl ?_; clear F a; intro a F
      refine rl_callS F ent34 rfl rfl (rpcheck_spec (x := p) M hkp hlp SAp SKp) ?_; clear F M a; rintro _ w a M rfl F
      refine rl_run F (run_nei (F.ev rfl) (F.ev rfl)) rfl ?_; clear F a; intro a F
      refine rl_nil <| q_tn <| w_cond F rfl ?_ ?_
      · intro hc
        have h9b := hc; clear hc
        have h9 : ¬ (chkP p = 0) := of_decide_eq_false (of_not_t h9b)
        have h9c : (decide (chkP p = 0)) = false := (of_not_t h9b)
        have hV : ¬ ValidP p := fun h_ => by have := chkP_zero.2 h_; omega
        refine wp_seq <| w_reg <| rl_run F (run_buildS (cs := [.int .u8 (0), .string (str ([] : List UInt8)), .string (str ([] : List UInt8)), .slice none (0) (0), .string (str ([] : List UInt8)), .slice none (0) (0)]) (ps := []) tok30.k rfl tok30 (F.evp rfl) rfl) rfl ?_; clear F a; intro a F
        refine rl_run F (run_loadA tok46 rfl (F.ev rfl) (cs := [.int .u8 (p.kind), .string (str (p.tag)), .string (str (p.key)), .slice (tap) (p.as.length) (tcp), .string (str (p.text)), .slice (kap) (p.kids.length) (kcp)]) rfl (M.cellsL (k := 2) rfl rfl)) rfl ?_; clear F a; intro a F
        refine rl_callS F ent34 rfl rfl (rpcheck_spec (x := p) M hkp hlp SAp SKp) ?_; clear F M a; rintro _ w a M rfl F
        refine rl_storeA F M tok30 (k := 0) rfl rfl rfl (us := [.int .u8 (0), .string (str ([] : List UInt8)), .string (str ([] : List UInt8)), .slice none (0) (0), .string (str ([] : List UInt8)), .slice none (0) (0)]) rfl rfl (by simp [Value.oneCell']) (by simp) ?_; clear F M a; intro w a M F
        change Mem w0 G (.blk b3 [.int .u8 (0), .string (str ([] : List UInt8)), .string (str ([] : List UInt8)), .slice none (0) (0), .string (str ([] : List UInt8)), .slice none (0) (0)] 30 :: .blk b2 [.int .u64 (x.key), .int .u8 (x.typ), .string (str (x.text)), .slice (ma) (x.marks.length) (mc)] 51 :: .blk b1 [.int .u8 (p.kind), .string (str (p.tag)), .string (str (p.key)), .slice (tap) (p.as.length) (tcp), .string (str (p.text)), .slice (kap) (p.kids.length) (kcp)] 46 :: L) _ at M
        refine rl_run F (run_assign (F.ev rfl)) rfl ?_; clear F a; intro a F
        refine rl_nil <| q_tn <| wp_ret <| q_tr <| fin_ct F M (k := 0) rfl rfl tok30 rfl rfl rfl rfl ?_
        have hE : rendE p x most = chkP p := by rw [chkP_no hV]; exact rend_tree (by omega) hV
        have hN : rendN p x most = zeroN := rendN_no (by rw [hE]; (first | decide | omega))
        exact ⟨_, (Gle.refl _), (M.weaken (.cons _ (.cons _ (.cons _ (List.Sublist.refl _))))), none, 0, none, 0, by rw [hE, hN]; rfl, by rw [hN]; exact RdSl.nil, by rw [hN]; exact RdSl.nil⟩
      · intro hc
        have h10b := hc; clear hc
        have h10 : chkP p = 0 := of_decide_eq_true (of_not_f h10b)
        have h10c : (decide (chkP p = 0)) = true := (of_not_f h10b)
        have hV : ValidP p := chkP_zero.1 (by omega)
        refine wp_skip <| q_tn ?_
        iterate 2 (refine wp_seq ?_)
        refine w_reg <| rl_run F (run_loadA tok51 rfl (F.ev rfl) (cs := [.int .u64 (x.key), .int .u8 (x.typ), .string (str (x.text)), .slice (ma) (x.marks.length) (mc)]) rfl (M.cellsL (k := 1) rfl rfl)) rfl ?_; clear F a; intro a F
        refine rl_callS F ent37 rfl rfl (rcheckitem_spec (x := x) M ht SM) ?_; clear F M a; rintro _ w a M rfl F
        refine rl_run F (run_nei (F.ev rfl) (F.ev rfl)) rfl ?_; clear F a; intro a F
        refine rl_nil <| q_tn <| w_cond F rfl ?_ ?_
        · intro hc
          have h11b := hc; clear hc
          have h11 : ¬ (itmF x = 0) := of_decide_eq_false (of_not_t h11b)
          have h11c : (decide (itmF x = 0)) = false := (of_not_t h11b)
          have hio : ¬ ItemOk x := fun h_ => by have := itmF_zero.2 h_; omega
          refine wp_seq <| w_reg <| rl_run F (run_buildS (cs := [.int .u8 (0), .string (str ([] : List UInt8)), .string (str ([] : List UInt8)), .slice none (0) (0), .string (str ([] : List UInt8)), .slice none (0) (0)]) (ps := []) tok30.k rfl tok30 (F.evp rfl) rfl) rfl ?_; clear F a; intro a F
          refine rl_run F (run_loadA tok51 rfl (F.ev rfl) (cs := [.int .u64 (x.key), .int .u8 (x.typ), .string (str (x.text)), .slice (ma) (x.marks.length) (mc)]) rfl (M.cellsL (k := 1) rfl rfl)) rfl ?_; clear F a; intro a F
          refine rl_callS F ent37 rfl rfl (rcheckitem_spec (x := x) M ht SM) ?_; clear F M a; rintro _ w a M rfl F
          refine rl_storeA F M tok30 (k := 0) rfl rfl rfl (us := [.int .u8 (0), .string (str ([] : List UInt8)), .string (str ([] : List UInt8)), .slice none (0) (0), .string (str ([] : List UInt8)), .slice none (0) (0)]) rfl rfl (by simp [Value.oneCell']) (by simp) ?_; clear F M a; intro w a M F
          change Mem w0 G (.blk b3 [.int .u8 (0), .string (str ([] : List UInt8)), .string (str ([] : List UInt8)), .slice none (0) (0), .string (str ([] : List UInt8)), .slice none (0) (0)] 30 :: .blk b2 [.int .u64 (x.key), .int .u8 (x.typ), .string (str (x.text)), .slice (ma) (x.marks.length) (mc)] 51 :: .blk b1 [.int .u8 (p.kind), .string (str (p.tag)), .string (str (p.key)), .slice (tap) (p.as.length) (tcp), .string (str (p.text)), .slice (kap) (p.kids.length) (kcp)] 46 :: L) _ at M
          refine rl_run F (run_assign (F.ev rfl)) rfl ?_; clear F a; intro a F
          refine rl_nil <| q_tn <| wp_ret <| q_tr <| fin_ct F M (k := 0) rfl rfl tok30 rfl rfl rfl rfl ?_
          have hE : rendE p x most = itmF x := by rw [itmF_no hio]; exact rend_item (by omega) hV hio
          have hN : rendN p x most = zeroN := rendN_no (by rw [hE]; (first | decide | omega))
          exact ⟨_, (Gle.refl _), (M.weaken (.cons _ (.cons _ (.cons _ (List.Sublist.refl _))))), none, 0, none, 0, by rw [hE, hN]; rfl, by rw [hN]; exact RdSl.nil, by rw [hN]; exact RdSl.nil⟩
        · intro hc
          have h12b := hc; clear hc
          have h12 : itmF x = 0 := of_decide_eq_true (of_not_f h12b)
          have h12c : (decide (itmF x = 0)) = true := (of_not_f h12b)
          have hio : ItemOk x := itmF_zero.1 (by omega)
          refine wp_skip <| q_tn <| wp_seq <| w_reg <| rl_run F (run_loadA tok46 rfl (F.ev rfl) (cs := [.int .u8 (p.kind), .string (str (p.tag)), .string (str (p.key)), .slice (tap) (p.as.length) (tcp), .string (str (p.text)), .slice (kap) (p.kids.length) (kcp)]) rfl (M.cellsL (k := 2) rfl rfl)) rfl ?_; clear F a; intro a F
          refine rl_run F (run_loadA tok51 rfl (F.ev rfl) (cs := [.int .u64 (x.key), .int .u8 (x.typ), .string (str (x.text)), .slice (ma) (x.marks.length) (mc)]) rfl (M.cellsL (k := 1) rfl rfl)) rfl ?_; clear F a; intro a F
          refine rl_call F ent63 rfl rfl (rmade_all hik hio ht p _ _ _ _ _ _ _ _ _ _ M hkp hlp SAp SKp SM (validP_elem hV)) ?_; clear F M a; rintro _ Gk13 w a hGk13 M ⟨ak13, ck13, rfl, Sk13⟩ F
          replace SAp := SAp.mono mono_rdSlot hGk13
          replace SKp := SKp.mono mono_rdP hGk13
          replace SM := SM.mono mono_rdStr hGk13
          have hN1 : (madeF x p)[0]? = some (node1 x p) := by rw [made1 hV.1]; rfl
          obtain ⟨be14, oe14, _, Ie14, _, Ae14, hTe14⟩ := Sk13.at hN1
          obtain ⟨tae14, tce14, kae14, kce14, rfl, hke14, hle14, SAe14, SKe14⟩ := rdT_open hTe14
          refine rl_run F (run_indexI tok28.k tok30 (F.ev rfl) (F.ev rfl) (by omega) Ie14) rfl ?_; clear F a; intro a F
          refine rl_run F (run_loadA tok30 rfl (F.ev rfl) (cs := [.int .u8 ((node1 x p).kind), .string (str ((node1 x p).tag)), .string (str ((node1 x p).key)), .slice (tae14) ((node1 x p).as.length) (tce14), .string (str ((node1 x p).text)), .slice (kae14) ((node1 x p).kids.length) (kce14)]) rfl (M.cellsA Ae14 0 (by omega) rfl)) rfl ?_; clear F a; intro a F
          refine rl_alloc F M tok30 rfl rfl ?_; clear F M a; intro b15 w a M F
          refine rl_storeA F M tok30 (k := 0) rfl rfl rfl (us := [.int .u8 ((node1 x p).kind), .string (str ((node1 x p).tag)), .string (str ((node1 x p).key)), .slice (tae14) ((node1 x p).as.length) (tce14), .string (str ((node1 x p).text)), .slice (kae14) ((node1 x p).kids.length) (kce14)]) rfl rfl (by simp [Value.oneCell']) (by simp) ?_; clear F M a; intro w a M F
          change Mem w0 Gk13 (.blk b15 [.int .u8 ((node1 x p).kind), .string (str ((node1 x p).tag)), .string (str ((node1 x p).key)), .slice (tae14) ((node1 x p).as.length) (tce14), .string (str ((node1 x p).text)), .slice (kae14) ((node1 x p).kids.length) (kce14)] 30 :: .blk b3 [.int .u8 (0), .string (str ([] : List UInt8)), .string (str ([] : List UInt8)), .slice none (0) (0), .string (str ([] : List UInt8)), .slice none (0) (0)] 30 :: .blk b2 [.int .u64 (x.key), .int .u8 (x.typ), .string (str (x.text)), .slice (ma) (x.marks.length) (mc)] 51 :: .blk b1 [.int .u8 (p.kind), .string (str (p.tag)), .string (str (p.key)), .slice (tap) (p.as.length) (tcp), .string (str (p.text)), .slice (kap) (p.kids.length) (kcp)] 46 :: L) _ at M
          refine rl_nil <| q_tn ?_
          iterate 2 (refine wp_seq ?_)
          refine w_reg <| rl_run F (run_loadA tok30 rfl (F.ev rfl) (cs := [.int .u8 ((node1 x p).kind), .string (str ((node1 x p).tag)), .string (str ((node1 x p).key)), .slice (tae14) ((node1 x p).as.length) (tce14), .string (str ((node1 x p).text)), .slice (kae14) ((node1 x p).kids.length) (kce14)]) rfl (M.cellsL (k := 0) rfl rfl)) rfl ?_; clear F a; intro a F
          refine rl_callS F ent48 rfl rfl (rcheck_spec (x := (node1 x p)) M hke14 hle14 SAe14 SKe14) ?_; clear F M a; rintro _ w a M rfl F
          refine rl_run F (run_nei (F.ev rfl) (F.ev rfl)) rfl ?_; clear F a; intro a F
          refine rl_run F (run_move (F.ev rfl)) rfl ?_; clear F a; intro a F
          rcases Bool.eq_false_or_eq_true (!(decide (chkF (node1 x p) = 0))) with hc | hc
          · skip
            have h17b := hc; clear hc
            have h17 : ¬ (chkF (node1 x p) = 0) := of_decide_eq_false (of_not_t h17b)
            have h17c : (decide (chkF (node1 x p) = 0)) = false := (of_not_t h17b)
            iterate 4 (refine rl_guard_f F rfl rfl rfl (not_t h17c) ?_; clear F a; intro a F)
            refine rl_run F (run_pick_t (F.ev rfl) (not_t h17c) (F.ev rfl)) rfl ?_; clear F a; intro a F
            refine rl_nil <| q_tn <| w_cond_t F rfl rfl ?_
            refine wp_seq <| w_reg <| rl_run F (run_buildS (cs := [.int .u8 (0), .string (str ([] : List UInt8)), .string (str ([] : List UInt8)), .slice none (0) (0), .string (str ([] : List UInt8)), .slice none (0) (0)]) (ps := []) tok30.k rfl tok30 (F.evp rfl) rfl) rfl ?_; clear F a; intro a F
            refine rl_storeA F M tok30 (k := 1) rfl rfl rfl (us := [.int .u8 (0), .string (str ([] : List UInt8)), .string (str ([] : List UInt8)), .slice none (0) (0), .string (str ([] : List UInt8)), .slice none (0) (0)]) rfl rfl (by simp [Value.oneCell']) (by simp) ?_; clear F M a; intro w a M F
            change Mem w0 Gk13 (.blk b15 [.int .u8 ((node1 x p).kind), .string (str ((node1 x p).tag)), .string (str ((node1 x p).key)), .slice (tae14) ((node1 x p).as.length) (tce14), .string (str ((node1 x p).text)), .slice (kae14) ((node1 x p).kids.length) (kce14)] 30 :: .blk b3 [.int .u8 (0), .string (str ([] : List UInt8)), .string (str ([] : List UInt8)), .slice none (0) (0), .string (str ([] : List UInt8)), .slice none (0) (0)] 30 :: .blk b2 [.int .u64 (x.key), .int .u8 (x.typ), .string (str (x.text)), .slice (ma) (x.marks.length) (mc)] 51 :: .blk b1 [.int .u8 (p.kind), .string (str (p.tag)), .string (str (p.key)), .slice (tap) (p.as.length) (tcp), .string (str (p.text)), .slice (kap) (p.kids.length) (kcp)] 46 :: L) _ at M
            refine rl_run F (run_assign (F.ev rfl)) rfl ?_; clear F a; intro a F
            refine rl_nil <| q_tn <| wp_ret <| q_tr <| fin_ct F M (k := 1) rfl rfl tok30 rfl rfl rfl rfl ?_
            have hE : rendE p x most = 14 := rend_many (by omega) hV hio (by first | omega | (left; rw [cntF_no fun h_ => by have := chkF_yes h_; omega]))
            have hN : rendN p x most = zeroN := rendN_no (by rw [hE]; (first | decide | omega))
            exact ⟨_, hGk13, (M.weaken (.cons _ (.cons _ (.cons _ (.cons _ (List.Sublist.refl _)))))), none, 0, none, 0, by rw [hE, hN]; rfl, by rw [hN]; exact RdSl.nil, by rw [hN]; exact RdSl.nil⟩
          · skip
            have h18b := hc; clear hc
            have h18 : chkF (node1 x p) = 0 := of_decide_eq_true (of_not_f h18b)
            have h18c : (decide (chkF (node1 x p) = 0)) = true := (of_not_f h18b)
            refine rl_guard_t F rfl rfl rfl (not_f h18c) ?_
            refine rl_run F (run_loadA tok30 rfl (F.ev rfl) (cs := [.int .u8 ((node1 x p).kind), .string (str ((node1 x p).tag)), .string (str ((node1 x p).key)), .slice (tae14) ((node1 x p).as.length) (tce14), .string (str ((node1 x p).text)), .slice (kae14) ((node1 x p).kids.length) (kce14)]) rfl (M.cellsL (k := 0) rfl rfl)) rfl ?_; clear F a; intro a F
            refine rl_guard_t F rfl rfl rfl (not_f h18c) ?_
            refine rl_callS F ent50 rfl rfl (rcount_spec (x := (node1 x p)) M hke14 hle14 SAe14 SKe14) ?_; clear F M a; rintro _ w a M rfl F
            refine rl_guard_t F rfl rfl rfl (not_f h18c) ?_
            refine rl_run F (run_move (F.ev rfl)) rfl ?_; clear F a; intro a F
            refine rl_guard_t F rfl rfl rfl (not_f h18c) ?_
            refine rl_run F (run_gtr (F.ev rfl) (F.ev rfl)) rfl ?_; clear F a; intro a F
            refine rl_run F (run_pick_f (F.ev rfl) (not_f h18c) (F.ev rfl)) rfl ?_; clear F a; intro a F
            refine rl_nil <| q_tn <| w_cond F rfl ?_ ?_
            · intro hc
              have h19b := hc; clear hc
              have h19 : most < ((cntF (node1 x p) : Nat) : Int) := of_decide_eq_true h19b
              refine wp_seq <| w_reg <| rl_run F (run_buildS (cs := [.int .u8 (0), .string (str ([] : List UInt8)), .string (str ([] : List UInt8)), .slice none (0) (0), .string (str ([] : List UInt8)), .slice none (0) (0)]) (ps := []) tok30.k rfl tok30 (F.evp rfl) rfl) rfl ?_; clear F a; intro a F
              refine rl_storeA F M tok30 (k := 1) rfl rfl rfl (us := [.int .u8 (0), .string (str ([] : List UInt8)), .string (str ([] : List UInt8)), .slice none (0) (0), .string (str ([] : List UInt8)), .slice none (0) (0)]) rfl rfl (by simp [Value.oneCell']) (by simp) ?_; clear F M a; intro w a M F
              change Mem w0 Gk13 (.blk b15 [.int .u8 ((node1 x p).kind), .string (str ((node1 x p).tag)), .string (str ((node1 x p).key)), .slice (tae14) ((node1 x p).as.length) (tce14), .string (str ((node1 x p).text)), .slice (kae14) ((node1 x p).kids.length) (kce14)] 30 :: .blk b3 [.int .u8 (0), .string (str ([] : List UInt8)), .string (str ([] : List UInt8)), .slice none (0) (0), .string (str ([] : List UInt8)), .slice none (0) (0)] 30 :: .blk b2 [.int .u64 (x.key), .int .u8 (x.typ), .string (str (x.text)), .slice (ma) (x.marks.length) (mc)] 51 :: .blk b1 [.int .u8 (p.kind), .string (str (p.tag)), .string (str (p.key)), .slice (tap) (p.as.length) (tcp), .string (str (p.text)), .slice (kap) (p.kids.length) (kcp)] 46 :: L) _ at M
              refine rl_run F (run_assign (F.ev rfl)) rfl ?_; clear F a; intro a F
              refine rl_nil <| q_tn <| wp_ret <| q_tr <| fin_ct F M (k := 1) rfl rfl tok30 rfl rfl rfl rfl ?_
              have hE : rendE p x most = 14 := rend_many (by omega) hV hio (by first | omega | (left; rw [cntF_no fun h_ => by have := chkF_yes h_; omega]))
              have hN : rendN p x most = zeroN := rendN_no (by rw [hE]; (first | decide | omega))
              exact ⟨_, hGk13, (M.weaken (.cons _ (.cons _ (.cons _ (.cons _ (List.Sublist.refl _)))))), none, 0, none, 0, by rw [hE, hN]; rfl, by rw [hN]; exact RdSl.nil, by rw [hN]; exact RdSl.nil⟩
            · intro hc
              have h20b := hc; clear hc
              have h20 : ¬ (most < ((cntF (node1 x p) : Nat) : Int)) := of_decide_eq_false h20b
              refine wp_skip <| q_tn <| wp_seq <| w_reg <| rl_run F (run_loadA tok30 rfl (F.ev rfl) (cs := [.int .u8 ((node1 x p).kind), .string (str ((node1 x p).tag)), .string (str ((node1 x p).key)), .slice (tae14) ((node1 x p).as.length) (tce14), .string (str ((node1 x p).text)), .slice (kae14) ((node1 x p).kids.length) (kce14)]) rfl (M.cellsL (k := 0) rfl rfl)) rfl ?_; clear F a; intro a F
              refine rl_storeA F M tok30 (k := 1) rfl rfl rfl (us := [.int .u8 ((node1 x p).kind), .string (str ((node1 x p).tag)), .string (str ((node1 x p).key)), .slice (tae14) ((node1 x p).as.length) (tce14), .string (str ((node1 x p).text)), .slice (kae14) ((node1 x p).kids.length) (kce14)]) rfl rfl (by simp [Value.oneCell']) (by simp) ?_; clear F M a; intro w a M F
              change Mem w0 Gk13 (.blk b15 [.int .u8 ((node1 x p).kind), .string (str ((node1 x p).tag)), .string (str ((node1 x p).key)), .slice (tae14) ((node1 x p).as.length) (tce14), .string (str ((node1 x p).text)), .slice (kae14) ((node1 x p).kids.length) (kce14)] 30 :: .blk b3 [.int .u8 ((node1 x p).kind), .string (str ((node1 x p).tag)), .string (str ((node1 x p).key)), .slice (tae14) ((node1 x p).as.length) (tce14), .string (str ((node1 x p).text)), .slice (kae14) ((node1 x p).kids.length) (kce14)] 30 :: .blk b2 [.int .u64 (x.key), .int .u8 (x.typ), .string (str (x.text)), .slice (ma) (x.marks.length) (mc)] 51 :: .blk b1 [.int .u8 (p.kind), .string (str (p.tag)), .string (str (p.key)), .slice (tap) (p.as.length) (tcp), .string (str (p.text)), .slice (kap) (p.kids.length) (kcp)] 46 :: L) _ at M
              refine rl_run F (run_assign (F.ev rfl)) rfl ?_; clear F a; intro a F
              refine rl_nil <| q_tn <| wp_ret <| fin_ct F M (k := 1) rfl rfl tok30 rfl rfl rfl rfl ?_
              have hE : rendE p x most = 0 := rend_ok (by omega) hV hio (by have h_ := cntF_pos.2 (chkF_zero.1 (by omega)); omega)
              have hN := rendN_ok hE
              exact ⟨_, hGk13, (M.weaken (.cons _ (.cons _ (.cons _ (.cons _ (List.Sublist.refl _)))))), _, _, _, _, by rw [hE, hN], by rw [hN]; exact SAe14, by rw [hN]; exact SKe14⟩
end Go.Proofs.YtlnehkjmmegkhaaGreat
