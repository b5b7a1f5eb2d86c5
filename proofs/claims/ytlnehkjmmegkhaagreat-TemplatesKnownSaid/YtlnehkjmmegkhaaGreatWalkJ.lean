/- The walks, part J. -/
import Derived.Test.YtlnehkjmmegkhaaGreatWalkI
namespace Go.Proofs.YtlnehkjmmegkhaaGreat
open Go Go.Y Go.Proofs
set_option linter.unusedSimpArgs false
set_option linter.unusedVariables false
/-- The cells of a node without spare capacity anywhere. -/
def rdTx : Nat → Rd NT
  | 0 => fun _ _ _ => False
  | d + 1 => fun G cs x => ∃ a1 a2, cs = [.int .u8 x.kind, .string (str x.tag), .string (str x.key), .slice a1 x.as.length x.as.length, .string (str x.text), .slice a2 x.kids.length x.kids.length] ∧
      inKind .u8 x.kind ∧ (x.tag.length ≤ 9223372036854775807 ∧ x.key.length ≤ 9223372036854775807 ∧ x.text.length ≤ 9223372036854775807) ∧
      RdSl rdAttr 2 G (.slice a1 x.as.length x.as.length) x.as ∧ RdSl (rdTx d) 6 G (.slice a2 x.kids.length x.kids.length) x.kids
def rdNE : Rd NT := fun G cs x => ∃ d, rdTx d G cs x
theorem rdTx_up : ∀ {d : Nat} {G : Ghost} {cs : List Value} {x : NT}, rdTx d G cs x → rdTx (d + 1) G cs x
  | 0, _, _, _, h => h.elim
  | d + 1, G, cs, x, ⟨a1, a2, h1, h2, h3, h4, h5⟩ => ⟨a1, a2, h1, h2, h3, h4, h5.imp fun _ _ h => rdTx_up h⟩
theorem rdTx_le {d e : Nat} {G : Ghost} {cs : List Value} {x : NT} (h : rdTx d G cs x) (hd : d ≤ e) : rdTx e G cs x := by
  induction hd with
  | refl => exact h
  | step _ ih => exact rdTx_up ih
theorem mono_rdTx : ∀ d : Nat, Mono (rdTx d)
  | 0 => fun _ _ _ _ _ h => h
  | d + 1 => fun G G' cs x hg ⟨a1, a2, h1, h2, h3, h4, h5⟩ => ⟨a1, a2, h1, h2, h3, h4.mono mono_rdAttr hg, h5.mono (mono_rdTx d) hg⟩
theorem mono_rdNE : Mono (rdNE) := fun G G' cs x hg ⟨d, h⟩ => ⟨d, mono_rdTx d G G' cs x hg h⟩
theorem rdNE_open {G : Ghost} {cs : List Value} {x : NT} (h : rdNE G cs x) : ∃ a1 a2, cs = [.int .u8 x.kind, .string (str x.tag), .string (str x.key), .slice a1 x.as.length x.as.length, .string (str x.text), .slice a2 x.kids.length x.kids.length] ∧
      inKind .u8 x.kind ∧ (x.tag.length ≤ 9223372036854775807 ∧ x.key.length ≤ 9223372036854775807 ∧ x.text.length ≤ 9223372036854775807) ∧
      RdSl rdAttr 2 G (.slice a1 x.as.length x.as.length) x.as ∧ RdSl (rdNE) 6 G (.slice a2 x.kids.length x.kids.length) x.kids := by
  obtain ⟨d, h⟩ := h
  cases d with
  | zero => exact h.elim
  | succ d =>
    obtain ⟨a1, a2, h1, h2, h3, h4, h5⟩ := h
    exact ⟨a1, a2, h1, h2, h3, h4, h5.imp fun _ _ h => ⟨d, h⟩⟩
theorem rdTxs_deep {G : Ghost} {v : Value} {xs : List NT} (S : RdSl (rdNE) 6 G v xs) : ∃ d, RdSl (rdTx d) 6 G v xs := by
  obtain ⟨a, c, h1, h2, h3, h4⟩ := S
  rcases h4 with h4 | ⟨b, o, h5, h6⟩
  · exact ⟨0, a, c, h1, h2, h3, Or.inl h4⟩
  · have key : ∀ n, ∃ d, ∀ i x, i < n → xs[i]? = some x → ∃ cs : List Value, cs.length = 6 ∧ (∀ u ∈ cs, u.oneCell' = true) ∧ At G b (o + i * 6) cs ∧ rdTx d G cs x := by
      intro n
      induction n with
      | zero => exact ⟨0, fun i x h => by omega⟩
      | succ n ih =>
        obtain ⟨d, hd⟩ := ih
        cases hx : xs[n]? with
        | none =>
          refine ⟨d, fun i x hi hi2 => ?_⟩
          rcases Nat.lt_or_ge i n with h | h
          · exact hd i x h hi2
          · have : i = n := by omega
            subst this; rw [hx] at hi2; cases hi2
        | some y =>
          obtain ⟨cs, q1, q2, q3, e, q4⟩ := h6 n y hx
          refine ⟨max d e, fun i x hi hi2 => ?_⟩
          rcases Nat.lt_or_ge i n with h | h
          · obtain ⟨cs', r1, r2, r3, r4⟩ := hd i x h hi2
            exact ⟨cs', r1, r2, r3, rdTx_le r4 (by omega)⟩
          · have : i = n := by omega
            subst this
            rw [hx] at hi2
            simp only [Option.some.injEq] at hi2
            subst hi2
            exact ⟨cs, q1, q2, q3, rdTx_le q4 (by omega)⟩
    obtain ⟨d, hd⟩ := key xs.length
    refine ⟨d, a, c, h1, h2, h3, Or.inr ⟨b, o, h5, fun i x hx => hd i x ?_ hx⟩⟩
    rcases Nat.lt_or_ge i xs.length with h | h
    · exact h
    · rw [List.getElem?_eq_none h] at hx; cases hx
theorem rdNE_close {G : Ghost} {a1 a2 : Option Addr} {x : NT} (h2 : inKind .u8 x.kind) (h3 : x.tag.length ≤ 9223372036854775807 ∧ x.key.length ≤ 9223372036854775807 ∧ x.text.length ≤ 9223372036854775807)
    (h4 : RdSl rdAttr 2 G (.slice a1 x.as.length x.as.length) x.as) (h5 : RdSl (rdNE) 6 G (.slice a2 x.kids.length x.kids.length) x.kids) :
    rdNE G [.int .u8 x.kind, .string (str x.tag), .string (str x.key), .slice a1 x.as.length x.as.length, .string (str x.text), .slice a2 x.kids.length x.kids.length] x := by
  obtain ⟨d, h5⟩ := rdTxs_deep h5
  exact ⟨d + 1, a1, a2, rfl, h2, h3, h4, h5⟩
theorem rdTx_weak : ∀ {d : Nat} {G : Ghost} {cs : List Value} {x : NT}, rdTx d G cs x → rdTr rdAttr 2 d G cs x
  | 0, _, _, _, h => h.elim
  | d + 1, _, _, _, ⟨a1, a2, h1, h2, h3, h4, h5⟩ => ⟨a1, _, a2, _, h1, h2, h3, h4, h5.imp fun _ _ h => rdTx_weak h⟩
theorem weakN {G : Ghost} {v : Value} {xs : List NT} (h : RdSl rdNE 6 G v xs) : RdSl rdN 6 G v xs := h.imp fun _ _ ⟨d, h⟩ => ⟨d, rdTx_weak h⟩
theorem mattrs_spec {w0 w : World} {G : Ghost} {L : List Res} (M : Mem w0 G L w) {x : ItemD} {ma : Option Addr} {mc : Nat} (ht : x.text.length ≤ 9223372036854775807) (SM : RdSl rdStr 1 G (.slice ma x.marks.length mc) x.marks) (hik : inKind .u64 x.key) {ad : Option Addr} {cd : Nat} {xs : List SlotD} (S : RdSl rdSlot 3 G (.slice ad xs.length cd) xs) (hxs : xs.length ≤ 8) (hsrc : ∀ s ∈ xs, s.src ≤ 3) : Calls Tryz.prog 112 #[.agg #[.int .u64 (x.key), .int .u8 (x.typ), .string (str (x.text)), .slice (ma) (x.marks.length) (mc)], .slice ad xs.length cd] w (Ret w0 G L fun G' v => ∃ a', v = .slice a' ((xs).map (attrF x)).length ((xs).map (attrF x)).length ∧ RdSl rdAttr 2 G' (.slice a' ((xs).map (attrF x)).length ((xs).map (attrF x)).length) ((xs).map (attrF x))) := by
  refine calls_start (vs := [_, _]) Tryz.func112 rfl (n := 45) rfl rfl ?_
  intro a F
  refine wp_seq <| w_reg <| rl_box F M rfl (cs := [.int .u64 (x.key), .int .u8 (x.typ), .string (str (x.text)), .slice (ma) (x.marks.length) (mc)]) rfl rfl ?_; clear F M a; intro b1 w a M F
  refine rl_run F (run_assign (F.ev rfl)) rfl ?_; clear F a; intro a F
  refine rl_nil <| q_tn <| wp_seq <| w_reg <| rl_run F (run_move (F.ev rfl)) rfl ?_; clear F a; intro a F
  refine rl_run F (run_lenSl tok43.k (F.ev rfl)) rfl ?_; clear F a; intro a F
  refine rl_makeE (rd := rdAttr) (Z := ⟨[], []⟩) F M tok27.k tok87 rfl (by decide) rfl rfl (l := xs.length) (by omega) rfl (by omega) (by show 32 * _ ≤ _; omega) (by omega) (by simp [ti87, Value.cells, Value.oneCell']) (⟨rfl, Nat.zero_le _, Nat.zero_le _⟩) rfl ?_; clear F M a; intro bv2 csv2 w a M Ev2 F
  refine rl_run F (run_assign (F.ev rfl)) rfl ?_; clear F a; intro a F
  refine rl_nil <| q_tn ?_
  iterate 2 (refine wp_seq ?_)
  have bM := SM.bound
  have hik' : 0 ≤ x.key ∧ x.key ≤ 18446744073709551615 := hik
  refine w_reg <| rl_run F (run_move (F.ev rfl)) rfl ?_; clear F a; intro a F
  refine rl_run F (run_lenSl tok43.k (F.ev rfl)) rfl ?_; clear F a; intro a F
  refine rl_run F (run_move (F.ev rfl)) rfl ?_; clear F a; intro a F
  refine rl_nil <| q_tn <| wp_block <| w_loopN (fun m a' w' => ∃ (i : Nat), ∃ (cso : List Value), ∃ (ys : List AttrD), m = xs.length - i ∧ Fits 45 a' [(1, .slice (ad) (xs.length) (cd)), (2, .pointer (some ⟨b1, 0, none⟩)), (5, .slice (some ⟨bv2, 0, none⟩) (xs.length) (xs.length)), (11, .slice (ad) (xs.length) (cd)), (12, .int .i64 (((xs.length : Nat) : Int))), (13, .int .i64 (((i : Nat) : Int)))] ∧ Mem w0 G (.row (.slice (some ⟨bv2, 0, none⟩) (xs.length) (xs.length)) (xs.length) (cso) 87 2 :: .blk b1 [.int .u64 (x.key), .int .u8 (x.typ), .string (str (x.text)), .slice (ma) (x.marks.length) (mc)] 102 :: L) w' ∧ (i ≤ xs.length) ∧ (ys = (xs.take i).map (attrF x) ++ List.replicate (xs.length - i) ⟨[], []⟩) ∧ (Els rdAttr 2 G cso ys)) _ ⟨0, csv2, _, rfl, F.to ⟨rfl, rfl, rfl, rfl, rfl, rfl, trivial⟩, M, Nat.zero_le _, by simp, Ev2⟩ ?_
  clear F M
  rintro m a w ⟨i, cso, ys, rfl, F, M, hi, hys, Eo⟩
  refine wp_seq <| w_reg <| rl_run F (run_lss (F.ev rfl) (F.ev rfl)) rfl ?_; clear F a; intro a F
  refine rl_nil <| q_tn <| wp_seq <| w_cond F rfl ?_ ?_
  · intro hc
    have h3b := hc; clear hc
    have h3 : ((i : Nat) : Int) < ((xs.length : Nat) : Int) := of_decide_eq_true h3b
    refine wp_skip <| q_tn <| wp_seq <| wp_block <| wp_seq <| w_reg <| rl_run F (run_move (F.ev rfl)) rfl ?_; clear F a; intro a F
    obtain ⟨Xe4, hXe4⟩ := get_of_lt (xs := xs) (i := i) (by omega)
    obtain ⟨be4, oe4, _, Ie4, _, Ae4, ⟨rfl, hn1e4, hk1e4, hv1e4⟩⟩ := S.at hXe4
    refine rl_run F (run_indexI tok43.k tok76 (F.ev rfl) (F.ev rfl) (by omega) Ie4) rfl ?_; clear F a; intro a F
    refine rl_run F (run_loadA tok76 rfl (F.ev rfl) (cs := [.string (str (Xe4.n)), .int .u8 (Xe4.src), .string (str (Xe4.v))]) rfl (M.cellsA Ae4 0 (by omega) rfl)) rfl ?_; clear F a; intro a F
    refine rl_alloc F M tok76 rfl rfl ?_; clear F M a; intro b5 w a M F
    refine rl_run F (run_assign (F.ev rfl)) rfl ?_; clear F a; intro a F
    refine rl_storeA F M tok76 (k := 0) rfl rfl rfl (us := [.string (str (Xe4.n)), .int .u8 (Xe4.src), .string (str (Xe4.v))]) rfl rfl (by simp [Value.oneCell']) (by simp) ?_; clear F M a; intro w a M F
    change Mem w0 G (.blk b5 [.string (str (Xe4.n)), .int .u8 (Xe4.src), .string (str (Xe4.v))] 76 :: .row (.slice (some ⟨bv2, 0, none⟩) (xs.length) (xs.length)) (xs.length) (cso) 87 2 :: .blk b1 [.int .u64 (x.key), .int .u8 (x.typ), .string (str (x.text)), .slice (ma) (x.marks.length) (mc)] 102 :: L) _ at M
    refine rl_nil <| q_tn ?_
    have hyl : ys.length = xs.length := by rw [hys]; simp; omega
    refine w_plan2 [(.free, 0), (.free, 1), (.free, 2), (.pure, 3), (.free, 4), (.pure, 5), (.free, 6), (.free, 7), (.pure, 8), (.free, 9), (.free, 10), (.pure, 11), (.free, 13), (.free, 14), (.pure, 15), (.pure, 16), (.free, 17), (.free, 20), (.pure, 21), (.keep, 12), (.keep, 18), (.free, 19), (.free, 22), (.free, 23), (.free, 24), (.keep, 25)] [] (Keep G [.blk b5 [.string (str (Xe4.n)), .int .u8 (Xe4.src), .string (str (Xe4.v))] 76, .blk b1 [.int .u64 (x.key), .int .u8 (x.typ), .string (str (x.text)), .slice (ma) (x.marks.length) (mc)] 102]) rfl (by kernel_rfl) (fun c a d v w h => by cases d <;> exact h) ((M.drew _).keep (Gle.refl _) (by simp)) ?_
    replace M := M.drew (w.drawn + 1)
    iterate 2 (refine pk_free F (fun w _ => run_move (F.ev rfl)) rfl ?_; clear F a; intro a F)
    refine pk_free F (fun w _ => run_fieldAddr tok76.k rfl rfl (F.ev rfl)) rfl ?_; clear F a; intro a F
    refine pk_pure F (fun w M => run_load1 (agf tok9 rfl) (F.ev rfl) (M.cellL (k := 0) rfl rfl)) rfl ?_; clear F a; intro a F
    refine pk_free F (fun w _ => run_fieldAddr tok76.k rfl rfl (F.ev rfl)) rfl ?_; clear F a; intro a F
    refine pk_pure F (fun w M => run_load1 (agf tok9 rfl) (F.ev rfl) (M.cellL (k := 0) rfl rfl)) rfl ?_; clear F a; intro a F
    refine pk_free F (fun w _ => run_fieldAddr tok102.k rfl rfl (F.ev rfl)) rfl ?_; clear F a; intro a F
    refine pk_free F (fun w _ => run_fieldAddr tok51.k rfl rfl (F.ev rfl)) rfl ?_; clear F a; intro a F
    refine pk_pure F (fun w M => run_load1 (agf tok9 rfl) (F.ev rfl) (M.cellL (k := 1) rfl rfl)) rfl ?_; clear F a; intro a F
    refine pk_free F (fun w _ => run_fieldAddr tok102.k rfl rfl (F.ev rfl)) rfl ?_; clear F a; intro a F
    refine pk_free F (fun w _ => run_fieldAddr tok51.k rfl rfl (F.ev rfl)) rfl ?_; clear F a; intro a F
    refine pk_pure F (fun w M => run_load1 (agf tok48 rfl) (F.ev rfl) (M.cellL (k := 1) rfl rfl)) rfl ?_; clear F a; intro a F
    refine pk_free F (fun w _ => run_fieldAddr tok102.k rfl rfl (F.ev rfl)) rfl ?_; clear F a; intro a F
    refine pk_free F (fun w _ => run_fieldAddr tok51.k rfl rfl (F.ev rfl)) rfl ?_; clear F a; intro a F
    refine pk_pure F (fun w M => run_load1 (agf tok49 rfl) (F.ev rfl) (M.cellL (k := 1) rfl rfl)) rfl ?_; clear F a; intro a F
    refine pk_pure F (fun w M => run_lenSl tok49.k (F.ev rfl)) rfl ?_; clear F a; intro a F
    refine pk_free F (fun w _ => run_conv_int tok48.k ⟨_, by rw [under_int tok3.k]⟩ (F.ev rfl) (in_u64 (by omega) (by omega))) rfl ?_; clear F a; intro a F
    refine pk_free F (fun w _ => run_fieldAddr tok76.k rfl rfl (F.ev rfl)) rfl ?_; clear F a; intro a F
    refine pk_pure F (fun w M => run_load1 (agf tok5 rfl) (F.ev rfl) (M.cellL (k := 0) rfl rfl)) rfl ?_; clear F a; intro a F
    refine pk_keep ?_ rfl
    have hu7 : (x.key : Int) = (((x.key).toNat : Nat) : Int) := by omega
    rw [hu7] at F
    refine rl_callS F ent91 rfl rfl (deci_spec (u := (x.key).toNat) M (by omega)) ?_; clear F M a; rintro _ w a M rfl F
    refine rl_nil <| ⟨Keep G [.blk b5 [.string (str (Xe4.n)), .int .u8 (Xe4.src), .string (str (Xe4.v))] 76, .blk b1 [.int .u64 (x.key), .int .u8 (x.typ), .string (str (x.text)), .slice (ma) (x.marks.length) (mc)] 102], M.keep (Gle.refl _) (by simp), fun w h => h.mono (Gle.refl _) (by simp), ?_⟩
    refine pk_keep ?_ rfl
    refine rl_callS F ent91 rfl rfl (deci_spec (u := x.marks.length) M (by omega)) ?_; clear F M a; rintro _ w a M rfl F
    refine rl_nil <| ⟨Keep G [.blk b5 [.string (str (Xe4.n)), .int .u8 (Xe4.src), .string (str (Xe4.v))] 76, .blk b1 [.int .u64 (x.key), .int .u8 (x.typ), .string (str (x.text)), .slice (ma) (x.marks.length) (mc)] 102], M.keep (Gle.refl _) (by simp), fun w h => h.mono (Gle.refl _) (by simp), ?_⟩
    refine pk_free F (fun w _ => run_buildA F (ps := [(0, .string (str (Xe4.v))), (1, .string (str (x.text))), (2, .string (str (Lib.decDigits ((x.key).toNat)))), (3, .string (str (Lib.decDigits x.marks.length)))]) (cs := [.string (str (Xe4.v)), .string (str (x.text)), .string (str (Lib.decDigits ((x.key).toNat))), .string (str (Lib.decDigits x.marks.length))]) tok159.k tok159 tok9 rfl rfl) rfl ?_; clear F a; intro a F
    have hsr := hsrc Xe4 (List.mem_of_getElem? hXe4)
    have hu4 := u8_b hk1e4
    refine pk_free F (fun w _ => run_idxArr (j := Xe4.src.toNat) (v := .string (str (attrV x Xe4))) tok159.k tok9 rfl rfl (F.ev rfl) (F.ev rfl) (by omega) (by omega) (pick4 hu4.1 hsr)) rfl ?_; clear F a; intro a F
    refine pk_free F (fun w _ => run_buildS (cs := [.string (str (Xe4.n)), .string (str (attrV x Xe4))]) (ps := [(0, .string (str (Xe4.n))), (1, .string (str (attrV x Xe4)))]) tok87.k rfl tok87 (F.evp rfl) rfl) rfl ?_; clear F a; intro a F
    obtain ⟨Xe8, hXe8⟩ := get_of_lt (xs := ys) (i := i) (by omega)
    obtain ⟨be8, _, Ie8, hme8, _, Ae8, ⟨rfl, hn1e8, hv1e8⟩⟩ := M.atRow (k := 1) rfl (by decide) Eo hXe8
    refine pk_free F (fun w _ => run_indexI tok27.k tok87 (F.ev rfl) (F.ev rfl) (by omega) Ie8) rfl ?_; clear F a; intro a F
    refine pk_keep ?_ rfl
    refine rl_storeEl F M tok87 (k := 1) rfl rfl Eo Ie8 (lt_of_get hXe8) rfl rfl (us := [.string (str (Xe4.n)), .string (str (attrV x Xe4))]) rfl rfl (by simp [Value.oneCell']) (X' := attrF x Xe4) (⟨rfl, hn1e4, attrV_len ht hik (by have := SM.bound; omega) Xe4 hv1e4⟩) ?_; clear F M a; intro csu9 w a M Eu9 F
    refine rl_nil <| ⟨Keep G [.blk b5 [.string (str (Xe4.n)), .int .u8 (Xe4.src), .string (str (Xe4.v))] 76, .blk b1 [.int .u64 (x.key), .int .u8 (x.typ), .string (str (x.text)), .slice (ma) (x.marks.length) (mc)] 102], M.keep (Gle.refl _) (by simp), fun w h => h.mono (Gle.refl _) (by simp), ?_⟩
    refine pk_nil <| q_bn <| q_tn <| w_reg <| rl_run F (run_addi (F.ev rfl) (F.ev rfl) (in_i64 (by omega) (by omega))) rfl ?_; clear F a; intro a F
    refine rl_run F (run_move (F.ev rfl)) rfl ?_; clear F a; intro a F
    refine rl_nil <| q_tn ?_
    exact ⟨_, by omega, i + 1, csu9, _, rfl, F.to ⟨rfl, rfl, rfl, rfl, rfl, rfl, trivial⟩, (M.weaken (.cons _ (.cons_cons _ (.cons_cons _ (List.Sublist.refl _))))), by omega, by rw [hys]; exact attrs_step hXe4, Eu9⟩
  · intro hc
    have h10b := hc; clear hc
    have h10 : ¬ (((i : Nat) : Int) < ((xs.length : Nat) : Int)) := of_decide_eq_false h10b
    refine wp_exit ?_
    iterate 2 (refine q_te ?_)
    refine q_bh <| q_tn <| wp_seq <| w_reg <| rl_run F (run_move (F.ev rfl)) rfl ?_; clear F a; intro a F
    refine rl_run F (run_assign (F.ev rfl)) rfl ?_; clear F a; intro a F
    refine rl_nil <| q_tn <| wp_ret <| fin1 F rfl rfl ?_
    rw [List.take_of_length_le (by omega), show xs.length - i = 0 by omega, List.replicate_zero, List.append_nil] at hys
    rw [hys] at Eo
    obtain ⟨hnz11, Gz11, az11, cz11, hGz11, hez11, Sz11, M⟩ := M.freeze_row mono_rdAttr (k := 0) rfl Eo (by decide)
    clear hez11 az11 cz11
    have hlm : ((xs).map (attrF x)).length = xs.length := by simp
    exact ⟨Gz11, hGz11, M.weaken (.cons _ (List.Sublist.refl _)), _, by rw [hlm], by have h_ := Sz11; rw [hnz11] at h_; exact h_⟩
theorem mwords_spec {w0 w : World} {G : Ghost} {L : List Res} (M : Mem w0 G L w) {s : List UInt8} : Calls Tryz.prog 90 #[.string (str s)] w (RetS w0 G L fun v => v = .agg #[.int .u8 2, .string (str []), .string (str []), .slice none 0 0, .string (str s), .slice none 0 0]) := by
  refine calls_start (vs := [_]) Tryz.func90 rfl (n := 5) rfl rfl ?_
  intro a F
  refine wp_seq <| w_reg <| rl_alloc F M tok30 rfl rfl ?_; clear F M a; intro b1 w a M F
  refine rl_nil <| q_tn <| wp_seq <| w_reg <| rl_run F (run_move (F.ev rfl)) rfl ?_; clear F a; intro a F
  refine rl_run F (run_buildS (cs := [.int .u8 (2), .string (str ([] : List UInt8)), .string (str ([] : List UInt8)), .slice none (0) (0), .string (str (s)), .slice none (0) (0)]) (ps := [(0, .int .u8 (2)), (4, .string (str (s)))]) tok30.k rfl tok30 (F.evp rfl) rfl) rfl ?_; clear F a; intro a F
  refine rl_storeA F M tok30 (k := 0) rfl rfl rfl (us := [.int .u8 (2), .string (str ([] : List UInt8)), .string (str ([] : List UInt8)), .slice none (0) (0), .string (str (s)), .slice none (0) (0)]) rfl rfl (by simp [Value.oneCell']) (by simp) ?_; clear F M a; intro w a M F
  change Mem w0 G (.blk b1 [.int .u8 (2), .string (str ([] : List UInt8)), .string (str ([] : List UInt8)), .slice none (0) (0), .string (str (s)), .slice none (0) (0)] 30 :: L) _ at M
  refine rl_nil <| q_tn <| wp_ret <| fin_c F M (k := 0) rfl rfl tok30 rfl rfl rfl ?_
  exact ⟨M.weaken (.cons _ (List.Sublist.refl _)), rfl⟩
theorem clipn_spec {w0 w : World} {G : Ghost} {L : List Res} (M : Mem w0 G L w) {kad : Option Addr} {kcd : Nat} {ks : List NT} (S : RdSl rdNE 6 G (.slice kad ks.length kcd) ks) : Calls Tryz.prog 113 #[.slice kad ks.length kcd] w (RetS w0 G L fun v => v = .slice kad ks.length ks.length) := by
  have bS := S.bound
  refine calls_start (vs := [_]) Tryz.func113 rfl (n := 9) rfl rfl ?_
  intro a F
  refine wp_seq <| w_reg <| rl_run F (run_assign (F.ev rfl)) rfl ?_; clear F a; intro a F
  refine rl_nil <| q_tn <| wp_seq <| w_reg ?_
  iterate 2 (refine rl_run F (run_move (F.ev rfl)) rfl ?_; clear F a; intro a F)
  refine rl_run F (run_lenSl tok28.k (F.ev rfl)) rfl ?_; clear F a; intro a F
  refine rl_run F (run_move (F.ev rfl)) rfl ?_; clear F a; intro a F
  refine rl_run F (run_lenSl tok28.k (F.ev rfl)) rfl ?_; clear F a; intro a F
  have sb1 := S.bound
  refine rl_run F (run_slice3 (h := ks.length) (q := ks.length) tok28.k tok30 (F.ev rfl) (F.ev rfl) (by omega) (F.ev rfl) (by omega) (by omega) (by omega)) rfl ?_; clear F a; intro a F
  have S2 := S.clip
  refine rl_run F (run_assign (F.ev rfl)) rfl ?_; clear F a; intro a F
  refine rl_nil <| q_tn <| wp_ret <| fin1 F rfl rfl ?_
  exact ⟨M, rfl⟩
theorem melem_spec {w0 w : World} {G : Ghost} {L : List Res} (M : Mem w0 G L w) {x : ItemD} {ma : Option Addr} {mc : Nat} (ht : x.text.length ≤ 9223372036854775807) (SM : RdSl rdStr 1 G (.slice ma x.marks.length mc) x.marks) (hik : inKind .u64 x.key) {p : PT} {tap : Option Addr} {tcp : Nat} {kap : Option Addr} {kcp : Nat} (hkp : inKind .u8 p.kind) (hlp : (p.tag.length ≤ 9223372036854775807 ∧ p.key.length ≤ 9223372036854775807 ∧ p.text.length ≤ 9223372036854775807)) (SAp : RdSl rdSlot 3 G (.slice tap p.as.length tcp) p.as) (SKp : RdSl rdP 6 G (.slice kap p.kids.length kcp) p.kids) (hso : SlotsOk p.as) {kk : List UInt8} {kad : Option Addr} {kcd : Nat} {ks : List NT} (S : RdSl rdNE 6 G (.slice kad ks.length kcd) ks) : Calls Tryz.prog 89 #[.agg #[.int .u64 (x.key), .int .u8 (x.typ), .string (str (x.text)), .slice (ma) (x.marks.length) (mc)], .agg #[.int .u8 (p.kind), .string (str (p.tag)), .string (str (p.key)), .slice (tap) (p.as.length) (tcp), .string (str (p.text)), .slice (kap) (p.kids.length) (kcp)], .string (str kk), .slice kad ks.length kcd] w (Ret w0 G L fun G' v => ∃ a', v = .agg #[.int .u8 1, .string (str p.tag), .string (str kk), .slice a' (p.as.map (attrF x)).length (p.as.map (attrF x)).length, .string (str []), .slice kad ks.length ks.length] ∧
      RdSl rdAttr 2 G' (.slice a' (p.as.map (attrF x)).length (p.as.map (attrF x)).length) (p.as.map (attrF x)) ∧ RdSl rdNE 6 G' (.slice kad ks.length ks.length) ks) := by
  refine calls_start (vs := [_, _, _, _]) Tryz.func89 rfl (n := 19) rfl rfl ?_
  intro a F
  refine wp_seq <| w_reg <| rl_box F M rfl (cs := [.int .u64 (x.key), .int .u8 (x.typ), .string (str (x.text)), .slice (ma) (x.marks.length) (mc)]) rfl rfl ?_; clear F M a; intro b1 w a M F
  refine rl_box F M rfl (cs := [.int .u8 (p.kind), .string (str (p.tag)), .string (str (p.key)), .slice (tap) (p.as.length) (tcp), .string (str (p.text)), .slice (kap) (p.kids.length) (kcp)]) rfl rfl ?_; clear F M a; intro b2 w a M F
  refine rl_alloc F M tok30 rfl rfl ?_; clear F M a; intro b3 w a M F
  refine rl_nil <| q_tn <| wp_seq <| w_plan2 [(.free, 0), (.pure, 1), (.free, 2), (.pure, 3), (.free, 4), (.pure, 5), (.free, 7), (.keep, 6), (.keep, 8), (.free, 9), (.keep, 10)] [] (Keep G [.blk b2 [.int .u8 (p.kind), .string (str (p.tag)), .string (str (p.key)), .slice (tap) (p.as.length) (tcp), .string (str (p.text)), .slice (kap) (p.kids.length) (kcp)] 46, .blk b1 [.int .u64 (x.key), .int .u8 (x.typ), .string (str (x.text)), .slice (ma) (x.marks.length) (mc)] 102]) rfl (by kernel_rfl) (fun c a d v w h => by cases d <;> exact h) ((M.drew _).keep (Gle.refl _) (by simp)) ?_
  replace M := M.drew (w.drawn + 1)
  refine pk_free F (fun w _ => run_fieldAddr tok46.k rfl rfl (F.ev rfl)) rfl ?_; clear F a; intro a F
  refine pk_pure F (fun w M => run_load1 (agf tok9 rfl) (F.ev rfl) (M.cellL (k := 0) rfl rfl)) rfl ?_; clear F a; intro a F
  refine pk_free F (fun w _ => run_move (F.ev rfl)) rfl ?_; clear F a; intro a F
  refine pk_pure F (fun w M => run_loadA tok102 rfl (F.ev rfl) (cs := [.int .u64 (x.key), .int .u8 (x.typ), .string (str (x.text)), .slice (ma) (x.marks.length) (mc)]) rfl (M.cellsL (k := 1) rfl rfl)) rfl ?_; clear F a; intro a F
  refine pk_free F (fun w _ => run_fieldAddr tok46.k rfl rfl (F.ev rfl)) rfl ?_; clear F a; intro a F
  refine pk_pure F (fun w M => run_load1 (agf tok43 rfl) (F.ev rfl) (M.cellL (k := 0) rfl rfl)) rfl ?_; clear F a; intro a F
  refine pk_free F (fun w _ => run_move (F.ev rfl)) rfl ?_; clear F a; intro a F
  refine pk_keep ?_ rfl
  refine rl_call F ent112 rfl rfl (mattrs_spec (x := x) (xs := p.as) M ht SM hik SAp hso.1 (fun s_ hs_ => slots_src hso hs_)) ?_; clear F M a; rintro _ Gt5 w a hGt5 M ⟨at5, rfl, St5⟩ F
  replace SAp := SAp.mono mono_rdSlot hGt5
  replace SKp := SKp.mono mono_rdP hGt5
  replace SM := SM.mono mono_rdStr hGt5
  replace S := S.mono mono_rdNE hGt5
  refine rl_nil <| ⟨Keep Gt5 [.blk b2 [.int .u8 (p.kind), .string (str (p.tag)), .string (str (p.key)), .slice (tap) (p.as.length) (tcp), .string (str (p.text)), .slice (kap) (p.kids.length) (kcp)] 46, .blk b1 [.int .u64 (x.key), .int .u8 (x.typ), .string (str (x.text)), .slice (ma) (x.marks.length) (mc)] 102], M.keep (Gle.refl _) (by simp), fun w h => h.mono hGt5 (by simp), ?_⟩
  refine pk_keep ?_ rfl
  refine rl_callS F ent113 rfl rfl (clipn_spec (ks := ks) M S) ?_; clear F M a; rintro _ w a M rfl F
  have S6 := S.clip
  refine rl_nil <| ⟨Keep Gt5 [.blk b2 [.int .u8 (p.kind), .string (str (p.tag)), .string (str (p.key)), .slice (tap) (p.as.length) (tcp), .string (str (p.text)), .slice (kap) (p.kids.length) (kcp)] 46, .blk b1 [.int .u64 (x.key), .int .u8 (x.typ), .string (str (x.text)), .slice (ma) (x.marks.length) (mc)] 102], M.keep (Gle.refl _) (by simp), fun w h => h.mono (Gle.refl _) (by simp), ?_⟩
  refine pk_free F (fun w _ => run_buildS (cs := [.int .u8 (1), .string (str (p.tag)), .string (str (kk)), .slice (at5) ((p.as.map (attrF x)).length) ((p.as.map (attrF x)).length), .string (str ([] : List UInt8)), .slice (kad) (ks.length) (ks.length)]) (ps := [(0, .int .u8 (1)), (1, .string (str (p.tag))), (2, .string (str (kk))), (3, .slice (at5) ((p.as.map (attrF x)).length) ((p.as.map (attrF x)).length)), (5, .slice (kad) (ks.length) (ks.length))]) tok30.k rfl tok30 (F.evp rfl) rfl) rfl ?_; clear F a; intro a F
  refine pk_keep ?_ rfl
  refine rl_storeA F M tok30 (k := 0) rfl rfl rfl (us := [.int .u8 (1), .string (str (p.tag)), .string (str (kk)), .slice (at5) ((p.as.map (attrF x)).length) ((p.as.map (attrF x)).length), .string (str ([] : List UInt8)), .slice (kad) (ks.length) (ks.length)]) rfl rfl (by simp [Value.oneCell']) (by simp) ?_; clear F M a; intro w a M F
  change Mem w0 Gt5 (.blk b3 [.int .u8 (1), .string (str (p.tag)), .string (str (kk)), .slice (at5) ((p.as.map (attrF x)).length) ((p.as.map (attrF x)).length), .string (str ([] : List UInt8)), .slice (kad) (ks.length) (ks.length)] 30 :: .blk b2 [.int .u8 (p.kind), .string (str (p.tag)), .string (str (p.key)), .slice (tap) (p.as.length) (tcp), .string (str (p.text)), .slice (kap) (p.kids.length) (kcp)] 46 :: .blk b1 [.int .u64 (x.key), .int .u8 (x.typ), .string (str (x.text)), .slice (ma) (x.marks.length) (mc)] 102 :: L) _ at M
  refine rl_nil <| ⟨Keep Gt5 [.blk b2 [.int .u8 (p.kind), .string (str (p.tag)), .string (str (p.key)), .slice (tap) (p.as.length) (tcp), .string (str (p.text)), .slice (kap) (p.kids.length) (kcp)] 46, .blk b1 [.int .u64 (x.key), .int .u8 (x.typ), .string (str (x.text)), .slice (ma) (x.marks.length) (mc)] 102], M.keep (Gle.refl _) (by simp), fun w h => h.mono (Gle.refl _) (by simp), ?_⟩
  refine pk_nil <| q_tn <| wp_ret <| fin_c F M (k := 0) rfl rfl tok30 rfl rfl rfl ?_
  exact ⟨_, hGt5, M.weaken (.cons _ (.cons _ (.cons _ (List.Sublist.refl _)))), _, rfl, St5, S6⟩
end Go.Proofs.YtlnehkjmmegkhaaGreat
