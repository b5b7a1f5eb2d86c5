/- The walks, part ND. -/
import Derived.Test.YtlnehkjmmegkhaaGreatWalkNC
namespace Go.Proofs.YtlnehkjmmegkhaaGreat
open Go Go.Y Go.Proofs
set_option linter.unusedSimpArgs false
set_option linter.unusedVariables false
theorem okWordsN {d : Nat} {t : List UInt8} (h : Str t) : Tr.Ok Alone (d + 1) (.mk 2 [] [] [] t [] : NT) := ⟨Or.inl ⟨rfl, h, rfl, rfl, rfl, rfl⟩, fun c hc => by cases hc⟩
theorem okElemN {d : Nat} {t k : List UInt8} {al : List AttrD} {ks : List NT} (h : Name t) (hk : k = [] ∨ Name k) (ha : AttrsOk al) (ha8 : al.length ≤ 8) (hl : ks.length ≤ 16) (hK : KeysOk ks) (hp : ∀ p ∈ ks, Tr.Ok Alone d p) : Tr.Ok Alone (d + 1) (.mk 1 t k al [] ks : NT) := ⟨Or.inr ⟨by show ¬ (1 : Int) = 2; decide, rfl, h, hk, rfl, ha8, hl, ha, hK⟩, hp⟩
theorem keysNil : KeysOk [] := fun i j a b h ha => by simp at ha
theorem keysAdd {l : List NT} {x : NT} (h : KeysOk l) (hx : x.key = [] ∨ ∀ a ∈ l, a.key ≠ x.key) : KeysOk (l ++ [x]) := by
 intro i j a b hij ha hb hne
 have hj := lt_of_get hb
 rw [List.length_append, List.length_singleton] at hj
 rw [List.getElem?_append_left (by omega)] at ha
 rcases Nat.lt_or_ge j l.length with h1 | h1
 ·rw [List.getElem?_append_left h1] at hb; exact h i j a b hij ha hb hne
 ·have : j = l.length := by omega
  subst this
  have hb2 : x = b := by simpa using hb
  subst hb2
  rcases hx with hx | hx
  ·exact absurd hx hne
  ·exact hx a (List.mem_of_getElem? ha)
theorem len_le_sizesN : ∀ l : List NT, l.length ≤ Tr.sizes l
 | [] => Nat.zero_le _
 | x :: l => by have := Tr.size_pos x; have := len_le_sizesN l; simp only [List.length_cons, Tr.sizes]; omega
structure NsInv (d q0 q : Nat) (ps : List NT) : Prop where
 sz : Tr.sizes ps + q0 ≤ q
 ok : ∀ p ∈ ps, Tr.Ok Alone (d + 1) p
 keys : KeysOk ps
 le : ps.length ≤ 16
theorem NsInv.zero {d q : Nat} : NsInv d q q [] := ⟨by simp [Tr.sizes], by simp, keysNil, by simp⟩
theorem NsInv.up {d q0 q : Nat} {ps : List NT} (h : NsInv d q0 q ps) : NsInv d q0 (q + 1) ps := ⟨by have := h.sz; omega, h.ok, h.keys, h.le⟩
theorem NsInv.add {d q0 q q' : Nat} {ps : List NT} (h : NsInv d q0 q ps) {p : NT} (hl : ¬ ps.length = 16) (hp : Tr.Ok Alone (d + 1) p) (hk : p.key = [] ∨ ∀ a ∈ ps, a.key ≠ p.key) (hs : p.size + q ≤ q') : NsInv d q0 q' (ps ++ [p]) :=
 ⟨by rw [Tr.sizes_append]; have := h.sz; simp only [Tr.sizes]; omega, fun c hc => by
  rcases List.mem_append.1 hc with hc | hc
  ·exact h.ok c hc
  ·rw [List.mem_singleton.1 hc]; exact hp, keysAdd h.keys hk, by rw [List.length_append, List.length_singleton]; have := h.le; omega⟩
theorem NsInv.one {d q0 q : Nat} {ps : List NT} (h : NsInv d q0 q ps) {p : NT} (hl : ¬ ps.length = 16) (hp : Tr.Ok Alone (d + 1) p) (hk : p.key = [] ∨ ∀ a ∈ ps, a.key ≠ p.key) (he : p.kids = []) : NsInv d q0 (q + 1) (ps ++ [p]) :=
 h.add hl hp hk (by rw [Tr.size_eq, he]; simp only [Tr.sizes]; omega)
theorem key_step {kk K : List UInt8} {ps : List NT} {j : Nat} {d : NT} (h : kk = [] ∨ (kk = K ∧ ∀ (m : Nat) (d : NT), m < j → ps[m]? = some d → ¬ d.key = K)) (hd : ps[j]? = some d) (hn : ¬ d.key = kk) : kk = [] ∨ (kk = K ∧ ∀ (m : Nat) (d : NT), m < j + 1 → ps[m]? = some d → ¬ d.key = K) := by
 rcases h with h | ⟨h1, h2⟩
 ·exact Or.inl h
 ·refine Or.inr ⟨h1, fun m e hm he => ?_⟩
  rcases Nat.eq_or_lt_of_le (show m ≤ j by omega) with h3 | h3
  ·subst h3; rw [hd] at he; cases he; rw [← h1]; exact hn
  ·exact h2 m e h3 he
theorem key_done {kk K : List UInt8} {ps : List NT} {j : Nat} (h : kk = [] ∨ (kk = K ∧ ∀ (m : Nat) (d : NT), m < j → ps[m]? = some d → ¬ d.key = K)) (hj : ps.length ≤ j) (hK : Name K) : kk = [] ∨ (Name kk ∧ ∀ a ∈ ps, a.key ≠ kk) := by
 rcases h with h | ⟨h1, h2⟩
 ·exact Or.inl h
 ·subst h1
  refine Or.inr ⟨hK, fun a ha => ?_⟩
  obtain ⟨m, hm⟩ := List.mem_iff_getElem?.1 ha
  exact h2 m a (by have := lt_of_get hm; omega) hm
theorem key_or {k : List UInt8} {p : Prop} (h : k = [] ∨ (Name k ∧ p)) : (k = [] ∨ Name k) ∧ (k = [] ∨ p) := by
 rcases h with h | ⟨h1, h2⟩
 ·exact ⟨Or.inl h, Or.inl h⟩
 ·exact ⟨Or.inr h1, Or.inr h2⟩
theorem key_len {k : List UInt8} {p : Prop} (h : k = [] ∨ (Name k ∧ p)) : k.length ≤ 16 := by
 rcases h with h | ⟨h1, _⟩
 ·subst h; simp
 ·exact h1.1.2
def BuildN (d : Nat) : Prop := ∀ (w0 w : World) (G : Ghost) (L : List Res) (ca : Option Addr) (cc : Nat) (cs : List UInt8) (q0 lv : Nat), Mem w0 G L w → RdSl rdB 1 G (.slice ca cs.length cc) cs → q0 ≤ 19 → lv + d = 5 →
  Calls Tryz.prog 55 #[.slice ca cs.length cc, .int .i64 (q0 : Int), .int .i64 (lv : Int)] w (Ret w0 G L fun G' v => ∃ a' c' ps q', v = .tuple #[.slice a' ps.length c', .int .i64 ((q' : Nat) : Int)] ∧ RdSl rdN 6 G' (.slice a' ps.length c') ps ∧ q' ≤ 19 ∧ q0 ≤ q' ∧ NsInv d q0 q' ps)
set_option maxHeartbeats 2000000 in
theorem buildN_step {d : Nat} (ih : ∀ e, d = e + 1 → BuildN e) {w0 w : World} {G : Ghost} {L : List Res} (M : Mem w0 G L w) {ca : Option Addr} {cc : Nat} {cs : List UInt8} (S : RdSl rdB 1 G (.slice ca cs.length cc) cs) {q0 lv : Nat} (hq0 : q0 ≤ 19) (hlv : lv + d = 5) : Calls Tryz.prog 55 #[.slice ca cs.length cc, .int .i64 (q0 : Int), .int .i64 (lv : Int)] w (Ret w0 G L fun G' v => ∃ a' c' ps q', v = .tuple #[.slice a' ps.length c', .int .i64 ((q' : Nat) : Int)] ∧ RdSl rdN 6 G' (.slice a' ps.length c') ps ∧ q' ≤ 19 ∧ q0 ≤ q' ∧ NsInv d q0 q' ps) := by
 refine calls_start (vs := [_, _, _]) Tryz.func55 rfl (n := 96) rfl rfl ?_
 intro a F
 refine wp_seq <| w_reg ?_
 iterate 2 (refine rl_run F (run_assign (F.ev rfl)) rfl ?_; clear F a; intro a F)
 refine rl_nil <| q_tn <| wp_seq ?_
 have bS := S.bound
 refine w_reg <| rl_run F (run_assign (F.ev rfl)) rfl ?_; clear F a; intro a F
 refine rl_nil <| q_tn <| wp_seq <| wp_block ?_
 have M := M.nilrow 30 6
 refine w_loopN (fun m a' w' => ∃ (q : Nat), ∃ (ps : List NT), ∃ (ay : Option Addr), ∃ (ny : Nat), ∃ (cy : Nat), ∃ (csy : List Value), m = 19 - q ∧ ∃ G1, Gle G G1 ∧ Fits 96 a' [(0, .slice (ca) (cs.length) (cc)), (2, .int .i64 (((lv : Nat) : Int))), (1, .int .i64 (((q : Nat) : Int))), (8, .slice (ay) (ny) (cy))] ∧ Mem w0 G1 (.row (.slice (ay) (ny) (cy)) (ny) (csy) 30 6 :: L) w' ∧ (q ≤ 19 ∧ q0 ≤ q) ∧ (NsInv d q0 q ps) ∧ (ny = (ps).length) ∧ (Els rdN 6 G1 csy (ps))) _ ⟨q0, [], (none), (0), (0), ([]), rfl, G, Gle.refl _, F.to ⟨rfl, rfl, rfl, rfl, trivial⟩, M, by omega, NsInv.zero, rfl, Els.nil⟩ ?_
 clear F M
 rintro m a w ⟨q, ps, ay, ny, cy, csy, rfl, G1, hG1, F, M, hq, hI, hny, Ey⟩
 replace S := S.mono mono_rdB hG1
 iterate 2 (refine wp_seq ?_)
 refine w_reg ?_
 iterate 2 (refine rl_run F (run_move (F.ev rfl)) rfl ?_; clear F a; intro a F)
 refine rl_run F (run_lenSl tok22.k (F.ev rfl)) rfl ?_; clear F a; intro a F
 refine rl_run F (run_lss (F.ev rfl) (F.ev rfl)) rfl ?_; clear F a; intro a F
 refine rl_run F (run_move (F.ev rfl)) rfl ?_; clear F a; intro a F
 rcases Bool.eq_false_or_eq_true (decide (((q : Nat) : Int) < ((cs.length : Nat) : Int))) with hc | hc
 ·skip
  have h2b := hc; clear hc
  have h2 : ((q : Nat) : Int) < ((cs.length : Nat) : Int) := of_decide_eq_true h2b
  refine rl_guard_t F rfl rfl rfl h2b ?_
  refine rl_run F (run_move (F.ev rfl)) rfl ?_; clear F a; intro a F
  refine rl_guard_t F rfl rfl rfl h2b ?_
  refine rl_run F (run_lss (F.ev rfl) (F.ev rfl)) rfl ?_; clear F a; intro a F
  refine rl_run F (run_pick_t (F.ev rfl) h2b (F.ev rfl)) rfl ?_; clear F a; intro a F
  refine rl_nil <| q_tn <| w_cond F rfl ?_ ?_
  ·intro hc
   have h3b := hc; clear hc
   have h3 : ((q : Nat) : Int) < 19 := of_decide_eq_true h3b
   refine wp_skip <| q_tn <| wp_block <| wp_seq ?_
   have hIl := hI.le
   refine w_reg ?_
   iterate 2 (refine rl_run F (run_move (F.ev rfl)) rfl ?_; clear F a; intro a F)
   obtain ⟨Xe4, hXe4⟩ := get_of_lt (xs := cs) (i := q) (by omega)
   obtain ⟨be4, oe4, _, Ie4, _, Ae4, rfl⟩ := S.at hXe4
   refine rl_run F (run_indexI tok22.k tok5 (F.ev rfl) (F.ev rfl) (by omega) Ie4) rfl ?_; clear F a; intro a F
   refine rl_run F (run_load1 (agf tok5 rfl) (F.ev rfl) (M.cellA Ae4 0 (by omega) rfl)) rfl ?_; clear F a; intro a F
   refine rl_run F (run_assign (F.ev rfl)) rfl ?_; clear F a; intro a F
   refine rl_nil <| q_tn <| wp_seq ?_
   have hnb9 : nb Xe4 = ((Xe4.toNat : Nat) : Int) := rfl
   have hnb8 := UInt8.toNat_lt Xe4
   refine w_reg <| rl_run F (run_move (F.ev rfl)) rfl ?_; clear F a; intro a F
   refine rl_run F (run_addi (F.ev rfl) (F.ev rfl) (in_i64 (by omega) (by omega))) rfl ?_; clear F a; intro a F
   refine rl_run F (run_assign (F.ev rfl)) rfl ?_; clear F a; intro a F
   refine rl_nil <| q_tn ?_
   iterate 2 (refine wp_seq ?_)
   refine w_reg <| rl_run F (run_move (F.ev rfl)) rfl ?_; clear F a; intro a F
   refine rl_run F (run_remi (F.ev rfl) (F.ev rfl) (by omega) (by omega)) rfl ?_; clear F a; intro a F
   refine rl_run F (run_eqi (F.ev rfl) (F.ev rfl)) rfl ?_; clear F a; intro a F
   refine rl_nil <| q_tn <| w_cond F rfl ?_ ?_
   ·intro hc
    have h5b := hc; clear hc
    have h5 : (nb Xe4) % 8 = 0 := of_decide_eq_true h5b
    refine wp_seq <| w_reg ?_
    iterate 2 (refine rl_run F (run_move (F.ev rfl)) rfl ?_; clear F a; intro a F)
    iterate 2 (refine rl_run F (run_assign (F.ev rfl)) rfl ?_; clear F a; intro a F)
    refine rl_nil <| q_tn <| wp_ret <| q_tr <| q_br <| q_tr <| q_br <| q_tr <| fin2 F rfl rfl rfl ?_
    obtain ⟨hnz6, Gz6, az6, cz6, hGz6, hez6, Sz6, M⟩ := M.freeze_row mono_rdN (k := 0) rfl Ey (by decide)
    clear hez6 az6 cz6
    exact ⟨Gz6, (hG1.trans hGz6), M.weaken (List.Sublist.refl _), _, _, ps, q + 1, by rw [hny] <;> rfl, by have h_ := Sz6; rw [hny] at h_; exact h_, by omega, by omega, hI.up⟩
   ·intro hc
    have h7b := hc; clear hc
    have h7 : ¬ ((nb Xe4) % 8 = 0) := of_decide_eq_false h7b
    refine wp_skip <| q_tn ?_
    iterate 2 (refine wp_seq ?_)
    refine w_reg <| rl_run F (run_move (F.ev rfl)) rfl ?_; clear F a; intro a F
    refine rl_run F (run_lenSl tok28.k (F.ev rfl)) rfl ?_; clear F a; intro a F
    refine rl_run F (run_eqi (F.ev rfl) (F.ev rfl)) rfl ?_; clear F a; intro a F
    refine rl_nil <| q_tn <| w_cond F rfl ?_ ?_
    ·intro hc
     have h8b := hc; clear hc
     have h8 : ((ny : Nat) : Int) = 16 := of_decide_eq_true h8b
     refine wp_exit <| q_te <| q_bh <| q_tn ?_
     exact ⟨_, by omega, (q + 1), (ps), (ay), (ny), (cy), (csy), rfl, G1, hG1, F.to ⟨rfl, rfl, rfl, rfl, trivial⟩, M, by omega, hI.up, hny, Ey⟩
    ·intro hc
     have h9b := hc; clear hc
     have h9 : ¬ (((ny : Nat) : Int) = 16) := of_decide_eq_false h9b
     refine wp_skip <| q_tn ?_
     iterate 2 (refine wp_seq ?_)
     refine w_reg <| rl_run F (run_move (F.ev rfl)) rfl ?_; clear F a; intro a F
     refine rl_run F (run_remi (F.ev rfl) (F.ev rfl) (by omega) (by omega)) rfl ?_; clear F a; intro a F
     refine rl_run F (run_lss (F.ev rfl) (F.ev rfl)) rfl ?_; clear F a; intro a F
     refine rl_nil <| q_tn <| w_cond F rfl ?_ ?_
     ·intro hc
      have h10b := hc; clear hc
      have h10 : (nb Xe4) % 8 < 3 := of_decide_eq_true h10b
      refine wp_seq <| w_reg <| rl_run F (run_move (F.ev rfl)) rfl ?_; clear F a; intro a F
      refine rl_buildSliceN F M tok49.k tok9 (ps := [(0, .string (str ([] : List UInt8))), (1, .string (str ([120] : List UInt8))), (2, .string (str ([104, 105, 32, 34, 121, 111, 117, 92] : List UInt8))), (3, .string (str ([48] : List UInt8)))]) (cs := [[.string (str ([] : List UInt8))], [.string (str ([120] : List UInt8))], [.string (str ([104, 105, 32, 34, 121, 111, 117, 92] : List UInt8))], [.string (str ([48] : List UInt8))]]) (fl := [.string (str ([] : List UInt8)), .string (str ([120] : List UInt8)), .string (str ([104, 105, 32, 34, 121, 111, 117, 92] : List UInt8)), .string (str ([48] : List UInt8))]) rfl rfl (by simp [Parts, Value.cells]) (by simp [ti9]) rfl (by simp [Value.oneCell']) (by decide) (by decide) rfl ?_; clear F M a; intro v11 w a M F
      obtain ⟨av11, cv11, rfl, hlev11, hcmv11, hlv11⟩ := M.row_shape (k := 0) rfl
      refine rl_run F (run_move (F.ev rfl)) rfl ?_; clear F a; intro a F
      refine rl_run F (run_quoi (F.ev rfl) (F.ev rfl) (by omega) (by omega) (in_u8 (by omega) (by omega))) rfl ?_; clear F a; intro a F
      refine rl_run F (run_remi (F.ev rfl) (F.ev rfl) (by omega) (by omega)) rfl ?_; clear F a; intro a F
      obtain ⟨Xe12, hXe12⟩ := get_of_lt (xs := nwdS) (i := (Xe4.toNat / 8) % 4) (by show _ < 4; omega)
      obtain ⟨be12, _, Ie12, hme12, _, Ae12, ⟨rfl, hsle12⟩⟩ := M.atRow (k := 0) rfl (by decide) nwdE hXe12
      refine rl_run F (run_indexI tok49.k tok9 (F.ev rfl) (F.ev rfl) (by omega) Ie12) rfl ?_; clear F a; intro a F
      refine rl_run F (run_load1 (agf tok9 rfl) (F.ev rfl) (cellE Ae12 0 (by omega) rfl)) rfl ?_; clear F a; intro a F
      refine rl_run F (run_buildS (cs := [.int .u8 (2), .string (str ([] : List UInt8)), .string (str ([] : List UInt8)), .slice none (0) (0), .string (str (Xe12)), .slice none (0) (0)]) (ps := [(0, .int .u8 (2)), (4, .string (str (Xe12)))]) tok30.k rfl tok30 (F.evp rfl) rfl) rfl ?_; clear F a; intro a F
      refine rl_buildSlice1 F M tok28.k tok30 rfl rfl (cs := [.int .u8 (2), .string (str ([] : List UInt8)), .string (str ([] : List UInt8)), .slice none (0) (0), .string (str (Xe12)), .slice none (0) (0)]) rfl rfl (by simp [Value.oneCell']) (by decide) rfl ?_; clear F M a; intro v13 w a M F
      obtain ⟨av13, cv13, rfl, hlev13, hcmv13, hlv13⟩ := M.row_shape (k := 0) rfl
      have E14 : Els rdN 6 G1 [.int .u8 (2), .string (str ([] : List UInt8)), .string (str ([] : List UInt8)), .slice none (0) (0), .string (str (Xe12)), .slice none (0) (0)] [(.mk 2 ([] : List UInt8) ([] : List UInt8) [] Xe12 [] : NT)] := Els.one (rdT_close (x := (.mk 2 ([] : List UInt8) ([] : List UInt8) [] Xe12 [] : NT)) ⟨by show (0 : Int) ≤ 2; decide, by show (2 : Int) ≤ 255; decide⟩ ⟨by first | exact Nat.zero_le _ | (show _ ≤ _; omega) | (simp only [Tr.tag]; omega), by first | exact Nat.zero_le _ | (simp only [Tr.key]; omega), by first | exact Nat.zero_le _ | (simp only [Tr.text]; omega)⟩ RdSl.nil RdSl.nil) rfl
      refine rl_append_row F M (k := 2) (k2 := 0) rfl rfl tok28.k tok30 rfl rfl (by decide) rfl rfl (by show _ * 104 ≤ _; (try simp only [List.length_drop, List.length_take, List.length_append, List.length_cons, List.length_nil]); omega) (by (try simp only [List.length_drop, List.length_take, List.length_append, List.length_cons, List.length_nil]); omega) rfl ?_; clear F M a; intro v15 w a M F
      have Ev15 := Els.append Ey E14
      obtain ⟨av15, cv15, rfl, hlev15, hcmv15, hlv15⟩ := M.row_shape (k := 2) rfl
      refine rl_run F (run_assign (F.ev rfl)) rfl ?_; clear F a; intro a F
      refine rl_nil <| q_tn <| wp_exit <| q_te <| q_bh <| q_tn ?_
      exact ⟨_, by omega, (q + 1), (ps ++ ([(.mk 2 ([] : List UInt8) ([] : List UInt8) [] Xe12 [] : NT)])), (av15), (ny + 1), (cv15), (csy ++ ([.int .u8 (2), .string (str ([] : List UInt8)), .string (str ([] : List UInt8)), .slice none (0) (0), .string (str (Xe12)), .slice none (0) (0)])), rfl, G1, hG1, F.to ⟨rfl, rfl, rfl, rfl, trivial⟩, (M.weaken (.cons _ (.cons _ (.cons_cons _ (List.Sublist.refl _))))), by omega, hI.one (by omega) (okWordsN (in_lit nwdS_ok hXe12)) (Or.inl rfl) rfl, by rw [List.length_append, ← hny]; rfl, Ev15⟩
     ·intro hc
      have h16b := hc; clear hc
      have h16 : ¬ ((nb Xe4) % 8 < 3) := of_decide_eq_false h16b
      refine wp_skip <| q_tn <| wp_seq <| w_reg <| rl_run F (run_move (F.ev rfl)) rfl ?_; clear F a; intro a F
      refine rl_run F (run_quoi (F.ev rfl) (F.ev rfl) (by omega) (by omega) (in_u8 (by omega) (by omega))) rfl ?_; clear F a; intro a F
      refine rl_callS F ent53 rfl rfl (ntag_spec (n := Xe4.toNat / 8) M (by omega)) ?_; clear F M a; rintro _ w a M ⟨tg17, rfl, htg17⟩ F
      have hltg17 := htg17.1.2
      refine rl_run F (run_move (F.ev rfl)) rfl ?_; clear F a; intro a F
      refine rl_run F (run_quoi (F.ev rfl) (F.ev rfl) (by omega) (by omega) (in_u8 (by omega) (by omega))) rfl ?_; clear F a; intro a F
      refine rl_call F ent54 rfl rfl (attrs_made (n := Xe4.toNat / 2) M (by omega)) ?_; clear F M a; rintro _ Gk18 w a hGk18 M ⟨ak18, ck18, ssk18, rfl, Sk18, hSk18, hS3k18⟩ F
      replace S := S.mono mono_rdB hGk18
      replace Ey := Ey.mono mono_rdN hGk18
      replace Ae4 := Ae4.mono hGk18
      refine rl_run F (run_buildS (cs := [.int .u8 (1), .string (str (tg17)), .string (str ([] : List UInt8)), .slice (ak18) (ssk18.length) (ck18), .string (str ([] : List UInt8)), .slice none (0) (0)]) (ps := [(0, .int .u8 (1)), (1, .string (str (tg17))), (3, .slice (ak18) (ssk18.length) (ck18))]) tok30.k rfl tok30 (F.evp rfl) rfl) rfl ?_; clear F a; intro a F
      refine rl_alloc F M tok30 rfl rfl ?_; clear F M a; intro b19 w a M F
      refine rl_storeA F M tok30 (k := 0) rfl rfl rfl (us := [.int .u8 (1), .string (str (tg17)), .string (str ([] : List UInt8)), .slice (ak18) (ssk18.length) (ck18), .string (str ([] : List UInt8)), .slice none (0) (0)]) rfl rfl (by simp [Value.oneCell']) (by simp) ?_; clear F M a; intro w a M F
      change Mem w0 Gk18 (.blk b19 [.int .u8 (1), .string (str (tg17)), .string (str ([] : List UInt8)), .slice (ak18) (ssk18.length) (ck18), .string (str ([] : List UInt8)), .slice none (0) (0)] 30 :: .row (.slice (ay) (ny) (cy)) (ny) (csy) 30 6 :: L) _ at M
      refine rl_nil <| q_tn ?_
      iterate 2 (refine wp_seq ?_)
      refine w_reg <| rl_run F (run_move (F.ev rfl)) rfl ?_; clear F a; intro a F
      refine rl_run F (run_remi (F.ev rfl) (F.ev rfl) (by omega) (by omega)) rfl ?_; clear F a; intro a F
      refine rl_run F (run_eqi (F.ev rfl) (F.ev rfl)) rfl ?_; clear F a; intro a F
      refine rl_nil <| q_tn <| w_cut (fun a' w' => ∃ (kk9 : List UInt8), Fits 96 a' [(0, .slice (ca) (cs.length) (cc)), (1, .int .i64 ((((q : Nat) : Int)) + 1)), (2, .int .i64 (((lv : Nat) : Int))), (8, .slice (ay) (ny) (cy)), (10, .pointer (some ⟨b19, 0, none⟩))] ∧ Mem w0 Gk18 (.blk b19 [.int .u8 (1), .string (str (tg17)), .string (str (kk9)), .slice (ak18) (ssk18.length) (ck18), .string (str ([] : List UInt8)), .slice none (0) (0)] 30 :: .row (.slice (ay) (ny) (cy)) (ny) (csy) 30 6 :: L) w' ∧ (kk9 = [] ∨ (Name kk9 ∧ ∀ a ∈ ps, a.key ≠ kk9))) ?_ ?_
      ·skip
       refine w_cond F rfl ?_ ?_
       ·intro hc
        have h21b := hc; clear hc
        have h21 : (nb Xe4) % 8 = 3 := of_decide_eq_true h21b
        refine wp_seq <| w_reg <| rl_buildSliceN F M tok49.k tok9 (ps := [(0, .string (str ([107, 48] : List UInt8))), (1, .string (str ([107, 49] : List UInt8))), (2, .string (str ([107, 50] : List UInt8))), (3, .string (str ([107, 51] : List UInt8)))]) (cs := [[.string (str ([107, 48] : List UInt8))], [.string (str ([107, 49] : List UInt8))], [.string (str ([107, 50] : List UInt8))], [.string (str ([107, 51] : List UInt8))]]) (fl := [.string (str ([107, 48] : List UInt8)), .string (str ([107, 49] : List UInt8)), .string (str ([107, 50] : List UInt8)), .string (str ([107, 51] : List UInt8))]) rfl rfl (by simp [Parts, Value.cells]) (by simp [ti9]) rfl (by simp [Value.oneCell']) (by decide) (by decide) rfl ?_; clear F M a; intro v22 w a M F
        obtain ⟨av22, cv22, rfl, hlev22, hcmv22, hlv22⟩ := M.row_shape (k := 0) rfl
        refine rl_run F (run_move (F.ev rfl)) rfl ?_; clear F a; intro a F
        refine rl_run F (run_quoi (F.ev rfl) (F.ev rfl) (by omega) (by omega) (in_u8 (by omega) (by omega))) rfl ?_; clear F a; intro a F
        refine rl_run F (run_remi (F.ev rfl) (F.ev rfl) (by omega) (by omega)) rfl ?_; clear F a; intro a F
        obtain ⟨Xe23, hXe23⟩ := get_of_lt (xs := nkyS) (i := (Xe4.toNat / 8) % 4) (by show _ < 4; omega)
        obtain ⟨be23, _, Ie23, hme23, _, Ae23, ⟨rfl, hsle23⟩⟩ := M.atRow (k := 0) rfl (by decide) nkyE hXe23
        refine rl_run F (run_indexI tok49.k tok9 (F.ev rfl) (F.ev rfl) (by omega) Ie23) rfl ?_; clear F a; intro a F
        refine rl_run F (run_load1 (agf tok9 rfl) (F.ev rfl) (cellE Ae23 0 (by omega) rfl)) rfl ?_; clear F a; intro a F
        refine rl_run F (run_fieldAddr tok30.k rfl rfl (F.ev rfl)) rfl ?_; clear F a; intro a F
        refine rl_store1 F M tok9 rfl (k := 1) rfl rfl rfl rfl rfl ?_; clear F M a; intro w a M F
        refine rl_nil <| q_tn <| wp_seq <| w_reg <| rl_run F (run_assign (F.ev rfl)) rfl ?_; clear F a; intro a F
        refine rl_nil <| q_tn <| wp_block <| w_loopN (fun m a' w' => ∃ (j : Nat), ∃ (kk : List UInt8), m = ps.length - j ∧ Fits 96 a' [(0, .slice (ca) (cs.length) (cc)), (1, .int .i64 ((((q : Nat) : Int)) + 1)), (2, .int .i64 (((lv : Nat) : Int))), (8, .slice (ay) (ny) (cy)), (10, .pointer (some ⟨b19, 0, none⟩)), (11, .int .i64 (((j : Nat) : Int)))] ∧ Mem w0 Gk18 (.row (.slice (av22) (4) (cv22)) (4) ([.string (str ([107, 48] : List UInt8)), .string (str ([107, 49] : List UInt8)), .string (str ([107, 50] : List UInt8)), .string (str ([107, 51] : List UInt8))]) 9 1 :: .blk b19 [.int .u8 (1), .string (str (tg17)), .string (str (kk)), .slice (ak18) (ssk18.length) (ck18), .string (str ([] : List UInt8)), .slice none (0) (0)] 30 :: .row (.slice (ay) (ny) (cy)) (ny) (csy) 30 6 :: L) w' ∧ (j ≤ ps.length) ∧ (kk = [] ∨ (kk = Xe23 ∧ ∀ (m : Nat) (d : NT), m < j → ps[m]? = some d → ¬ d.key = Xe23))) _ ⟨0, Xe23, rfl, F.to ⟨rfl, rfl, rfl, rfl, rfl, rfl, trivial⟩, M, Nat.zero_le _, Or.inr ⟨rfl, fun m d h => by omega⟩⟩ ?_
        clear F M
        rintro m a w ⟨j, kk, rfl, F, M, hj, hkk⟩
        iterate 2 (refine wp_seq ?_)
        refine w_reg ?_
        iterate 2 (refine rl_run F (run_move (F.ev rfl)) rfl ?_; clear F a; intro a F)
        refine rl_run F (run_lenSl tok28.k (F.ev rfl)) rfl ?_; clear F a; intro a F
        refine rl_run F (run_lss (F.ev rfl) (F.ev rfl)) rfl ?_; clear F a; intro a F
        refine rl_nil <| q_tn <| w_cond F rfl ?_ ?_
        ·intro hc
         have h24b := hc; clear hc
         have h24 : ((j : Nat) : Int) < ((ny : Nat) : Int) := of_decide_eq_true h24b
         refine wp_skip <| q_tn <| wp_seq <| wp_block <| wp_seq <| w_plan2 [(.free, 0), (.free, 1), (.free, 2), (.free, 3), (.pure, 4), (.free, 5), (.pure, 6), (.free, 7)] [] (Keep Gk18 [.row (.slice (av22) (4) (cv22)) (4) ([.string (str ([107, 48] : List UInt8)), .string (str ([107, 49] : List UInt8)), .string (str ([107, 50] : List UInt8)), .string (str ([107, 51] : List UInt8))]) 9 1, .blk b19 [.int .u8 (1), .string (str (tg17)), .string (str (kk)), .slice (ak18) (ssk18.length) (ck18), .string (str ([] : List UInt8)), .slice none (0) (0)] 30, .row (.slice (ay) (ny) (cy)) (ny) (csy) 30 6]) rfl (by kernel_rfl) (fun c a d v w h => by cases d <;> exact h) ((M.drew _).keep (Gle.refl _) (by simp)) ?_
         replace M := M.drew (w.drawn + 1)
         iterate 2 (refine pk_free F (fun w _ => run_move (F.ev rfl)) rfl ?_; clear F a; intro a F)
         obtain ⟨Xe25, hXe25⟩ := get_of_lt (xs := ps) (i := j) (by omega)
         obtain ⟨be25, _, Ie25, hme25, _, Ae25, hTe25⟩ := M.atRowK (k := 2) rfl (by decide) Ey (Lr := [.row (.slice (av22) (4) (cv22)) (4) ([.string (str ([107, 48] : List UInt8)), .string (str ([107, 49] : List UInt8)), .string (str ([107, 50] : List UInt8)), .string (str ([107, 51] : List UInt8))]) 9 1, .blk b19 [.int .u8 (1), .string (str (tg17)), .string (str (kk)), .slice (ak18) (ssk18.length) (ck18), .string (str ([] : List UInt8)), .slice none (0) (0)] 30, .row (.slice (ay) (ny) (cy)) (ny) (csy) 30 6]) (k' := 2) rfl hXe25
         obtain ⟨tae25, tce25, kae25, kce25, rfl, hke25, hle25, SAe25, SKe25⟩ := rdT_open hTe25
         refine pk_free F (fun w _ => run_indexI tok28.k tok30 (F.ev rfl) (F.ev rfl) (by omega) Ie25) rfl ?_; clear F a; intro a F
         refine pk_free F (fun w _ => run_fieldAddr tok30.k rfl rfl (F.ev rfl)) rfl ?_; clear F a; intro a F
         refine pk_pure F (fun w M => run_load1 (agf tok9 rfl) (F.ev rfl) (cellE (Ae25 w M) 2 rfl rfl)) rfl ?_; clear F a; intro a F
         refine pk_free F (fun w _ => run_fieldAddr tok30.k rfl rfl (F.ev rfl)) rfl ?_; clear F a; intro a F
         refine pk_pure F (fun w M => run_load1 (agf tok9 rfl) (F.ev rfl) (M.cellL (k := 1) rfl rfl)) rfl ?_; clear F a; intro a F
         refine pk_free F (fun w _ => run_strEq (F.ev rfl) (F.ev rfl)) rfl ?_; clear F a; intro a F
         refine pk_nil ?_
         generalize ({ w with drawn := w.drawn + 1 } : World) = w at M ⊢
         refine q_tn <| w_cond F rfl ?_ ?_
         ·intro hc
          have h26b := hc; clear hc
          have h26 : Xe25.key = kk := of_decide_eq_true h26b
          refine w_reg <| rl_run F (run_fieldAddr tok30.k rfl rfl (F.ev rfl)) rfl ?_; clear F a; intro a F
          refine rl_store1 F M tok9 rfl (k := 1) rfl rfl rfl rfl rfl ?_; clear F M a; intro w a M F
          refine rl_nil <| q_bn <| q_tn <| w_reg <| rl_run F (run_move (F.ev rfl)) rfl ?_; clear F a; intro a F
          refine rl_run F (run_addi (F.ev rfl) (F.ev rfl) (in_i64 (by omega) (by omega))) rfl ?_; clear F a; intro a F
          refine rl_run F (run_assign (F.ev rfl)) rfl ?_; clear F a; intro a F
          refine rl_nil <| q_tn ?_
          exact ⟨_, by omega, j + 1, ([] : List UInt8), rfl, F.to ⟨rfl, rfl, rfl, rfl, rfl, rfl, trivial⟩, M, by omega, Or.inl rfl⟩
         ·intro hc
          have h27b := hc; clear hc
          have h27 : ¬ (Xe25.key = kk) := of_decide_eq_false h27b
          refine wp_skip <| q_bn <| q_tn <| w_reg <| rl_run F (run_move (F.ev rfl)) rfl ?_; clear F a; intro a F
          refine rl_run F (run_addi (F.ev rfl) (F.ev rfl) (in_i64 (by omega) (by omega))) rfl ?_; clear F a; intro a F
          refine rl_run F (run_assign (F.ev rfl)) rfl ?_; clear F a; intro a F
          refine rl_nil <| q_tn ?_
          exact ⟨_, by omega, j + 1, kk, rfl, F.to ⟨rfl, rfl, rfl, rfl, rfl, rfl, trivial⟩, M, by omega, key_step hkk hXe25 (by assumption)⟩
        ·intro hc
         have h28b := hc; clear hc
         have h28 : ¬ (((j : Nat) : Int) < ((ny : Nat) : Int)) := of_decide_eq_false h28b
         refine wp_exit ?_
         iterate 2 (refine q_te ?_)
         refine q_bh ?_
         exact ⟨kk, F.to ⟨rfl, rfl, rfl, rfl, rfl, trivial⟩, (M.weaken (.cons _ (.cons_cons _ (.cons_cons _ (List.Sublist.refl _))))), key_done hkk (by omega) (in_lit nkyS_ok hXe23)⟩
       ·intro hc
        have h29b := hc; clear hc
        have h29 : ¬ ((nb Xe4) % 8 = 3) := of_decide_eq_false h29b
        refine wp_skip ?_
        exact ⟨([] : List UInt8), F.to ⟨rfl, rfl, rfl, rfl, rfl, trivial⟩, M, Or.inl rfl⟩
      ·clear F M
       rintro a w ⟨kk9, F, M, hkk9⟩
       refine q_tn ?_
       iterate 2 (refine wp_seq ?_)
       refine w_reg <| rl_run F (run_move (F.ev rfl)) rfl ?_; clear F a; intro a F
       refine rl_run F (run_lss (F.ev rfl) (F.ev rfl)) rfl ?_; clear F a; intro a F
       refine rl_nil <| q_tn <| w_cond F rfl ?_ ?_
       ·intro hc
        have h30b := hc; clear hc
        have h30 : ((lv : Nat) : Int) < 5 := of_decide_eq_true h30b
        obtain ⟨d2, rfl⟩ : ∃ d2, d = d2 + 1 := ⟨d - 1, by omega⟩
        refine w_reg ?_
        iterate 3 (refine rl_run F (run_move (F.ev rfl)) rfl ?_; clear F a; intro a F)
        refine rl_run F (run_addi (F.ev rfl) (F.ev rfl) (in_i64 (by omega) (by omega))) rfl ?_; clear F a; intro a F
        refine rl_call F ent55 rfl rfl (ih d2 rfl _ _ _ _ _ _ cs (q + 1) (lv + 1) M S (by omega) (by omega)) ?_; clear F M a; rintro _ Gk31 w a hGk31 M ⟨ak31, ck31, psk31, qk31, rfl, Sk31, hqk31, hrk31, hPk31⟩ F
        replace S := S.mono mono_rdB hGk31
        replace Ey := Ey.mono mono_rdN hGk31
        replace Ae4 := Ae4.mono hGk31
        replace Sk18 := Sk18.mono mono_rdAttr hGk31
        refine rl_run F (run_move (F.ev rfl)) rfl ?_; clear F a; intro a F
        refine rl_run F (run_extract (v := .slice (ak31) (psk31.length) (ck31)) (F.ev rfl) rfl) rfl ?_; clear F a; intro a F
        refine rl_run F (run_extract (v := .int .i64 (((qk31 : Nat) : Int))) (F.ev rfl) rfl) rfl ?_; clear F a; intro a F
        refine rl_run F (run_fieldAddr tok30.k rfl rfl (F.ev rfl)) rfl ?_; clear F a; intro a F
        refine rl_store1 F M tok28 rfl (k := 0) rfl rfl rfl rfl rfl ?_; clear F M a; intro w a M F
        refine rl_run F (run_assign (F.ev rfl)) rfl ?_; clear F a; intro a F
        refine rl_nil <| q_tn ?_
        have hkl9 := key_len hkk9
        have hIl := hI.le
        refine w_reg <| rl_run F (run_move (F.ev rfl)) rfl ?_; clear F a; intro a F
        refine rl_run F (run_loadA tok30 rfl (F.ev rfl) (cs := [.int .u8 (1), .string (str (tg17)), .string (str (kk9)), .slice (ak18) (ssk18.length) (ck18), .string (str ([] : List UInt8)), .slice (ak31) (psk31.length) (ck31)]) rfl (M.cellsL (k := 0) rfl rfl)) rfl ?_; clear F a; intro a F
        refine rl_buildSlice1 F M tok28.k tok30 rfl rfl (cs := [.int .u8 (1), .string (str (tg17)), .string (str (kk9)), .slice (ak18) (ssk18.length) (ck18), .string (str ([] : List UInt8)), .slice (ak31) (psk31.length) (ck31)]) rfl rfl (by simp [Value.oneCell']) (by decide) rfl ?_; clear F M a; intro v32 w a M F
        obtain ⟨av32, cv32, rfl, hlev32, hcmv32, hlv32⟩ := M.row_shape (k := 0) rfl
        have E33 : Els rdN 6 Gk31 [.int .u8 (1), .string (str (tg17)), .string (str (kk9)), .slice (ak18) (ssk18.length) (ck18), .string (str ([] : List UInt8)), .slice (ak31) (psk31.length) (ck31)] [(.mk 1 tg17 kk9 ssk18 ([] : List UInt8) psk31 : NT)] := Els.one (rdT_close (x := (.mk 1 tg17 kk9 ssk18 ([] : List UInt8) psk31 : NT)) ⟨by show (0 : Int) ≤ 1; decide, by show (1 : Int) ≤ 255; decide⟩ ⟨by first | exact Nat.zero_le _ | (show _ ≤ _; omega) | (simp only [Tr.tag]; omega), by first | exact Nat.zero_le _ | (simp only [Tr.key]; omega), by first | exact Nat.zero_le _ | (simp only [Tr.text]; omega)⟩ Sk18 Sk31) rfl
        refine rl_append_row F M (k := 2) (k2 := 0) rfl rfl tok28.k tok30 rfl rfl (by decide) rfl rfl (by show _ * 104 ≤ _; (try simp only [List.length_drop, List.length_take, List.length_append, List.length_cons, List.length_nil]); omega) (by (try simp only [List.length_drop, List.length_take, List.length_append, List.length_cons, List.length_nil]); omega) rfl ?_; clear F M a; intro v34 w a M F
        have Ev34 := Els.append Ey E33
        obtain ⟨av34, cv34, rfl, hlev34, hcmv34, hlv34⟩ := M.row_shape (k := 2) rfl
        refine rl_run F (run_assign (F.ev rfl)) rfl ?_; clear F a; intro a F
        refine rl_nil <| q_bn <| q_tn ?_
        exact ⟨_, by omega, (qk31), (ps ++ ([(.mk 1 tg17 kk9 ssk18 ([] : List UInt8) psk31 : NT)])), (av34), (ny + 1), (cv34), (csy ++ ([.int .u8 (1), .string (str (tg17)), .string (str (kk9)), .slice (ak18) (ssk18.length) (ck18), .string (str ([] : List UInt8)), .slice (ak31) (psk31.length) (ck31)])), rfl, Gk31, ((hG1.trans hGk18).trans hGk31), F.to ⟨rfl, rfl, rfl, rfl, trivial⟩, (M.weaken (.cons _ (.cons _ (.cons_cons _ (List.Sublist.refl _))))), by omega, hI.add (by omega) (okElemN (by assumption) (key_or hkk9).1 hSk18 (by have := hS3k18; omega) hPk31.le hPk31.keys hPk31.ok) (key_or hkk9).2 (by have := hPk31.sz; rw [Tr.size_eq]; simp only [Tr.kids]; omega), by rw [List.length_append, ← hny]; rfl, Ev34⟩
       ·intro hc
        have h35b := hc; clear hc
        have h35 : ¬ (((lv : Nat) : Int) < 5) := of_decide_eq_false h35b
        refine wp_skip <| q_tn ?_
        have hkl9 := key_len hkk9
        have hIl := hI.le
        refine w_reg <| rl_run F (run_move (F.ev rfl)) rfl ?_; clear F a; intro a F
        refine rl_run F (run_loadA tok30 rfl (F.ev rfl) (cs := [.int .u8 (1), .string (str (tg17)), .string (str (kk9)), .slice (ak18) (ssk18.length) (ck18), .string (str ([] : List UInt8)), .slice none (0) (0)]) rfl (M.cellsL (k := 0) rfl rfl)) rfl ?_; clear F a; intro a F
        refine rl_buildSlice1 F M tok28.k tok30 rfl rfl (cs := [.int .u8 (1), .string (str (tg17)), .string (str (kk9)), .slice (ak18) (ssk18.length) (ck18), .string (str ([] : List UInt8)), .slice none (0) (0)]) rfl rfl (by simp [Value.oneCell']) (by decide) rfl ?_; clear F M a; intro v36 w a M F
        obtain ⟨av36, cv36, rfl, hlev36, hcmv36, hlv36⟩ := M.row_shape (k := 0) rfl
        have E37 : Els rdN 6 Gk18 [.int .u8 (1), .string (str (tg17)), .string (str (kk9)), .slice (ak18) (ssk18.length) (ck18), .string (str ([] : List UInt8)), .slice none (0) (0)] [(.mk 1 tg17 kk9 ssk18 ([] : List UInt8) [] : NT)] := Els.one (rdT_close (x := (.mk 1 tg17 kk9 ssk18 ([] : List UInt8) [] : NT)) ⟨by show (0 : Int) ≤ 1; decide, by show (1 : Int) ≤ 255; decide⟩ ⟨by first | exact Nat.zero_le _ | (show _ ≤ _; omega) | (simp only [Tr.tag]; omega), by first | exact Nat.zero_le _ | (simp only [Tr.key]; omega), by first | exact Nat.zero_le _ | (simp only [Tr.text]; omega)⟩ Sk18 RdSl.nil) rfl
        refine rl_append_row F M (k := 2) (k2 := 0) rfl rfl tok28.k tok30 rfl rfl (by decide) rfl rfl (by show _ * 104 ≤ _; (try simp only [List.length_drop, List.length_take, List.length_append, List.length_cons, List.length_nil]); omega) (by (try simp only [List.length_drop, List.length_take, List.length_append, List.length_cons, List.length_nil]); omega) rfl ?_; clear F M a; intro v38 w a M F
        have Ev38 := Els.append Ey E37
        obtain ⟨av38, cv38, rfl, hlev38, hcmv38, hlv38⟩ := M.row_shape (k := 2) rfl
        refine rl_run F (run_assign (F.ev rfl)) rfl ?_; clear F a; intro a F
        refine rl_nil <| q_bn <| q_tn ?_
        exact ⟨_, by omega, (q + 1), (ps ++ ([(.mk 1 tg17 kk9 ssk18 ([] : List UInt8) [] : NT)])), (av38), (ny + 1), (cv38), (csy ++ ([.int .u8 (1), .string (str (tg17)), .string (str (kk9)), .slice (ak18) (ssk18.length) (ck18), .string (str ([] : List UInt8)), .slice none (0) (0)])), rfl, Gk18, (hG1.trans hGk18), F.to ⟨rfl, rfl, rfl, rfl, trivial⟩, (M.weaken (.cons _ (.cons _ (.cons_cons _ (List.Sublist.refl _))))), by omega, hI.one (by omega) (okElemN (by assumption) (key_or hkk9).1 hSk18 (by have := hS3k18; omega) (by simp) keysNil (by simp)) (key_or hkk9).2 rfl, by rw [List.length_append, ← hny]; rfl, Ev38⟩
  ·intro hc
   have h39b := hc; clear hc
   have h39 : ¬ (((q : Nat) : Int) < 19) := of_decide_eq_false h39b
   refine wp_exit ?_
   iterate 2 (refine q_te ?_)
   refine q_bh <| q_tn <| wp_seq <| w_reg ?_
   iterate 2 (refine rl_run F (run_move (F.ev rfl)) rfl ?_; clear F a; intro a F)
   iterate 2 (refine rl_run F (run_assign (F.ev rfl)) rfl ?_; clear F a; intro a F)
   refine rl_nil <| q_tn <| wp_ret <| fin2 F rfl rfl rfl ?_
   obtain ⟨hnz40, Gz40, az40, cz40, hGz40, hez40, Sz40, M⟩ := M.freeze_row mono_rdN (k := 0) rfl Ey (by decide)
   clear hez40 az40 cz40
   exact ⟨Gz40, (hG1.trans hGz40), M.weaken (List.Sublist.refl _), _, _, ps, q, by rw [hny] <;> rfl, by have h_ := Sz40; rw [hny] at h_; exact h_, by omega, by omega, hI⟩
 ·skip
  have h41b := hc; clear hc
  have h41 : ¬ (((q : Nat) : Int) < ((cs.length : Nat) : Int)) := of_decide_eq_false h41b
  iterate 2 (refine rl_guard_f F rfl rfl rfl h41b ?_; clear F a; intro a F)
  refine rl_run F (run_pick_f (F.ev rfl) h41b (F.ev rfl)) rfl ?_; clear F a; intro a F
  refine rl_nil <| q_tn <| w_cond_f F rfl rfl ?_
  refine wp_exit ?_
  iterate 2 (refine q_te ?_)
  refine q_bh <| q_tn <| wp_seq <| w_reg ?_
  iterate 2 (refine rl_run F (run_move (F.ev rfl)) rfl ?_; clear F a; intro a F)
  iterate 2 (refine rl_run F (run_assign (F.ev rfl)) rfl ?_; clear F a; intro a F)
  refine rl_nil <| q_tn <| wp_ret <| fin2 F rfl rfl rfl ?_
  obtain ⟨hnz42, Gz42, az42, cz42, hGz42, hez42, Sz42, M⟩ := M.freeze_row mono_rdN (k := 0) rfl Ey (by decide)
  clear hez42 az42 cz42
  exact ⟨Gz42, (hG1.trans hGz42), M.weaken (List.Sublist.refl _), _, _, ps, q, by rw [hny] <;> rfl, by have h_ := Sz42; rw [hny] at h_; exact h_, by omega, by omega, hI⟩
theorem buildN_all : ∀ d, BuildN d
 | 0 => fun w0 w G L ca cc cs q0 lv M S hq0 hlv => buildN_step (fun e he => by omega) M S hq0 hlv
 | d + 1 => fun w0 w G L ca cc cs q0 lv M S hq0 hlv => buildN_step (fun e he => by rw [show e = d by omega]; exact buildN_all d) M S hq0 hlv
theorem nof_spec {w0 w : World} {G : Ghost} {L : List Res} (M : Mem w0 G L w) {ca : Option Addr} {cc : Nat} {cs : List UInt8} (S : RdSl rdB 1 G (.slice ca cs.length cc) cs) {pt psl : Nat} (hpt : pt < 256) (hps : psl < 256) : Calls Tryz.prog 14 #[.agg #[.int .u8 (((pt : Nat) : Int)), .int .u8 (((psl : Nat) : Int)), .slice (ca) (cs.length) (cc)]] w (Ret w0 G L fun G' v => ∃ (x : NT) (ta ka : Option Addr) (tc kc : Nat), v = .agg #[.int .u8 (x.kind), .string (str (x.tag)), .string (str (x.key)), .slice (ta) (x.as.length) (tc), .string (str (x.text)), .slice (ka) (x.kids.length) (kc)] ∧ Valid x ∧ inKind .u8 x.kind ∧ (x.tag.length ≤ 9223372036854775807 ∧ x.key.length ≤ 9223372036854775807 ∧ x.text.length ≤ 9223372036854775807) ∧ RdSl rdAttr 2 G' (.slice ta x.as.length tc) x.as ∧ RdSl rdN 6 G' (.slice ka x.kids.length kc) x.kids) := by
 refine calls_start (vs := [_]) Tryz.func14 rfl (n := 24) rfl rfl ?_
 intro a F
 refine wp_seq <| w_reg <| rl_box F M rfl (cs := [.int .u8 (((pt : Nat) : Int)), .int .u8 (((psl : Nat) : Int)), .slice (ca) (cs.length) (cc)]) rfl rfl ?_; clear F M a; intro b1 w a M F
 refine rl_alloc F M tok30 rfl rfl ?_; clear F M a; intro b2 w a M F
 refine rl_nil <| q_tn <| wp_seq <| w_tree (.run 0 (.run 1 (.run 3 (.run 4 (.act 2 (.act 5 (.run 6 (.act 7 (.act 8 .fin .no) .no)) (.act 7 (.act 5 (.run 6 (.act 8 .fin .no)) .no) .no)) (.act 7 (.act 2 (.act 5 (.run 6 (.act 8 .fin .no)) .no) .no) .no)))))) (Keep G [.blk b1 [.int .u8 (((pt : Nat) : Int)), .int .u8 (((psl : Nat) : Int)), .slice (ca) (cs.length) (cc)] 24]) rfl (by kernel_rfl) (fun c a d v w h => by cases d <;> exact h) ((M.drew _).keep (Gle.refl _) (by simp)) ?_
 replace M := M.drew (w.drawn + 1)
 refine pt_run F (fun w M => run_fieldAddr tok24.k rfl rfl (F.ev rfl)) rfl ?_; clear F a; intro a F
 refine pt_run F (fun w M => run_load1 (agf tok5 rfl) (F.ev rfl) (M.cellL (k := 0) rfl rfl)) rfl ?_; clear F a; intro a F
 refine pt_run F (fun w M => run_fieldAddr tok24.k rfl rfl (F.ev rfl)) rfl ?_; clear F a; intro a F
 refine pt_run F (fun w M => run_load1 (agf tok5 rfl) (F.ev rfl) (M.cellL (k := 0) rfl rfl)) rfl ?_; clear F a; intro a F
 refine pt_act ?_ rfl ?_
 ·skip
  refine rl_callS F ent53 rfl rfl (ntag_spec (n := pt) M (by omega)) ?_; clear F M a; rintro _ w a M ⟨tg4, rfl, htg4⟩ F
  have hltg4 := htg4.1.2
  refine rl_nil <| ⟨Keep G [.blk b1 [.int .u8 (((pt : Nat) : Int)), .int .u8 (((psl : Nat) : Int)), .slice (ca) (cs.length) (cc)] 24], M.keep (Gle.refl _) (by simp), fun w h => h.mono (Gle.refl _) (by simp), ?_⟩
  refine pt_act ?_ rfl ?_
  ·skip
   refine rl_call F ent54 rfl rfl (attrs_made (n := psl) M (by omega)) ?_; clear F M a; rintro _ Gk5 w a hGk5 M ⟨ak5, ck5, ssk5, rfl, Sk5, hSk5, hS3k5⟩ F
   replace S := S.mono mono_rdB hGk5
   refine rl_nil <| ⟨Keep Gk5 [.blk b1 [.int .u8 (((pt : Nat) : Int)), .int .u8 (((psl : Nat) : Int)), .slice (ca) (cs.length) (cc)] 24], M.keep (Gle.refl _) (by simp), fun w h => h.mono hGk5 (by simp), ?_⟩
   refine pt_run F (fun w M => run_buildS (cs := [.int .u8 (1), .string (str (tg4)), .string (str ([] : List UInt8)), .slice (ak5) (ssk5.length) (ck5), .string (str ([] : List UInt8)), .slice none (0) (0)]) (ps := [(0, .int .u8 (1)), (1, .string (str (tg4))), (3, .slice (ak5) (ssk5.length) (ck5))]) tok30.k rfl tok30 (F.evp rfl) rfl) rfl ?_; clear F a; intro a F
   refine pt_act ?_ rfl pt_no
   refine rl_alloc F M tok30 rfl rfl ?_; clear F M a; intro b6 w a M F
   refine rl_nil <| ⟨Keep Gk5 [.blk b1 [.int .u8 (((pt : Nat) : Int)), .int .u8 (((psl : Nat) : Int)), .slice (ca) (cs.length) (cc)] 24], M.keep (Gle.refl _) (by simp), fun w h => h.mono (Gle.refl _) (by simp), ?_⟩
   refine pt_act ?_ rfl pt_no
   refine rl_storeA F M tok30 (k := 0) rfl rfl rfl (us := [.int .u8 (1), .string (str (tg4)), .string (str ([] : List UInt8)), .slice (ak5) (ssk5.length) (ck5), .string (str ([] : List UInt8)), .slice none (0) (0)]) rfl rfl (by simp [Value.oneCell']) (by simp) ?_; clear F M a; intro w a M F
   change Mem w0 Gk5 (.blk b6 [.int .u8 (1), .string (str (tg4)), .string (str ([] : List UInt8)), .slice (ak5) (ssk5.length) (ck5), .string (str ([] : List UInt8)), .slice none (0) (0)] 30 :: .blk b2 [.int .u8 (0), .string (str ([] : List UInt8)), .string (str ([] : List UInt8)), .slice none (0) (0), .string (str ([] : List UInt8)), .slice none (0) (0)] 30 :: .blk b1 [.int .u8 (((pt : Nat) : Int)), .int .u8 (((psl : Nat) : Int)), .slice (ca) (cs.length) (cc)] 24 :: L) _ at M
   refine rl_nil <| ⟨Keep Gk5 [.blk b1 [.int .u8 (((pt : Nat) : Int)), .int .u8 (((psl : Nat) : Int)), .slice (ca) (cs.length) (cc)] 24], M.keep (Gle.refl _) (by simp), fun w h => h.mono (Gle.refl _) (by simp), ?_⟩
   refine pt_fin <| q_tn ?_
   iterate 2 (refine wp_seq ?_)
   refine w_reg <| rl_run F (run_fieldAddr tok24.k rfl rfl (F.ev rfl)) rfl ?_; clear F a; intro a F
   refine rl_run F (run_load1 (agf tok5 rfl) (F.ev rfl) (M.cellL (k := 2) rfl rfl)) rfl ?_; clear F a; intro a F
   refine rl_run F (run_remi (F.ev rfl) (F.ev rfl) (by omega) (by omega)) rfl ?_; clear F a; intro a F
   refine rl_run F (run_eqi (F.ev rfl) (F.ev rfl)) rfl ?_; clear F a; intro a F
   refine rl_nil <| q_tn <| w_cut (fun a' w' => ∃ (kk9 : List UInt8), Fits 24 a' [(0, .agg #[.int .u8 (((pt : Nat) : Int)), .int .u8 (((psl : Nat) : Int)), .slice (ca) (cs.length) (cc)]), (1, .pointer (some ⟨b1, 0, none⟩)), (2, .pointer (some ⟨b2, 0, none⟩)), (3, .pointer (some ⟨b6, 0, none⟩))] ∧ Mem w0 Gk5 (.blk b6 [.int .u8 (1), .string (str (tg4)), .string (str (kk9)), .slice (ak5) (ssk5.length) (ck5), .string (str ([] : List UInt8)), .slice none (0) (0)] 30 :: .blk b2 [.int .u8 (0), .string (str ([] : List UInt8)), .string (str ([] : List UInt8)), .slice none (0) (0), .string (str ([] : List UInt8)), .slice none (0) (0)] 30 :: .blk b1 [.int .u8 (((pt : Nat) : Int)), .int .u8 (((psl : Nat) : Int)), .slice (ca) (cs.length) (cc)] 24 :: L) w' ∧ (kk9 = [] ∨ Name kk9)) ?_ ?_
   ·skip
    refine w_cond F rfl ?_ ?_
    ·intro hc
     have h8b := hc; clear hc
     have h8 : (((psl : Nat) : Int)) % 3 = 1 := of_decide_eq_true h8b
     refine w_reg <| rl_run F (run_fieldAddr tok30.k rfl rfl (F.ev rfl)) rfl ?_; clear F a; intro a F
     refine rl_store1 F M tok9 rfl (k := 0) rfl rfl rfl rfl rfl ?_; clear F M a; intro w a M F
     refine rl_nil ?_
     exact ⟨([114, 111, 111, 116] : List UInt8), F.to ⟨rfl, rfl, rfl, rfl, trivial⟩, M, Or.inr (by decide)⟩
    ·intro hc
     have h9b := hc; clear hc
     have h9 : ¬ ((((psl : Nat) : Int)) % 3 = 1) := of_decide_eq_false h9b
     refine wp_skip ?_
     exact ⟨([] : List UInt8), F.to ⟨rfl, rfl, rfl, rfl, trivial⟩, M, Or.inl rfl⟩
   ·clear F M
    rintro a w ⟨kk9, F, M, hkk9⟩
    refine q_tn <| wp_seq <| w_reg <| rl_run F (run_fieldAddr tok24.k rfl rfl (F.ev rfl)) rfl ?_; clear F a; intro a F
    refine rl_run F (run_load1 (agf tok22 rfl) (F.ev rfl) (M.cellL (k := 2) rfl rfl)) rfl ?_; clear F a; intro a F
    refine rl_call F ent55 rfl rfl (buildN_all 3 _ _ _ _ _ _ cs (0) (2) M S (by omega) (by rfl)) ?_; clear F M a; rintro _ Gk10 w a hGk10 M ⟨ak10, ck10, psk10, qk10, rfl, Sk10, hqk10, hrk10, hPk10⟩ F
    replace S := S.mono mono_rdB hGk10
    replace Sk5 := Sk5.mono mono_rdAttr hGk10
    refine rl_run F (run_move (F.ev rfl)) rfl ?_; clear F a; intro a F
    refine rl_run F (run_extract (v := .slice (ak10) (psk10.length) (ck10)) (F.ev rfl) rfl) rfl ?_; clear F a; intro a F
    refine rl_run F (run_extract (v := .int .i64 (((qk10 : Nat) : Int))) (F.ev rfl) rfl) rfl ?_; clear F a; intro a F
    refine rl_run F (run_fieldAddr tok30.k rfl rfl (F.ev rfl)) rfl ?_; clear F a; intro a F
    refine rl_store1 F M tok28 rfl (k := 0) rfl rfl rfl rfl rfl ?_; clear F M a; intro w a M F
    refine rl_nil <| q_tn <| wp_seq <| w_reg <| rl_run F (run_loadA tok30 rfl (F.ev rfl) (cs := [.int .u8 (1), .string (str (tg4)), .string (str (kk9)), .slice (ak5) (ssk5.length) (ck5), .string (str ([] : List UInt8)), .slice (ak10) (psk10.length) (ck10)]) rfl (M.cellsL (k := 0) rfl rfl)) rfl ?_; clear F a; intro a F
    refine rl_storeA F M tok30 (k := 1) rfl rfl rfl (us := [.int .u8 (1), .string (str (tg4)), .string (str (kk9)), .slice (ak5) (ssk5.length) (ck5), .string (str ([] : List UInt8)), .slice (ak10) (psk10.length) (ck10)]) rfl rfl (by simp [Value.oneCell']) (by simp) ?_; clear F M a; intro w a M F
    change Mem w0 Gk10 (.blk b6 [.int .u8 (1), .string (str (tg4)), .string (str (kk9)), .slice (ak5) (ssk5.length) (ck5), .string (str ([] : List UInt8)), .slice (ak10) (psk10.length) (ck10)] 30 :: .blk b2 [.int .u8 (1), .string (str (tg4)), .string (str (kk9)), .slice (ak5) (ssk5.length) (ck5), .string (str ([] : List UInt8)), .slice (ak10) (psk10.length) (ck10)] 30 :: .blk b1 [.int .u8 (((pt : Nat) : Int)), .int .u8 (((psl : Nat) : Int)), .slice (ca) (cs.length) (cc)] 24 :: L) _ at M
    refine rl_nil <| q_tn <| wp_ret <| fin_c F M (k := 1) rfl rfl tok30 rfl rfl rfl ?_
    have hkl9 : kk9.length ≤ 16 := by rcases hkk9 with h | h; (subst h; simp); exact h.1.2
    exact ⟨_, (hGk5.trans hGk10), M.weaken (.cons _ (.cons _ (.cons _ (List.Sublist.refl _)))), (.mk 1 tg4 kk9 ssk5 ([] : List UInt8) psk10 : NT), _, _, _, _, rfl, ⟨(okElemN (d := 4) (by assumption) hkk9 hSk5 (by have := hS3k5; omega) hPk10.le hPk10.keys hPk10.ok).mono (by decide), by have := hPk10.sz; rw [Tr.size_eq]; simp only [Tr.kids]; omega⟩, ⟨by show (0 : Int) ≤ 1; decide, by show (1 : Int) ≤ 255; decide⟩, ⟨by simp only [Tr.tag]; omega, by simp only [Tr.key]; omega, Nat.zero_le _⟩, Sk5, Sk10⟩
  refine pt_act ?_ rfl ?_
  ·skip
   refine rl_alloc F M tok30 rfl rfl ?_; clear F M a; intro b11 w a M F
   refine rl_nil <| ⟨Keep G [.blk b1 [.int .u8 (((pt : Nat) : Int)), .int .u8 (((psl : Nat) : Int)), .slice (ca) (cs.length) (cc)] 24], M.keep (Gle.refl _) (by simp), fun w h => h.mono (Gle.refl _) (by simp), ?_⟩
   refine pt_act ?_ rfl pt_no
   refine rl_call F ent54 rfl rfl (attrs_made (n := psl) M (by omega)) ?_; clear F M a; rintro _ Gk13 w a hGk13 M ⟨ak13, ck13, ssk13, rfl, Sk13, hSk13, hS3k13⟩ F
   replace S := S.mono mono_rdB hGk13
   refine rl_nil <| ⟨Keep Gk13 [.blk b1 [.int .u8 (((pt : Nat) : Int)), .int .u8 (((psl : Nat) : Int)), .slice (ca) (cs.length) (cc)] 24], M.keep (Gle.refl _) (by simp), fun w h => h.mono hGk13 (by simp), ?_⟩
   refine pt_run F (fun w M => run_buildS (cs := [.int .u8 (1), .string (str (tg4)), .string (str ([] : List UInt8)), .slice (ak13) (ssk13.length) (ck13), .string (str ([] : List UInt8)), .slice none (0) (0)]) (ps := [(0, .int .u8 (1)), (1, .string (str (tg4))), (3, .slice (ak13) (ssk13.length) (ck13))]) tok30.k rfl tok30 (F.evp rfl) rfl) rfl ?_; clear F a; intro a F
   refine pt_act ?_ rfl pt_no
   refine rl_storeA F M tok30 (k := 0) rfl rfl rfl (us := [.int .u8 (1), .string (str (tg4)), .string (str ([] : List UInt8)), .slice (ak13) (ssk13.length) (ck13), .string (str ([] : List UInt8)), .slice none (0) (0)]) rfl rfl (by simp [Value.oneCell']) (by simp) ?_; clear F M a; intro w a M F
   change Mem w0 Gk13 (.blk b11 [.int .u8 (1), .string (str (tg4)), .string (str ([] : List UInt8)), .slice (ak13) (ssk13.length) (ck13), .string (str ([] : List UInt8)), .slice none (0) (0)] 30 :: .blk b2 [.int .u8 (0), .string (str ([] : List UInt8)), .string (str ([] : List UInt8)), .slice none (0) (0), .string (str ([] : List UInt8)), .slice none (0) (0)] 30 :: .blk b1 [.int .u8 (((pt : Nat) : Int)), .int .u8 (((psl : Nat) : Int)), .slice (ca) (cs.length) (cc)] 24 :: L) _ at M
   refine rl_nil <| ⟨Keep Gk13 [.blk b1 [.int .u8 (((pt : Nat) : Int)), .int .u8 (((psl : Nat) : Int)), .slice (ca) (cs.length) (cc)] 24], M.keep (Gle.refl _) (by simp), fun w h => h.mono (Gle.refl _) (by simp), ?_⟩
   refine pt_fin <| q_tn ?_
   iterate 2 (refine wp_seq ?_)
   refine w_reg <| rl_run F (run_fieldAddr tok24.k rfl rfl (F.ev rfl)) rfl ?_; clear F a; intro a F
   refine rl_run F (run_load1 (agf tok5 rfl) (F.ev rfl) (M.cellL (k := 2) rfl rfl)) rfl ?_; clear F a; intro a F
   refine rl_run F (run_remi (F.ev rfl) (F.ev rfl) (by omega) (by omega)) rfl ?_; clear F a; intro a F
   refine rl_run F (run_eqi (F.ev rfl) (F.ev rfl)) rfl ?_; clear F a; intro a F
   refine rl_nil <| q_tn <| w_cut (fun a' w' => ∃ (kk9 : List UInt8), Fits 24 a' [(0, .agg #[.int .u8 (((pt : Nat) : Int)), .int .u8 (((psl : Nat) : Int)), .slice (ca) (cs.length) (cc)]), (1, .pointer (some ⟨b1, 0, none⟩)), (2, .pointer (some ⟨b2, 0, none⟩)), (3, .pointer (some ⟨b11, 0, none⟩))] ∧ Mem w0 Gk13 (.blk b11 [.int .u8 (1), .string (str (tg4)), .string (str (kk9)), .slice (ak13) (ssk13.length) (ck13), .string (str ([] : List UInt8)), .slice none (0) (0)] 30 :: .blk b2 [.int .u8 (0), .string (str ([] : List UInt8)), .string (str ([] : List UInt8)), .slice none (0) (0), .string (str ([] : List UInt8)), .slice none (0) (0)] 30 :: .blk b1 [.int .u8 (((pt : Nat) : Int)), .int .u8 (((psl : Nat) : Int)), .slice (ca) (cs.length) (cc)] 24 :: L) w' ∧ (kk9 = [] ∨ Name kk9)) ?_ ?_
   ·skip
    refine w_cond F rfl ?_ ?_
    ·intro hc
     have h14b := hc; clear hc
     have h14 : (((psl : Nat) : Int)) % 3 = 1 := of_decide_eq_true h14b
     refine w_reg <| rl_run F (run_fieldAddr tok30.k rfl rfl (F.ev rfl)) rfl ?_; clear F a; intro a F
     refine rl_store1 F M tok9 rfl (k := 0) rfl rfl rfl rfl rfl ?_; clear F M a; intro w a M F
     refine rl_nil ?_
     exact ⟨([114, 111, 111, 116] : List UInt8), F.to ⟨rfl, rfl, rfl, rfl, trivial⟩, M, Or.inr (by decide)⟩
    ·intro hc
     have h15b := hc; clear hc
     have h15 : ¬ ((((psl : Nat) : Int)) % 3 = 1) := of_decide_eq_false h15b
     refine wp_skip ?_
     exact ⟨([] : List UInt8), F.to ⟨rfl, rfl, rfl, rfl, trivial⟩, M, Or.inl rfl⟩
   ·clear F M
    rintro a w ⟨kk9, F, M, hkk9⟩
    refine q_tn <| wp_seq <| w_reg <| rl_run F (run_fieldAddr tok24.k rfl rfl (F.ev rfl)) rfl ?_; clear F a; intro a F
    refine rl_run F (run_load1 (agf tok22 rfl) (F.ev rfl) (M.cellL (k := 2) rfl rfl)) rfl ?_; clear F a; intro a F
    refine rl_call F ent55 rfl rfl (buildN_all 3 _ _ _ _ _ _ cs (0) (2) M S (by omega) (by rfl)) ?_; clear F M a; rintro _ Gk16 w a hGk16 M ⟨ak16, ck16, psk16, qk16, rfl, Sk16, hqk16, hrk16, hPk16⟩ F
    replace S := S.mono mono_rdB hGk16
    replace Sk13 := Sk13.mono mono_rdAttr hGk16
    refine rl_run F (run_move (F.ev rfl)) rfl ?_; clear F a; intro a F
    refine rl_run F (run_extract (v := .slice (ak16) (psk16.length) (ck16)) (F.ev rfl) rfl) rfl ?_; clear F a; intro a F
    refine rl_run F (run_extract (v := .int .i64 (((qk16 : Nat) : Int))) (F.ev rfl) rfl) rfl ?_; clear F a; intro a F
    refine rl_run F (run_fieldAddr tok30.k rfl rfl (F.ev rfl)) rfl ?_; clear F a; intro a F
    refine rl_store1 F M tok28 rfl (k := 0) rfl rfl rfl rfl rfl ?_; clear F M a; intro w a M F
    refine rl_nil <| q_tn <| wp_seq <| w_reg <| rl_run F (run_loadA tok30 rfl (F.ev rfl) (cs := [.int .u8 (1), .string (str (tg4)), .string (str (kk9)), .slice (ak13) (ssk13.length) (ck13), .string (str ([] : List UInt8)), .slice (ak16) (psk16.length) (ck16)]) rfl (M.cellsL (k := 0) rfl rfl)) rfl ?_; clear F a; intro a F
    refine rl_storeA F M tok30 (k := 1) rfl rfl rfl (us := [.int .u8 (1), .string (str (tg4)), .string (str (kk9)), .slice (ak13) (ssk13.length) (ck13), .string (str ([] : List UInt8)), .slice (ak16) (psk16.length) (ck16)]) rfl rfl (by simp [Value.oneCell']) (by simp) ?_; clear F M a; intro w a M F
    change Mem w0 Gk16 (.blk b11 [.int .u8 (1), .string (str (tg4)), .string (str (kk9)), .slice (ak13) (ssk13.length) (ck13), .string (str ([] : List UInt8)), .slice (ak16) (psk16.length) (ck16)] 30 :: .blk b2 [.int .u8 (1), .string (str (tg4)), .string (str (kk9)), .slice (ak13) (ssk13.length) (ck13), .string (str ([] : List UInt8)), .slice (ak16) (psk16.length) (ck16)] 30 :: .blk b1 [.int .u8 (((pt : Nat) : Int)), .int .u8 (((psl : Nat) : Int)), .slice (ca) (cs.length) (cc)] 24 :: L) _ at M
    refine rl_nil <| q_tn <| wp_ret <| fin_c F M (k := 1) rfl rfl tok30 rfl rfl rfl ?_
    have hkl9 : kk9.length ≤ 16 := by rcases hkk9 with h | h; (subst h; simp); exact h.1.2
    exact ⟨_, (hGk13.trans hGk16), M.weaken (.cons _ (.cons _ (.cons _ (List.Sublist.refl _)))), (.mk 1 tg4 kk9 ssk13 ([] : List UInt8) psk16 : NT), _, _, _, _, rfl, ⟨(okElemN (d := 4) (by assumption) hkk9 hSk13 (by have := hS3k13; omega) hPk16.le hPk16.keys hPk16.ok).mono (by decide), by have := hPk16.sz; rw [Tr.size_eq]; simp only [Tr.kids]; omega⟩, ⟨by show (0 : Int) ≤ 1; decide, by show (1 : Int) ≤ 255; decide⟩, ⟨by simp only [Tr.tag]; omega, by simp only [Tr.key]; omega, Nat.zero_le _⟩, Sk13, Sk16⟩
  exact pt_no
 refine pt_act ?_ rfl ?_
 ·skip
  refine rl_alloc F M tok30 rfl rfl ?_; clear F M a; intro b17 w a M F
  refine rl_nil <| ⟨Keep G [.blk b1 [.int .u8 (((pt : Nat) : Int)), .int .u8 (((psl : Nat) : Int)), .slice (ca) (cs.length) (cc)] 24], M.keep (Gle.refl _) (by simp), fun w h => h.mono (Gle.refl _) (by simp), ?_⟩
  refine pt_act ?_ rfl pt_no
  refine rl_callS F ent53 rfl rfl (ntag_spec (n := pt) M (by omega)) ?_; clear F M a; rintro _ w a M ⟨tg19, rfl, htg19⟩ F
  have hltg19 := htg19.1.2
  refine rl_nil <| ⟨Keep G [.blk b1 [.int .u8 (((pt : Nat) : Int)), .int .u8 (((psl : Nat) : Int)), .slice (ca) (cs.length) (cc)] 24], M.keep (Gle.refl _) (by simp), fun w h => h.mono (Gle.refl _) (by simp), ?_⟩
  refine pt_act ?_ rfl pt_no
  refine rl_call F ent54 rfl rfl (attrs_made (n := psl) M (by omega)) ?_; clear F M a; rintro _ Gk20 w a hGk20 M ⟨ak20, ck20, ssk20, rfl, Sk20, hSk20, hS3k20⟩ F
  replace S := S.mono mono_rdB hGk20
  refine rl_nil <| ⟨Keep Gk20 [.blk b1 [.int .u8 (((pt : Nat) : Int)), .int .u8 (((psl : Nat) : Int)), .slice (ca) (cs.length) (cc)] 24], M.keep (Gle.refl _) (by simp), fun w h => h.mono hGk20 (by simp), ?_⟩
  refine pt_run F (fun w M => run_buildS (cs := [.int .u8 (1), .string (str (tg19)), .string (str ([] : List UInt8)), .slice (ak20) (ssk20.length) (ck20), .string (str ([] : List UInt8)), .slice none (0) (0)]) (ps := [(0, .int .u8 (1)), (1, .string (str (tg19))), (3, .slice (ak20) (ssk20.length) (ck20))]) tok30.k rfl tok30 (F.evp rfl) rfl) rfl ?_; clear F a; intro a F
  refine pt_act ?_ rfl pt_no
  refine rl_storeA F M tok30 (k := 0) rfl rfl rfl (us := [.int .u8 (1), .string (str (tg19)), .string (str ([] : List UInt8)), .slice (ak20) (ssk20.length) (ck20), .string (str ([] : List UInt8)), .slice none (0) (0)]) rfl rfl (by simp [Value.oneCell']) (by simp) ?_; clear F M a; intro w a M F
  change Mem w0 Gk20 (.blk b17 [.int .u8 (1), .string (str (tg19)), .string (str ([] : List UInt8)), .slice (ak20) (ssk20.length) (ck20), .string (str ([] : List UInt8)), .slice none (0) (0)] 30 :: .blk b2 [.int .u8 (0), .string (str ([] : List UInt8)), .string (str ([] : List UInt8)), .slice none (0) (0), .string (str ([] : List UInt8)), .slice none (0) (0)] 30 :: .blk b1 [.int .u8 (((pt : Nat) : Int)), .int .u8 (((psl : Nat) : Int)), .slice (ca) (cs.length) (cc)] 24 :: L) _ at M
  refine rl_nil <| ⟨Keep Gk20 [.blk b1 [.int .u8 (((pt : Nat) : Int)), .int .u8 (((psl : Nat) : Int)), .slice (ca) (cs.length) (cc)] 24], M.keep (Gle.refl _) (by simp), fun w h => h.mono (Gle.refl _) (by simp), ?_⟩
  refine pt_fin <| q_tn ?_
  iterate 2 (refine wp_seq ?_)
  refine w_reg <| rl_run F (run_fieldAddr tok24.k rfl rfl (F.ev rfl)) rfl ?_; clear F a; intro a F
  refine rl_run F (run_load1 (agf tok5 rfl) (F.ev rfl) (M.cellL (k := 2) rfl rfl)) rfl ?_; clear F a; intro a F
  refine rl_run F (run_remi (F.ev rfl) (F.ev rfl) (by omega) (by omega)) rfl ?_; clear F a; intro a F
  refine rl_run F (run_eqi (F.ev rfl) (F.ev rfl)) rfl ?_; clear F a; intro a F
  refine rl_nil <| q_tn <| w_cut (fun a' w' => ∃ (kk9 : List UInt8), Fits 24 a' [(0, .agg #[.int .u8 (((pt : Nat) : Int)), .int .u8 (((psl : Nat) : Int)), .slice (ca) (cs.length) (cc)]), (1, .pointer (some ⟨b1, 0, none⟩)), (2, .pointer (some ⟨b2, 0, none⟩)), (3, .pointer (some ⟨b17, 0, none⟩))] ∧ Mem w0 Gk20 (.blk b17 [.int .u8 (1), .string (str (tg19)), .string (str (kk9)), .slice (ak20) (ssk20.length) (ck20), .string (str ([] : List UInt8)), .slice none (0) (0)] 30 :: .blk b2 [.int .u8 (0), .string (str ([] : List UInt8)), .string (str ([] : List UInt8)), .slice none (0) (0), .string (str ([] : List UInt8)), .slice none (0) (0)] 30 :: .blk b1 [.int .u8 (((pt : Nat) : Int)), .int .u8 (((psl : Nat) : Int)), .slice (ca) (cs.length) (cc)] 24 :: L) w' ∧ (kk9 = [] ∨ Name kk9)) ?_ ?_
  ·skip
   refine w_cond F rfl ?_ ?_
   ·intro hc
    have h21b := hc; clear hc
    have h21 : (((psl : Nat) : Int)) % 3 = 1 := of_decide_eq_true h21b
    refine w_reg <| rl_run F (run_fieldAddr tok30.k rfl rfl (F.ev rfl)) rfl ?_; clear F a; intro a F
    refine rl_store1 F M tok9 rfl (k := 0) rfl rfl rfl rfl rfl ?_; clear F M a; intro w a M F
    refine rl_nil ?_
    exact ⟨([114, 111, 111, 116] : List UInt8), F.to ⟨rfl, rfl, rfl, rfl, trivial⟩, M, Or.inr (by decide)⟩
   ·intro hc
    have h22b := hc; clear hc
    have h22 : ¬ ((((psl : Nat) : Int)) % 3 = 1) := of_decide_eq_false h22b
    refine wp_skip ?_
    exact ⟨([] : List UInt8), F.to ⟨rfl, rfl, rfl, rfl, trivial⟩, M, Or.inl rfl⟩
  ·clear F M
   rintro a w ⟨kk9, F, M, hkk9⟩
   refine q_tn <| wp_seq <| w_reg <| rl_run F (run_fieldAddr tok24.k rfl rfl (F.ev rfl)) rfl ?_; clear F a; intro a F
   refine rl_run F (run_load1 (agf tok22 rfl) (F.ev rfl) (M.cellL (k := 2) rfl rfl)) rfl ?_; clear F a; intro a F
   refine rl_call F ent55 rfl rfl (buildN_all 3 _ _ _ _ _ _ cs (0) (2) M S (by omega) (by rfl)) ?_; clear F M a; rintro _ Gk23 w a hGk23 M ⟨ak23, ck23, psk23, qk23, rfl, Sk23, hqk23, hrk23, hPk23⟩ F
   replace S := S.mono mono_rdB hGk23
   replace Sk20 := Sk20.mono mono_rdAttr hGk23
   refine rl_run F (run_move (F.ev rfl)) rfl ?_; clear F a; intro a F
   refine rl_run F (run_extract (v := .slice (ak23) (psk23.length) (ck23)) (F.ev rfl) rfl) rfl ?_; clear F a; intro a F
   refine rl_run F (run_extract (v := .int .i64 (((qk23 : Nat) : Int))) (F.ev rfl) rfl) rfl ?_; clear F a; intro a F
   refine rl_run F (run_fieldAddr tok30.k rfl rfl (F.ev rfl)) rfl ?_; clear F a; intro a F
   refine rl_store1 F M tok28 rfl (k := 0) rfl rfl rfl rfl rfl ?_; clear F M a; intro w a M F
   refine rl_nil <| q_tn <| wp_seq <| w_reg <| rl_run F (run_loadA tok30 rfl (F.ev rfl) (cs := [.int .u8 (1), .string (str (tg19)), .string (str (kk9)), .slice (ak20) (ssk20.length) (ck20), .string (str ([] : List UInt8)), .slice (ak23) (psk23.length) (ck23)]) rfl (M.cellsL (k := 0) rfl rfl)) rfl ?_; clear F a; intro a F
   refine rl_storeA F M tok30 (k := 1) rfl rfl rfl (us := [.int .u8 (1), .string (str (tg19)), .string (str (kk9)), .slice (ak20) (ssk20.length) (ck20), .string (str ([] : List UInt8)), .slice (ak23) (psk23.length) (ck23)]) rfl rfl (by simp [Value.oneCell']) (by simp) ?_; clear F M a; intro w a M F
   change Mem w0 Gk23 (.blk b17 [.int .u8 (1), .string (str (tg19)), .string (str (kk9)), .slice (ak20) (ssk20.length) (ck20), .string (str ([] : List UInt8)), .slice (ak23) (psk23.length) (ck23)] 30 :: .blk b2 [.int .u8 (1), .string (str (tg19)), .string (str (kk9)), .slice (ak20) (ssk20.length) (ck20), .string (str ([] : List UInt8)), .slice (ak23) (psk23.length) (ck23)] 30 :: .blk b1 [.int .u8 (((pt : Nat) : Int)), .int .u8 (((psl : Nat) : Int)), .slice (ca) (cs.length) (cc)] 24 :: L) _ at M
   refine rl_nil <| q_tn <| wp_ret <| fin_c F M (k := 1) rfl rfl tok30 rfl rfl rfl ?_
   have hkl9 : kk9.length ≤ 16 := by rcases hkk9 with h | h; (subst h; simp); exact h.1.2
   exact ⟨_, (hGk20.trans hGk23), M.weaken (.cons _ (.cons _ (.cons _ (List.Sublist.refl _)))), (.mk 1 tg19 kk9 ssk20 ([] : List UInt8) psk23 : NT), _, _, _, _, rfl, ⟨(okElemN (d := 4) (by assumption) hkk9 hSk20 (by have := hS3k20; omega) hPk23.le hPk23.keys hPk23.ok).mono (by decide), by have := hPk23.sz; rw [Tr.size_eq]; simp only [Tr.kids]; omega⟩, ⟨by show (0 : Int) ≤ 1; decide, by show (1 : Int) ≤ 255; decide⟩, ⟨by simp only [Tr.tag]; omega, by simp only [Tr.key]; omega, Nat.zero_le _⟩, Sk20, Sk23⟩
 exact pt_no
end Go.Proofs.YtlnehkjmmegkhaaGreat
