/- The walks, part Q. -/
import Derived.Test.YtlnehkjmmegkhaaGreatWalkP
namespace Go.Proofs.YtlnehkjmmegkhaaGreat
open Go Go.Y Go.Proofs
set_option linter.unusedSimpArgs false
set_option linter.unusedVariables false
instance instNameB : DecidablePred NameB := fun c => by unfold NameB; infer_instance
instance instName : DecidablePred Name := fun s => by unfold Name; infer_instance
instance instStrB : DecidablePred StrB := fun c => by unfold StrB; infer_instance
instance instStr : DecidablePred Str := fun s => by unfold Str; infer_instance
def snS : List (List UInt8) := [[99, 108, 97, 115, 115], [105, 100], [122, 57]]
def itS : List (List UInt8) := [[], [104, 105], [97, 32, 34, 98, 34], [48]]
theorem itE {G : Ghost} : Els rdStr 1 G [.string (str ([] : List UInt8)), .string (str ([104, 105] : List UInt8)), .string (str ([97, 32, 34, 98, 34] : List UInt8)), .string (str ([48] : List UInt8))] itS :=
  Els.cons (c := [_]) ⟨rfl, by decide⟩ rfl (Els.cons (c := [_]) ⟨rfl, by decide⟩ rfl (Els.cons (c := [_]) ⟨rfl, by decide⟩ rfl (Els.one ⟨rfl, by decide⟩ rfl)))
def mkS : List (List UInt8) := [[117], [118], [119], [107], [109, 53], [109, 54]]
theorem mkE {G : Ghost} : Els rdStr 1 G [.string (str ([117] : List UInt8)), .string (str ([118] : List UInt8)), .string (str ([119] : List UInt8)), .string (str ([107] : List UInt8)), .string (str ([109, 53] : List UInt8)), .string (str ([109, 54] : List UInt8))] mkS :=
  Els.cons (c := [_]) ⟨rfl, by decide⟩ rfl (Els.cons (c := [_]) ⟨rfl, by decide⟩ rfl (Els.cons (c := [_]) ⟨rfl, by decide⟩ rfl (Els.cons (c := [_]) ⟨rfl, by decide⟩ rfl (Els.cons (c := [_]) ⟨rfl, by decide⟩ rfl (Els.one ⟨rfl, by decide⟩ rfl)))))
theorem itS_ok : ∀ s ∈ itS, Str s := by decide
theorem mkS_ok : ∀ s ∈ mkS, Name s := by decide
theorem in_lit {p : List UInt8 → Prop} {l : List (List UInt8)} (h : ∀ s ∈ l, p s) {i : Nat} {s : List UInt8} (hs : l[i]? = some s) : p s := h s (List.mem_of_getElem? hs)
theorem sn_asc : ∀ i j : Nat, i < j → j < 3 → ∀ a b, snS[i]? = some a → snS[j]? = some b → Op.bytesLess a b = true := by
  intro i j hij hj a b ha hb
  have hi : i < 3 := by omega
  match j, hj with
  | 0, _ => omega
  | 1, _ => match i, hij with
    | 0, _ => simp only [snS, List.getElem?_cons_zero, List.getElem?_cons_succ, Option.some.injEq] at ha hb; subst ha hb; decide
  | 2, _ => match i, hij with
    | 0, _ => simp only [snS, List.getElem?_cons_zero, List.getElem?_cons_succ, Option.some.injEq] at ha hb; subst ha hb; decide
    | 1, _ => simp only [snS, List.getElem?_cons_zero, List.getElem?_cons_succ, Option.some.injEq] at ha hb; subst ha hb; decide
/-- The slots that were made of the first names. -/
structure SlInv (i : Nat) (ss : List SlotD) : Prop where
  to : SlotsTo ss ss.length
  le : ss.length ≤ i
  last : ∀ y, 0 < ss.length → ss[ss.length - 1]? = some y → ∃ j, j < i ∧ snS[j]? = some y.n
theorem SlInv.zero : SlInv 0 [] := ⟨SlotsTo.zero _, Nat.le_refl _, fun y h => by simp at h⟩
theorem SlInv.skip {i : Nat} {ss : List SlotD} (h : SlInv i ss) : SlInv (i + 1) ss := ⟨h.to, by have := h.le; omega, fun y h1 h2 => by obtain ⟨j, hj, hy⟩ := h.last y h1 h2; exact ⟨j, by omega, hy⟩⟩
theorem SlInv.add {i : Nat} {ss : List SlotD} (h : SlInv i ss) {x : SlotD} (hi : i < 3) (hX : snS[i]? = some x.n) (hx : SlotAt x) : SlInv (i + 1) (ss ++ [x]) := by
  have hl : (ss ++ [x]).length = ss.length + 1 := by simp
  refine ⟨?_, by have := h.le; rw [hl]; omega, fun y h1 h2 => ?_⟩
  · rw [hl]
    refine SlotsTo.step (x := x) ?_ (by simp) hx fun y h0 hy => ?_
    · intro m z hm hz
      rw [List.getElem?_append_left hm] at hz
      obtain ⟨h1, h2⟩ := h.to m z hm hz
      refine ⟨h1, fun y h0 hy => ?_⟩
      rw [List.getElem?_append_left (by omega)] at hy
      exact h2 y h0 hy
    · rw [List.getElem?_append_left (by omega)] at hy
      obtain ⟨j, hj, hjn⟩ := h.last y h0 hy
      exact sn_asc j i hj hi _ _ hjn hX
  · rw [hl] at h2
    simp at h2
    subst h2
    exact ⟨i, by omega, hX⟩
theorem SlInv.ok {i : Nat} {ss : List SlotD} (h : SlInv i ss) (hi : i ≤ 3) : SlotsOk ss := ⟨by have := h.le; omega, h.to⟩
theorem len_le_sizes {β : Type} : ∀ l : List (Tr β), l.length ≤ Tr.sizes l
  | [] => Nat.zero_le _
  | x :: l => by have := Tr.size_pos x; have := len_le_sizes l; simp only [List.length_cons, Tr.sizes]; omega
structure PsInv (d q0 q : Nat) (ps : List PT) : Prop where
  sz : Tr.sizes ps + q0 ≤ q
  ok : ∀ p ∈ ps, Tr.Ok AloneP (d + 1) p
theorem PsInv.len {d q0 q : Nat} {ps : List PT} (h : PsInv d q0 q ps) : ps.length + q0 ≤ q := by have := len_le_sizes ps; have := h.sz; omega
theorem PsInv.zero {d q : Nat} : PsInv d q q [] := ⟨by simp [Tr.sizes], by simp⟩
theorem PsInv.add {d q0 q q' : Nat} {ps : List PT} (h : PsInv d q0 q ps) {p : PT} (hp : Tr.Ok AloneP (d + 1) p) (hs : p.size + q ≤ q') : PsInv d q0 q' (ps ++ [p]) :=
  ⟨by rw [Tr.sizes_append]; have := h.sz; simp only [Tr.sizes]; omega, fun c hc => by
    rcases List.mem_append.1 hc with hc | hc
    · exact h.ok c hc
    · rw [List.mem_singleton.1 hc]; exact hp⟩
theorem PsInv.one {d q0 q : Nat} {ps : List PT} (h : PsInv d q0 q ps) {p : PT} (hp : Tr.Ok AloneP (d + 1) p) (hk : p.kids = []) : PsInv d q0 (q + 1) (ps ++ [p]) :=
  h.add hp (by rw [Tr.size_eq, hk]; simp only [Tr.sizes]; omega)
theorem iof_spec {w0 w : World} {G : Ghost} {L : List Res} (M : Mem w0 G L w) {ca : Option Addr} {cc : Nat} {cs : List UInt8} (S : RdSl rdB 1 G (.slice ca cs.length cc) cs) {ik it : Nat} (hik : ik < 65536) (hit : it < 256) : Calls Tryz.prog 21 #[.agg #[.int .u16 (((ik : Nat) : Int)), .int .u8 (((it : Nat) : Int)), .slice (ca) (cs.length) (cc)]] w (Ret w0 G L fun G' v => ∃ (x : ItemD) (ma : Option Addr) (mc : Nat), v = .agg #[.int .u64 (x.key), .int .u8 (x.typ), .string (str (x.text)), .slice (ma) (x.marks.length) (mc)] ∧ ItemOk x ∧ inKind .u64 x.key ∧ RdSl rdStr 1 G' (.slice ma x.marks.length mc) x.marks) := by
  refine calls_start (vs := [_]) Tryz.func21 rfl (n := 42) rfl rfl ?_
  intro a F
  refine wp_seq <| w_reg <| rl_box F M rfl (cs := [.int .u16 (((ik : Nat) : Int)), .int .u8 (((it : Nat) : Int)), .slice (ca) (cs.length) (cc)]) rfl rfl ?_; clear F M a; intro b1 w a M F
  refine rl_alloc F M tok51 rfl rfl ?_; clear F M a; intro b2 w a M F
  refine rl_nil <| q_tn <| wp_seq ?_
  have bS := S.bound
  refine w_tree (.run 0 (.run 1 (.run 2 (.run 3 (.run 5 (.run 6 (.run 7 (.act 4 (.run 8 (.run 9 (.run 10 (.act 11 (.act 12 .fin .no) .no)))) (.act 11 (.act 4 (.run 8 (.run 9 (.run 10 (.act 12 .fin .no)))) .no) .no))))))))) (Keep G [.blk b1 [.int .u16 (((ik : Nat) : Int)), .int .u8 (((it : Nat) : Int)), .slice (ca) (cs.length) (cc)] 42]) rfl (by kernel_rfl) (fun c a d v w h => by cases d <;> exact h) ((M.drew _).keep (Gle.refl _) (by simp)) ?_
  replace M := M.drew (w.drawn + 1)
  refine pt_run F (fun w M => run_fieldAddr tok42.k rfl rfl (F.ev rfl)) rfl ?_; clear F a; intro a F
  refine pt_run F (fun w M => run_load1 (agf tok40 rfl) (F.ev rfl) (M.cellL (k := 0) rfl rfl)) rfl ?_; clear F a; intro a F
  refine pt_run F (fun w M => run_conv_int tok48.k ⟨_, by rw [under_int tok40.k]⟩ (F.ev rfl) (in_u64 (by omega) (by omega))) rfl ?_; clear F a; intro a F
  refine pt_run F (fun w M => run_addi (F.ev rfl) (F.ev rfl) (in_u64 (by omega) (by omega))) rfl ?_; clear F a; intro a F
  refine pt_run F (fun w M => run_fieldAddr tok42.k rfl rfl (F.ev rfl)) rfl ?_; clear F a; intro a F
  refine pt_run F (fun w M => run_load1 (agf tok5 rfl) (F.ev rfl) (M.cellL (k := 0) rfl rfl)) rfl ?_; clear F a; intro a F
  refine pt_run F (fun w M => run_remi (F.ev rfl) (F.ev rfl) (by omega) (by omega)) rfl ?_; clear F a; intro a F
  refine pt_act ?_ rfl ?_
  · skip
    refine rl_buildSliceN F M tok49.k tok9 (ps := [(0, .string (str ([] : List UInt8))), (1, .string (str ([104, 105] : List UInt8))), (2, .string (str ([97, 32, 34, 98, 34] : List UInt8))), (3, .string (str ([48] : List UInt8)))]) (cs := [[.string (str ([] : List UInt8))], [.string (str ([104, 105] : List UInt8))], [.string (str ([97, 32, 34, 98, 34] : List UInt8))], [.string (str ([48] : List UInt8))]]) (fl := [.string (str ([] : List UInt8)), .string (str ([104, 105] : List UInt8)), .string (str ([97, 32, 34, 98, 34] : List UInt8)), .string (str ([48] : List UInt8))]) rfl rfl (by simp [Parts, Value.cells]) (by simp [ti9]) rfl (by simp [Value.oneCell']) (by decide) (by decide) rfl ?_; clear F M a; intro v4 w a M F
    obtain ⟨av4, cv4, rfl, hlev4, hcmv4, hlv4⟩ := M.row_shape (k := 0) rfl
    refine rl_nil ?_
    change Mem w0 G (.row (.slice (av4) (4) (cv4)) (4) ([.string (str ([] : List UInt8)), .string (str ([104, 105] : List UInt8)), .string (str ([97, 32, 34, 98, 34] : List UInt8)), .string (str ([48] : List UInt8))]) 9 1 :: .blk b2 [.int .u64 (0), .int .u8 (0), .string (str ([] : List UInt8)), .slice none (0) (0)] 51 :: .blk b1 [.int .u16 (((ik : Nat) : Int)), .int .u8 (((it : Nat) : Int)), .slice (ca) (cs.length) (cc)] 42 :: L) _ at M
    refine ⟨Keep G [.row (.slice (av4) (4) (cv4)) (4) ([.string (str ([] : List UInt8)), .string (str ([104, 105] : List UInt8)), .string (str ([97, 32, 34, 98, 34] : List UInt8)), .string (str ([48] : List UInt8))]) 9 1, .blk b1 [.int .u16 (((ik : Nat) : Int)), .int .u8 (((it : Nat) : Int)), .slice (ca) (cs.length) (cc)] 42], M.keep (Gle.refl _) (by simp), fun w h => h.mono (Gle.refl _) (by simp), ?_⟩
    obtain ⟨Xe5, hXe5⟩ := get_of_lt (xs := itS) (i := it % 4) (by show _ < 4; omega)
    obtain ⟨be5, _, Ie5, hme5, _, Ae5, ⟨rfl, hsle5⟩⟩ := M.atRowK (k := 0) rfl (by decide) itE (Lr := [.row (.slice (av4) (4) (cv4)) (4) ([.string (str ([] : List UInt8)), .string (str ([104, 105] : List UInt8)), .string (str ([97, 32, 34, 98, 34] : List UInt8)), .string (str ([48] : List UInt8))]) 9 1, .blk b1 [.int .u16 (((ik : Nat) : Int)), .int .u8 (((it : Nat) : Int)), .slice (ca) (cs.length) (cc)] 42]) (k' := 0) rfl hXe5
    refine pt_run F (fun w M => run_indexI tok49.k tok9 (F.ev rfl) (F.ev rfl) (by omega) Ie5) rfl ?_; clear F a; intro a F
    refine pt_run F (fun w M => run_load1 (agf tok9 rfl) (F.ev rfl) (cellE (Ae5 w M) 0 (by omega) rfl)) rfl ?_; clear F a; intro a F
    refine pt_run F (fun w M => run_buildS (cs := [.int .u64 (1 + (((ik : Nat) : Int))), .int .u8 (0), .string (str (Xe5)), .slice none (0) (0)]) (ps := [(0, .int .u64 (1 + (((ik : Nat) : Int)))), (2, .string (str (Xe5)))]) tok51.k rfl tok51 (F.evp rfl) rfl) rfl ?_; clear F a; intro a F
    refine pt_act ?_ rfl pt_no
    refine rl_alloc F M tok51 rfl rfl ?_; clear F M a; intro b6 w a M F
    refine rl_nil <| ⟨Keep G [.row (.slice (av4) (4) (cv4)) (4) ([.string (str ([] : List UInt8)), .string (str ([104, 105] : List UInt8)), .string (str ([97, 32, 34, 98, 34] : List UInt8)), .string (str ([48] : List UInt8))]) 9 1, .blk b1 [.int .u16 (((ik : Nat) : Int)), .int .u8 (((it : Nat) : Int)), .slice (ca) (cs.length) (cc)] 42], M.keep (Gle.refl _) (by simp), fun w h => h.mono (Gle.refl _) (by simp), ?_⟩
    refine pt_act ?_ rfl pt_no
    refine rl_storeA F M tok51 (k := 0) rfl rfl rfl (us := [.int .u64 (1 + (((ik : Nat) : Int))), .int .u8 (0), .string (str (Xe5)), .slice none (0) (0)]) rfl rfl (by simp [Value.oneCell']) (by simp) ?_; clear F M a; intro w a M F
    change Mem w0 G (.blk b6 [.int .u64 (1 + (((ik : Nat) : Int))), .int .u8 (0), .string (str (Xe5)), .slice none (0) (0)] 51 :: .row (.slice (av4) (4) (cv4)) (4) ([.string (str ([] : List UInt8)), .string (str ([104, 105] : List UInt8)), .string (str ([97, 32, 34, 98, 34] : List UInt8)), .string (str ([48] : List UInt8))]) 9 1 :: .blk b2 [.int .u64 (0), .int .u8 (0), .string (str ([] : List UInt8)), .slice none (0) (0)] 51 :: .blk b1 [.int .u16 (((ik : Nat) : Int)), .int .u8 (((it : Nat) : Int)), .slice (ca) (cs.length) (cc)] 42 :: L) _ at M
    refine rl_nil <| ⟨Keep G [.row (.slice (av4) (4) (cv4)) (4) ([.string (str ([] : List UInt8)), .string (str ([104, 105] : List UInt8)), .string (str ([97, 32, 34, 98, 34] : List UInt8)), .string (str ([48] : List UInt8))]) 9 1, .blk b1 [.int .u16 (((ik : Nat) : Int)), .int .u8 (((it : Nat) : Int)), .slice (ca) (cs.length) (cc)] 42], M.keep (Gle.refl _) (by simp), fun w h => h.mono (Gle.refl _) (by simp), ?_⟩
    refine pt_fin <| q_tn ?_
    iterate 2 (refine wp_seq ?_)
    refine w_reg <| rl_run F (run_assign (F.ev rfl)) rfl ?_; clear F a; intro a F
    refine rl_nil <| q_tn <| wp_block ?_
    have M := M.nilrow 9 1
    refine w_loopN (fun m a' w' => ∃ (i : Nat), ∃ (xs : List (List UInt8)), ∃ (ay : Option Addr), ∃ (ny : Nat), ∃ (cy : Nat), ∃ (csy : List Value), m = 4 - i ∧ Fits 42 a' [(1, .pointer (some ⟨b1, 0, none⟩)), (2, .pointer (some ⟨b2, 0, none⟩)), (3, .pointer (some ⟨b6, 0, none⟩)), (4, .int .i64 (((i : Nat) : Int)))] ∧ Mem w0 G (.row (.slice (ay) (ny) (cy)) (ny) (csy) 9 1 :: .blk b6 [.int .u64 (1 + (((ik : Nat) : Int))), .int .u8 (0), .string (str (Xe5)), .slice (ay) (ny) (cy)] 51 :: .row (.slice (av4) (4) (cv4)) (4) ([.string (str ([] : List UInt8)), .string (str ([104, 105] : List UInt8)), .string (str ([97, 32, 34, 98, 34] : List UInt8)), .string (str ([48] : List UInt8))]) 9 1 :: .blk b2 [.int .u64 (0), .int .u8 (0), .string (str ([] : List UInt8)), .slice none (0) (0)] 51 :: .blk b1 [.int .u16 (((ik : Nat) : Int)), .int .u8 (((it : Nat) : Int)), .slice (ca) (cs.length) (cc)] 42 :: L) w' ∧ (i ≤ 4) ∧ (ny = xs.length) ∧ (xs.length ≤ i) ∧ (∀ s ∈ xs, Name s) ∧ (Els rdStr 1 G csy xs)) _ ⟨0, [], none, 0, 0, [], rfl, F.to ⟨rfl, rfl, rfl, rfl, trivial⟩, M, by omega, rfl, by simp, by simp, Els.nil⟩ ?_
    clear F M
    rintro m a w ⟨i, xs, ay, ny, cy, csy, rfl, F, M, hi, hny, hxl, hA, Ey⟩
    iterate 2 (refine wp_seq ?_)
    refine w_reg <| rl_run F (run_move (F.ev rfl)) rfl ?_; clear F a; intro a F
    refine rl_run F (run_fieldAddr tok42.k rfl rfl (F.ev rfl)) rfl ?_; clear F a; intro a F
    refine rl_run F (run_load1 (agf tok22 rfl) (F.ev rfl) (M.cellL (k := 4) rfl rfl)) rfl ?_; clear F a; intro a F
    refine rl_run F (run_lenSl tok22.k (F.ev rfl)) rfl ?_; clear F a; intro a F
    refine rl_run F (run_lss (F.ev rfl) (F.ev rfl)) rfl ?_; clear F a; intro a F
    refine rl_run F (run_move (F.ev rfl)) rfl ?_; clear F a; intro a F
    rcases Bool.eq_false_or_eq_true (decide (((i : Nat) : Int) < ((cs.length : Nat) : Int))) with hc | hc
    · skip
      have h8b := hc; clear hc
      have h8 : ((i : Nat) : Int) < ((cs.length : Nat) : Int) := of_decide_eq_true h8b
      refine rl_guard_t F rfl rfl rfl h8b ?_
      refine rl_run F (run_move (F.ev rfl)) rfl ?_; clear F a; intro a F
      refine rl_guard_t F rfl rfl rfl h8b ?_
      refine rl_run F (run_lss (F.ev rfl) (F.ev rfl)) rfl ?_; clear F a; intro a F
      refine rl_run F (run_pick_t (F.ev rfl) h8b (F.ev rfl)) rfl ?_; clear F a; intro a F
      refine rl_nil <| q_tn <| w_cond F rfl ?_ ?_
      · intro hc
        have h9b := hc; clear hc
        have h9 : ((i : Nat) : Int) < 4 := of_decide_eq_true h9b
        refine wp_skip <| q_tn <| wp_seq <| wp_block <| w_plan3 [(.free, 0), (.pure, 1), (.free, 3), (.pure, 4), (.free, 5), (.free, 6), (.pure, 7), (.free, 8), (.keep, 2), (.free, 9), (.pure, 10), (.keep, 11), (.keep, 12), (.free, 13), (.chg, 14)] [14] (Keep G [.blk b6 [.int .u64 (1 + (((ik : Nat) : Int))), .int .u8 (0), .string (str (Xe5)), .slice (ay) (ny) (cy)] 51, .blk b1 [.int .u16 (((ik : Nat) : Int)), .int .u8 (((it : Nat) : Int)), .slice (ca) (cs.length) (cc)] 42]) rfl (by kernel_rfl) (fun c a d v w h => by cases d <;> exact h) ((M.drew _).keep (Gle.refl _) (by simp)) ?_
        replace M := M.drew (w.drawn + 1)
        refine pk_free F (fun w _ => run_fieldAddr tok51.k rfl rfl (F.ev rfl)) rfl ?_; clear F a; intro a F
        refine pk_pure F (fun w M => run_load1 (agf tok49 rfl) (F.ev rfl) (M.cellL (k := 0) rfl rfl)) rfl ?_; clear F a; intro a F
        refine pk_free F (fun w _ => run_fieldAddr tok42.k rfl rfl (F.ev rfl)) rfl ?_; clear F a; intro a F
        refine pk_pure F (fun w M => run_load1 (agf tok22 rfl) (F.ev rfl) (M.cellL (k := 1) rfl rfl)) rfl ?_; clear F a; intro a F
        refine pk_free F (fun w _ => run_move (F.ev rfl)) rfl ?_; clear F a; intro a F
        obtain ⟨Xe10, hXe10⟩ := get_of_lt (xs := cs) (i := i) (by omega)
        obtain ⟨be10, oe10, _, Ie10, _, Ae10, rfl⟩ := S.at hXe10
        refine pk_free F (fun w _ => run_indexI tok22.k tok5 (F.ev rfl) (F.ev rfl) (by omega) Ie10) rfl ?_; clear F a; intro a F
        refine pk_pure F (fun w M => run_load1 (agf tok5 rfl) (F.ev rfl) (M.cellA Ae10 0 (by omega) rfl)) rfl ?_; clear F a; intro a F
        have hnb9 : nb Xe10 = ((Xe10.toNat : Nat) : Int) := rfl
        have hnb8 := UInt8.toNat_lt Xe10
        refine pk_free F (fun w _ => run_remi (F.ev rfl) (F.ev rfl) (by omega) (by omega)) rfl ?_; clear F a; intro a F
        refine pk_keep ?_ rfl
        refine rl_buildSliceN F M tok49.k tok9 (ps := [(0, .string (str ([117] : List UInt8))), (1, .string (str ([118] : List UInt8))), (2, .string (str ([119] : List UInt8))), (3, .string (str ([107] : List UInt8))), (4, .string (str ([109, 53] : List UInt8))), (5, .string (str ([109, 54] : List UInt8)))]) (cs := [[.string (str ([117] : List UInt8))], [.string (str ([118] : List UInt8))], [.string (str ([119] : List UInt8))], [.string (str ([107] : List UInt8))], [.string (str ([109, 53] : List UInt8))], [.string (str ([109, 54] : List UInt8))]]) (fl := [.string (str ([117] : List UInt8)), .string (str ([118] : List UInt8)), .string (str ([119] : List UInt8)), .string (str ([107] : List UInt8)), .string (str ([109, 53] : List UInt8)), .string (str ([109, 54] : List UInt8))]) rfl rfl (by simp [Parts, Value.cells]) (by simp [ti9]) rfl (by simp [Value.oneCell']) (by decide) (by decide) rfl ?_; clear F M a; intro v11 w a M F
        obtain ⟨av11, cv11, rfl, hlev11, hcmv11, hlv11⟩ := M.row_shape (k := 0) rfl
        refine rl_nil ?_
        change Mem w0 G (.row (.slice (av11) (6) (cv11)) (6) ([.string (str ([117] : List UInt8)), .string (str ([118] : List UInt8)), .string (str ([119] : List UInt8)), .string (str ([107] : List UInt8)), .string (str ([109, 53] : List UInt8)), .string (str ([109, 54] : List UInt8))]) 9 1 :: .row (.slice (ay) (ny) (cy)) (ny) (csy) 9 1 :: .blk b6 [.int .u64 (1 + (((ik : Nat) : Int))), .int .u8 (0), .string (str (Xe5)), .slice (ay) (ny) (cy)] 51 :: .row (.slice (av4) (4) (cv4)) (4) ([.string (str ([] : List UInt8)), .string (str ([104, 105] : List UInt8)), .string (str ([97, 32, 34, 98, 34] : List UInt8)), .string (str ([48] : List UInt8))]) 9 1 :: .blk b2 [.int .u64 (0), .int .u8 (0), .string (str ([] : List UInt8)), .slice none (0) (0)] 51 :: .blk b1 [.int .u16 (((ik : Nat) : Int)), .int .u8 (((it : Nat) : Int)), .slice (ca) (cs.length) (cc)] 42 :: L) _ at M
        refine ⟨Keep G [.row (.slice (av11) (6) (cv11)) (6) ([.string (str ([117] : List UInt8)), .string (str ([118] : List UInt8)), .string (str ([119] : List UInt8)), .string (str ([107] : List UInt8)), .string (str ([109, 53] : List UInt8)), .string (str ([109, 54] : List UInt8))]) 9 1, .blk b6 [.int .u64 (1 + (((ik : Nat) : Int))), .int .u8 (0), .string (str (Xe5)), .slice (ay) (ny) (cy)] 51, .blk b1 [.int .u16 (((ik : Nat) : Int)), .int .u8 (((it : Nat) : Int)), .slice (ca) (cs.length) (cc)] 42], M.keep (Gle.refl _) (by simp), fun w h => h.mono (Gle.refl _) (by simp), ?_⟩
        obtain ⟨Xe12, hXe12⟩ := get_of_lt (xs := mkS) (i := Xe10.toNat % 6) (by show _ < 6; omega)
        obtain ⟨be12, _, Ie12, hme12, _, Ae12, ⟨rfl, hsle12⟩⟩ := M.atRowK (k := 0) rfl (by decide) mkE (Lr := [.row (.slice (av11) (6) (cv11)) (6) ([.string (str ([117] : List UInt8)), .string (str ([118] : List UInt8)), .string (str ([119] : List UInt8)), .string (str ([107] : List UInt8)), .string (str ([109, 53] : List UInt8)), .string (str ([109, 54] : List UInt8))]) 9 1, .blk b6 [.int .u64 (1 + (((ik : Nat) : Int))), .int .u8 (0), .string (str (Xe5)), .slice (ay) (ny) (cy)] 51, .blk b1 [.int .u16 (((ik : Nat) : Int)), .int .u8 (((it : Nat) : Int)), .slice (ca) (cs.length) (cc)] 42]) (k' := 0) rfl hXe12
        refine pk_free F (fun w _ => run_indexI tok49.k tok9 (F.ev rfl) (F.ev rfl) (by omega) Ie12) rfl ?_; clear F a; intro a F
        refine pk_pure F (fun w M => run_load1 (agf tok9 rfl) (F.ev rfl) (cellE (Ae12 w M) 0 (by omega) rfl)) rfl ?_; clear F a; intro a F
        refine pk_keep ?_ rfl
        refine rl_buildSlice1 F M tok49.k tok9 rfl rfl (cs := [.string (str (Xe12))]) rfl rfl (by simp [Value.oneCell']) (by decide) rfl ?_; clear F M a; intro v13 w a M F
        obtain ⟨av13, cv13, rfl, hlev13, hcmv13, hlv13⟩ := M.row_shape (k := 0) rfl
        refine rl_nil <| ⟨Keep G [.row (.slice (av11) (6) (cv11)) (6) ([.string (str ([117] : List UInt8)), .string (str ([118] : List UInt8)), .string (str ([119] : List UInt8)), .string (str ([107] : List UInt8)), .string (str ([109, 53] : List UInt8)), .string (str ([109, 54] : List UInt8))]) 9 1, .blk b6 [.int .u64 (1 + (((ik : Nat) : Int))), .int .u8 (0), .string (str (Xe5)), .slice (ay) (ny) (cy)] 51, .blk b1 [.int .u16 (((ik : Nat) : Int)), .int .u8 (((it : Nat) : Int)), .slice (ca) (cs.length) (cc)] 42], M.keep (Gle.refl _) (by simp), fun w h => h.mono (Gle.refl _) (by simp), ?_⟩
        have hX9 := in_lit mkS_ok hXe12
        have E14 : Els rdStr 1 G [.string (str (Xe12))] [Xe12] := Els.one ⟨rfl, by have := hX9.1.2; omega⟩ rfl
        refine pk_keep ?_ rfl
        refine rl_append_row F M (k := 2) (k2 := 0) rfl rfl tok49.k tok9 rfl rfl (by decide) rfl rfl (by show _ * 16 ≤ _; (try simp only [List.length_drop, List.length_take, List.length_append, List.length_cons, List.length_nil]); omega) (by (try simp only [List.length_drop, List.length_take, List.length_append, List.length_cons, List.length_nil]); omega) rfl ?_; clear F M a; intro v15 w a M F
        have Ev15 := Els.append Ey E14
        obtain ⟨av15, cv15, rfl, hlev15, hcmv15, hlv15⟩ := M.row_shape (k := 2) rfl
        refine rl_nil <| ⟨Keep G [.row (.slice (av11) (6) (cv11)) (6) ([.string (str ([117] : List UInt8)), .string (str ([118] : List UInt8)), .string (str ([119] : List UInt8)), .string (str ([107] : List UInt8)), .string (str ([109, 53] : List UInt8)), .string (str ([109, 54] : List UInt8))]) 9 1, .blk b6 [.int .u64 (1 + (((ik : Nat) : Int))), .int .u8 (0), .string (str (Xe5)), .slice (ay) (ny) (cy)] 51, .blk b1 [.int .u16 (((ik : Nat) : Int)), .int .u8 (((it : Nat) : Int)), .slice (ca) (cs.length) (cc)] 42], M.keep (Gle.refl _) (by simp), fun w h => h.mono (Gle.refl _) (by simp), ?_⟩
        refine pk_free F (fun w _ => run_fieldAddr tok51.k rfl rfl (F.ev rfl)) rfl ?_; clear F a; intro a F
        refine pk_chg ?_ rfl
        refine rl_store1 F M tok49 rfl (k := 3) rfl rfl rfl rfl rfl ?_; clear F M a; intro w a M F
        refine rl_nil ?_
        change Mem w0 G (.row (.slice (av13) (1) (cv13)) (1) ([.string (str (Xe12))]) 9 1 :: .row (.slice (av11) (6) (cv11)) (6) ([.string (str ([117] : List UInt8)), .string (str ([118] : List UInt8)), .string (str ([119] : List UInt8)), .string (str ([107] : List UInt8)), .string (str ([109, 53] : List UInt8)), .string (str ([109, 54] : List UInt8))]) 9 1 :: .row (.slice (av15) (ny + 1) (cv15)) (ny + 1) (csy ++ ([.string (str (Xe12))])) 9 1 :: .blk b6 [.int .u64 (1 + (((ik : Nat) : Int))), .int .u8 (0), .string (str (Xe5)), .slice (av15) (ny + 1) (cv15)] 51 :: .row (.slice (av4) (4) (cv4)) (4) ([.string (str ([] : List UInt8)), .string (str ([104, 105] : List UInt8)), .string (str ([97, 32, 34, 98, 34] : List UInt8)), .string (str ([48] : List UInt8))]) 9 1 :: .blk b2 [.int .u64 (0), .int .u8 (0), .string (str ([] : List UInt8)), .slice none (0) (0)] 51 :: .blk b1 [.int .u16 (((ik : Nat) : Int)), .int .u8 (((it : Nat) : Int)), .slice (ca) (cs.length) (cc)] 42 :: L) _ at M
        refine ⟨Keep G [.row (.slice (av13) (1) (cv13)) (1) ([.string (str (Xe12))]) 9 1, .row (.slice (av11) (6) (cv11)) (6) ([.string (str ([117] : List UInt8)), .string (str ([118] : List UInt8)), .string (str ([119] : List UInt8)), .string (str ([107] : List UInt8)), .string (str ([109, 53] : List UInt8)), .string (str ([109, 54] : List UInt8))]) 9 1, .row (.slice (av15) (ny + 1) (cv15)) (ny + 1) (csy ++ ([.string (str (Xe12))])) 9 1, .blk b6 [.int .u64 (1 + (((ik : Nat) : Int))), .int .u8 (0), .string (str (Xe5)), .slice (av15) (ny + 1) (cv15)] 51, .row (.slice (av4) (4) (cv4)) (4) ([.string (str ([] : List UInt8)), .string (str ([104, 105] : List UInt8)), .string (str ([97, 32, 34, 98, 34] : List UInt8)), .string (str ([48] : List UInt8))]) 9 1, .blk b2 [.int .u64 (0), .int .u8 (0), .string (str ([] : List UInt8)), .slice none (0) (0)] 51, .blk b1 [.int .u16 (((ik : Nat) : Int)), .int .u8 (((it : Nat) : Int)), .slice (ca) (cs.length) (cc)] 42], M.keep (Gle.refl _) (by simp), ?_⟩
        refine pk_nil <| q_bn <| q_tn <| w_reg <| rl_run F (run_move (F.ev rfl)) rfl ?_; clear F a; intro a F
        refine rl_run F (run_addi (F.ev rfl) (F.ev rfl) (in_i64 (by omega) (by omega))) rfl ?_; clear F a; intro a F
        refine rl_run F (run_assign (F.ev rfl)) rfl ?_; clear F a; intro a F
        refine rl_nil <| q_tn ?_
        exact ⟨_, by omega, i + 1, (xs ++ ([Xe12])), (av15), (ny + 1), (cv15), (csy ++ ([.string (str (Xe12))])), rfl, F.to ⟨rfl, rfl, rfl, rfl, trivial⟩, (M.weaken (.cons _ (.cons _ (.cons_cons _ (.cons_cons _ (.cons_cons _ (.cons_cons _ (.cons_cons _ (List.Sublist.refl _))))))))), by omega, by rw [List.length_append, ← hny]; rfl, by rw [List.length_append]; show _ + 1 ≤ _; omega, (by intro s hs; exact (List.mem_append.1 hs).elim (hA s) (fun hs => by rw [List.mem_singleton.1 hs]; exact in_lit mkS_ok hXe12)), Ev15⟩
      · intro hc
        have h16b := hc; clear hc
        have h16 : ¬ (((i : Nat) : Int) < 4) := of_decide_eq_false h16b
        refine wp_exit ?_
        iterate 2 (refine q_te ?_)
        refine q_bh <| q_tn <| wp_seq <| w_reg <| rl_run F (run_loadA tok51 rfl (F.ev rfl) (cs := [.int .u64 (1 + (((ik : Nat) : Int))), .int .u8 (0), .string (str (Xe5)), .slice (ay) (ny) (cy)]) rfl (M.cellsL (k := 1) rfl rfl)) rfl ?_; clear F a; intro a F
        refine rl_storeA F M tok51 (k := 3) rfl rfl rfl (us := [.int .u64 (1 + (((ik : Nat) : Int))), .int .u8 (0), .string (str (Xe5)), .slice (ay) (ny) (cy)]) rfl rfl (by simp [Value.oneCell']) (by simp) ?_; clear F M a; intro w a M F
        change Mem w0 G (.row (.slice (ay) (ny) (cy)) (ny) (csy) 9 1 :: .blk b6 [.int .u64 (1 + (((ik : Nat) : Int))), .int .u8 (0), .string (str (Xe5)), .slice (ay) (ny) (cy)] 51 :: .row (.slice (av4) (4) (cv4)) (4) ([.string (str ([] : List UInt8)), .string (str ([104, 105] : List UInt8)), .string (str ([97, 32, 34, 98, 34] : List UInt8)), .string (str ([48] : List UInt8))]) 9 1 :: .blk b2 [.int .u64 (1 + (((ik : Nat) : Int))), .int .u8 (0), .string (str (Xe5)), .slice (ay) (ny) (cy)] 51 :: .blk b1 [.int .u16 (((ik : Nat) : Int)), .int .u8 (((it : Nat) : Int)), .slice (ca) (cs.length) (cc)] 42 :: L) _ at M
        refine rl_nil <| q_tn <| wp_ret <| fin_c F M (k := 3) rfl rfl tok51 rfl rfl rfl ?_
        obtain ⟨hnz17, Gz17, az17, cz17, hGz17, hez17, Sz17, M⟩ := M.freeze_row mono_rdStr (k := 0) rfl Ey (by decide)
        clear hez17 az17 cz17
        exact ⟨Gz17, ((Gle.refl _).trans hGz17), M.weaken (.cons _ (.cons _ (.cons _ (.cons _ (List.Sublist.refl _))))), ⟨1 + (((ik : Nat) : Int)), 0, Xe5, xs⟩, _, _, by rw [hny], ⟨by show ¬ (1 + (((ik : Nat) : Int)) : Int) = 0; omega, in_lit itS_ok hXe5, by show xs.length ≤ 8; omega, hA⟩, ⟨by show (0 : Int) ≤ 1 + (((ik : Nat) : Int)); omega, by show 1 + (((ik : Nat) : Int)) ≤ (18446744073709551615 : Int); omega⟩, by have h_ := Sz17; rw [hny] at h_; exact h_⟩
    · skip
      have h18b := hc; clear hc
      have h18 : ¬ (((i : Nat) : Int) < ((cs.length : Nat) : Int)) := of_decide_eq_false h18b
      iterate 2 (refine rl_guard_f F rfl rfl rfl h18b ?_; clear F a; intro a F)
      refine rl_run F (run_pick_f (F.ev rfl) h18b (F.ev rfl)) rfl ?_; clear F a; intro a F
      refine rl_nil <| q_tn <| w_cond_f F rfl rfl ?_
      refine wp_exit ?_
      iterate 2 (refine q_te ?_)
      refine q_bh <| q_tn <| wp_seq <| w_reg <| rl_run F (run_loadA tok51 rfl (F.ev rfl) (cs := [.int .u64 (1 + (((ik : Nat) : Int))), .int .u8 (0), .string (str (Xe5)), .slice (ay) (ny) (cy)]) rfl (M.cellsL (k := 1) rfl rfl)) rfl ?_; clear F a; intro a F
      refine rl_storeA F M tok51 (k := 3) rfl rfl rfl (us := [.int .u64 (1 + (((ik : Nat) : Int))), .int .u8 (0), .string (str (Xe5)), .slice (ay) (ny) (cy)]) rfl rfl (by simp [Value.oneCell']) (by simp) ?_; clear F M a; intro w a M F
      change Mem w0 G (.row (.slice (ay) (ny) (cy)) (ny) (csy) 9 1 :: .blk b6 [.int .u64 (1 + (((ik : Nat) : Int))), .int .u8 (0), .string (str (Xe5)), .slice (ay) (ny) (cy)] 51 :: .row (.slice (av4) (4) (cv4)) (4) ([.string (str ([] : List UInt8)), .string (str ([104, 105] : List UInt8)), .string (str ([97, 32, 34, 98, 34] : List UInt8)), .string (str ([48] : List UInt8))]) 9 1 :: .blk b2 [.int .u64 (1 + (((ik : Nat) : Int))), .int .u8 (0), .string (str (Xe5)), .slice (ay) (ny) (cy)] 51 :: .blk b1 [.int .u16 (((ik : Nat) : Int)), .int .u8 (((it : Nat) : Int)), .slice (ca) (cs.length) (cc)] 42 :: L) _ at M
      refine rl_nil <| q_tn <| wp_ret <| fin_c F M (k := 3) rfl rfl tok51 rfl rfl rfl ?_
      obtain ⟨hnz19, Gz19, az19, cz19, hGz19, hez19, Sz19, M⟩ := M.freeze_row mono_rdStr (k := 0) rfl Ey (by decide)
      clear hez19 az19 cz19
      exact ⟨Gz19, ((Gle.refl _).trans hGz19), M.weaken (.cons _ (.cons _ (.cons _ (.cons _ (List.Sublist.refl _))))), ⟨1 + (((ik : Nat) : Int)), 0, Xe5, xs⟩, _, _, by rw [hny], ⟨by show ¬ (1 + (((ik : Nat) : Int)) : Int) = 0; omega, in_lit itS_ok hXe5, by show xs.length ≤ 8; omega, hA⟩, ⟨by show (0 : Int) ≤ 1 + (((ik : Nat) : Int)); omega, by show 1 + (((ik : Nat) : Int)) ≤ (18446744073709551615 : Int); omega⟩, by have h_ := Sz19; rw [hny] at h_; exact h_⟩
  refine pt_act ?_ rfl ?_
  · skip
    refine rl_alloc F M tok51 rfl rfl ?_; clear F M a; intro b20 w a M F
    refine rl_nil <| ⟨Keep G [.blk b1 [.int .u16 (((ik : Nat) : Int)), .int .u8 (((it : Nat) : Int)), .slice (ca) (cs.length) (cc)] 42], M.keep (Gle.refl _) (by simp), fun w h => h.mono (Gle.refl _) (by simp), ?_⟩
    refine pt_act ?_ rfl pt_no
    refine rl_buildSliceN F M tok49.k tok9 (ps := [(0, .string (str ([] : List UInt8))), (1, .string (str ([104, 105] : List UInt8))), (2, .string (str ([97, 32, 34, 98, 34] : List UInt8))), (3, .string (str ([48] : List UInt8)))]) (cs := [[.string (str ([] : List UInt8))], [.string (str ([104, 105] : List UInt8))], [.string (str ([97, 32, 34, 98, 34] : List UInt8))], [.string (str ([48] : List UInt8))]]) (fl := [.string (str ([] : List UInt8)), .string (str ([104, 105] : List UInt8)), .string (str ([97, 32, 34, 98, 34] : List UInt8)), .string (str ([48] : List UInt8))]) rfl rfl (by simp [Parts, Value.cells]) (by simp [ti9]) rfl (by simp [Value.oneCell']) (by decide) (by decide) rfl ?_; clear F M a; intro v22 w a M F
    obtain ⟨av22, cv22, rfl, hlev22, hcmv22, hlv22⟩ := M.row_shape (k := 0) rfl
    refine rl_nil ?_
    change Mem w0 G (.row (.slice (av22) (4) (cv22)) (4) ([.string (str ([] : List UInt8)), .string (str ([104, 105] : List UInt8)), .string (str ([97, 32, 34, 98, 34] : List UInt8)), .string (str ([48] : List UInt8))]) 9 1 :: .blk b20 [.int .u64 (0), .int .u8 (0), .string (str ([] : List UInt8)), .slice none (0) (0)] 51 :: .blk b2 [.int .u64 (0), .int .u8 (0), .string (str ([] : List UInt8)), .slice none (0) (0)] 51 :: .blk b1 [.int .u16 (((ik : Nat) : Int)), .int .u8 (((it : Nat) : Int)), .slice (ca) (cs.length) (cc)] 42 :: L) _ at M
    refine ⟨Keep G [.row (.slice (av22) (4) (cv22)) (4) ([.string (str ([] : List UInt8)), .string (str ([104, 105] : List UInt8)), .string (str ([97, 32, 34, 98, 34] : List UInt8)), .string (str ([48] : List UInt8))]) 9 1, .blk b1 [.int .u16 (((ik : Nat) : Int)), .int .u8 (((it : Nat) : Int)), .slice (ca) (cs.length) (cc)] 42], M.keep (Gle.refl _) (by simp), fun w h => h.mono (Gle.refl _) (by simp), ?_⟩
    obtain ⟨Xe23, hXe23⟩ := get_of_lt (xs := itS) (i := it % 4) (by show _ < 4; omega)
    obtain ⟨be23, _, Ie23, hme23, _, Ae23, ⟨rfl, hsle23⟩⟩ := M.atRowK (k := 0) rfl (by decide) itE (Lr := [.row (.slice (av22) (4) (cv22)) (4) ([.string (str ([] : List UInt8)), .string (str ([104, 105] : List UInt8)), .string (str ([97, 32, 34, 98, 34] : List UInt8)), .string (str ([48] : List UInt8))]) 9 1, .blk b1 [.int .u16 (((ik : Nat) : Int)), .int .u8 (((it : Nat) : Int)), .slice (ca) (cs.length) (cc)] 42]) (k' := 0) rfl hXe23
    refine pt_run F (fun w M => run_indexI tok49.k tok9 (F.ev rfl) (F.ev rfl) (by omega) Ie23) rfl ?_; clear F a; intro a F
    refine pt_run F (fun w M => run_load1 (agf tok9 rfl) (F.ev rfl) (cellE (Ae23 w M) 0 (by omega) rfl)) rfl ?_; clear F a; intro a F
    refine pt_run F (fun w M => run_buildS (cs := [.int .u64 (1 + (((ik : Nat) : Int))), .int .u8 (0), .string (str (Xe23)), .slice none (0) (0)]) (ps := [(0, .int .u64 (1 + (((ik : Nat) : Int)))), (2, .string (str (Xe23)))]) tok51.k rfl tok51 (F.evp rfl) rfl) rfl ?_; clear F a; intro a F
    refine pt_act ?_ rfl pt_no
    refine rl_storeA F M tok51 (k := 1) rfl rfl rfl (us := [.int .u64 (1 + (((ik : Nat) : Int))), .int .u8 (0), .string (str (Xe23)), .slice none (0) (0)]) rfl rfl (by simp [Value.oneCell']) (by simp) ?_; clear F M a; intro w a M F
    change Mem w0 G (.row (.slice (av22) (4) (cv22)) (4) ([.string (str ([] : List UInt8)), .string (str ([104, 105] : List UInt8)), .string (str ([97, 32, 34, 98, 34] : List UInt8)), .string (str ([48] : List UInt8))]) 9 1 :: .blk b20 [.int .u64 (1 + (((ik : Nat) : Int))), .int .u8 (0), .string (str (Xe23)), .slice none (0) (0)] 51 :: .blk b2 [.int .u64 (0), .int .u8 (0), .string (str ([] : List UInt8)), .slice none (0) (0)] 51 :: .blk b1 [.int .u16 (((ik : Nat) : Int)), .int .u8 (((it : Nat) : Int)), .slice (ca) (cs.length) (cc)] 42 :: L) _ at M
    refine rl_nil <| ⟨Keep G [.row (.slice (av22) (4) (cv22)) (4) ([.string (str ([] : List UInt8)), .string (str ([104, 105] : List UInt8)), .string (str ([97, 32, 34, 98, 34] : List UInt8)), .string (str ([48] : List UInt8))]) 9 1, .blk b1 [.int .u16 (((ik : Nat) : Int)), .int .u8 (((it : Nat) : Int)), .slice (ca) (cs.length) (cc)] 42], M.keep (Gle.refl _) (by simp), fun w h => h.mono (Gle.refl _) (by simp), ?_⟩
    refine pt_fin <| q_tn ?_
    iterate 2 (refine wp_seq ?_)
    refine w_reg <| rl_run F (run_assign (F.ev rfl)) rfl ?_; clear F a; intro a F
    refine rl_nil <| q_tn <| wp_block ?_
    have M := M.nilrow 9 1
    refine w_loopN (fun m a' w' => ∃ (i : Nat), ∃ (xs : List (List UInt8)), ∃ (ay : Option Addr), ∃ (ny : Nat), ∃ (cy : Nat), ∃ (csy : List Value), m = 4 - i ∧ Fits 42 a' [(1, .pointer (some ⟨b1, 0, none⟩)), (2, .pointer (some ⟨b2, 0, none⟩)), (3, .pointer (some ⟨b20, 0, none⟩)), (4, .int .i64 (((i : Nat) : Int)))] ∧ Mem w0 G (.row (.slice (ay) (ny) (cy)) (ny) (csy) 9 1 :: .row (.slice (av22) (4) (cv22)) (4) ([.string (str ([] : List UInt8)), .string (str ([104, 105] : List UInt8)), .string (str ([97, 32, 34, 98, 34] : List UInt8)), .string (str ([48] : List UInt8))]) 9 1 :: .blk b20 [.int .u64 (1 + (((ik : Nat) : Int))), .int .u8 (0), .string (str (Xe23)), .slice (ay) (ny) (cy)] 51 :: .blk b2 [.int .u64 (0), .int .u8 (0), .string (str ([] : List UInt8)), .slice none (0) (0)] 51 :: .blk b1 [.int .u16 (((ik : Nat) : Int)), .int .u8 (((it : Nat) : Int)), .slice (ca) (cs.length) (cc)] 42 :: L) w' ∧ (i ≤ 4) ∧ (ny = xs.length) ∧ (xs.length ≤ i) ∧ (∀ s ∈ xs, Name s) ∧ (Els rdStr 1 G csy xs)) _ ⟨0, [], none, 0, 0, [], rfl, F.to ⟨rfl, rfl, rfl, rfl, trivial⟩, M, by omega, rfl, by simp, by simp, Els.nil⟩ ?_
    clear F M
    rintro m a w ⟨i, xs, ay, ny, cy, csy, rfl, F, M, hi, hny, hxl, hA, Ey⟩
    iterate 2 (refine wp_seq ?_)
    refine w_reg <| rl_run F (run_move (F.ev rfl)) rfl ?_; clear F a; intro a F
    refine rl_run F (run_fieldAddr tok42.k rfl rfl (F.ev rfl)) rfl ?_; clear F a; intro a F
    refine rl_run F (run_load1 (agf tok22 rfl) (F.ev rfl) (M.cellL (k := 4) rfl rfl)) rfl ?_; clear F a; intro a F
    refine rl_run F (run_lenSl tok22.k (F.ev rfl)) rfl ?_; clear F a; intro a F
    refine rl_run F (run_lss (F.ev rfl) (F.ev rfl)) rfl ?_; clear F a; intro a F
    refine rl_run F (run_move (F.ev rfl)) rfl ?_; clear F a; intro a F
    rcases Bool.eq_false_or_eq_true (decide (((i : Nat) : Int) < ((cs.length : Nat) : Int))) with hc | hc
    · skip
      have h24b := hc; clear hc
      have h24 : ((i : Nat) : Int) < ((cs.length : Nat) : Int) := of_decide_eq_true h24b
      refine rl_guard_t F rfl rfl rfl h24b ?_
      refine rl_run F (run_move (F.ev rfl)) rfl ?_; clear F a; intro a F
      refine rl_guard_t F rfl rfl rfl h24b ?_
      refine rl_run F (run_lss (F.ev rfl) (F.ev rfl)) rfl ?_; clear F a; intro a F
      refine rl_run F (run_pick_t (F.ev rfl) h24b (F.ev rfl)) rfl ?_; clear F a; intro a F
      refine rl_nil <| q_tn <| w_cond F rfl ?_ ?_
      · intro hc
        have h25b := hc; clear hc
        have h25 : ((i : Nat) : Int) < 4 := of_decide_eq_true h25b
        refine wp_skip <| q_tn <| wp_seq <| wp_block <| w_plan3 [(.free, 0), (.pure, 1), (.free, 3), (.pure, 4), (.free, 5), (.free, 6), (.pure, 7), (.free, 8), (.keep, 2), (.free, 9), (.pure, 10), (.keep, 11), (.keep, 12), (.free, 13), (.chg, 14)] [14] (Keep G [.blk b20 [.int .u64 (1 + (((ik : Nat) : Int))), .int .u8 (0), .string (str (Xe23)), .slice (ay) (ny) (cy)] 51, .blk b1 [.int .u16 (((ik : Nat) : Int)), .int .u8 (((it : Nat) : Int)), .slice (ca) (cs.length) (cc)] 42]) rfl (by kernel_rfl) (fun c a d v w h => by cases d <;> exact h) ((M.drew _).keep (Gle.refl _) (by simp)) ?_
        replace M := M.drew (w.drawn + 1)
        refine pk_free F (fun w _ => run_fieldAddr tok51.k rfl rfl (F.ev rfl)) rfl ?_; clear F a; intro a F
        refine pk_pure F (fun w M => run_load1 (agf tok49 rfl) (F.ev rfl) (M.cellL (k := 0) rfl rfl)) rfl ?_; clear F a; intro a F
        refine pk_free F (fun w _ => run_fieldAddr tok42.k rfl rfl (F.ev rfl)) rfl ?_; clear F a; intro a F
        refine pk_pure F (fun w M => run_load1 (agf tok22 rfl) (F.ev rfl) (M.cellL (k := 1) rfl rfl)) rfl ?_; clear F a; intro a F
        refine pk_free F (fun w _ => run_move (F.ev rfl)) rfl ?_; clear F a; intro a F
        obtain ⟨Xe26, hXe26⟩ := get_of_lt (xs := cs) (i := i) (by omega)
        obtain ⟨be26, oe26, _, Ie26, _, Ae26, rfl⟩ := S.at hXe26
        refine pk_free F (fun w _ => run_indexI tok22.k tok5 (F.ev rfl) (F.ev rfl) (by omega) Ie26) rfl ?_; clear F a; intro a F
        refine pk_pure F (fun w M => run_load1 (agf tok5 rfl) (F.ev rfl) (M.cellA Ae26 0 (by omega) rfl)) rfl ?_; clear F a; intro a F
        have hnb9 : nb Xe26 = ((Xe26.toNat : Nat) : Int) := rfl
        have hnb8 := UInt8.toNat_lt Xe26
        refine pk_free F (fun w _ => run_remi (F.ev rfl) (F.ev rfl) (by omega) (by omega)) rfl ?_; clear F a; intro a F
        refine pk_keep ?_ rfl
        refine rl_buildSliceN F M tok49.k tok9 (ps := [(0, .string (str ([117] : List UInt8))), (1, .string (str ([118] : List UInt8))), (2, .string (str ([119] : List UInt8))), (3, .string (str ([107] : List UInt8))), (4, .string (str ([109, 53] : List UInt8))), (5, .string (str ([109, 54] : List UInt8)))]) (cs := [[.string (str ([117] : List UInt8))], [.string (str ([118] : List UInt8))], [.string (str ([119] : List UInt8))], [.string (str ([107] : List UInt8))], [.string (str ([109, 53] : List UInt8))], [.string (str ([109, 54] : List UInt8))]]) (fl := [.string (str ([117] : List UInt8)), .string (str ([118] : List UInt8)), .string (str ([119] : List UInt8)), .string (str ([107] : List UInt8)), .string (str ([109, 53] : List UInt8)), .string (str ([109, 54] : List UInt8))]) rfl rfl (by simp [Parts, Value.cells]) (by simp [ti9]) rfl (by simp [Value.oneCell']) (by decide) (by decide) rfl ?_; clear F M a; intro v27 w a M F
        obtain ⟨av27, cv27, rfl, hlev27, hcmv27, hlv27⟩ := M.row_shape (k := 0) rfl
        refine rl_nil ?_
        change Mem w0 G (.row (.slice (av27) (6) (cv27)) (6) ([.string (str ([117] : List UInt8)), .string (str ([118] : List UInt8)), .string (str ([119] : List UInt8)), .string (str ([107] : List UInt8)), .string (str ([109, 53] : List UInt8)), .string (str ([109, 54] : List UInt8))]) 9 1 :: .row (.slice (ay) (ny) (cy)) (ny) (csy) 9 1 :: .row (.slice (av22) (4) (cv22)) (4) ([.string (str ([] : List UInt8)), .string (str ([104, 105] : List UInt8)), .string (str ([97, 32, 34, 98, 34] : List UInt8)), .string (str ([48] : List UInt8))]) 9 1 :: .blk b20 [.int .u64 (1 + (((ik : Nat) : Int))), .int .u8 (0), .string (str (Xe23)), .slice (ay) (ny) (cy)] 51 :: .blk b2 [.int .u64 (0), .int .u8 (0), .string (str ([] : List UInt8)), .slice none (0) (0)] 51 :: .blk b1 [.int .u16 (((ik : Nat) : Int)), .int .u8 (((it : Nat) : Int)), .slice (ca) (cs.length) (cc)] 42 :: L) _ at M
        refine ⟨Keep G [.row (.slice (av27) (6) (cv27)) (6) ([.string (str ([117] : List UInt8)), .string (str ([118] : List UInt8)), .string (str ([119] : List UInt8)), .string (str ([107] : List UInt8)), .string (str ([109, 53] : List UInt8)), .string (str ([109, 54] : List UInt8))]) 9 1, .blk b20 [.int .u64 (1 + (((ik : Nat) : Int))), .int .u8 (0), .string (str (Xe23)), .slice (ay) (ny) (cy)] 51, .blk b1 [.int .u16 (((ik : Nat) : Int)), .int .u8 (((it : Nat) : Int)), .slice (ca) (cs.length) (cc)] 42], M.keep (Gle.refl _) (by simp), fun w h => h.mono (Gle.refl _) (by simp), ?_⟩
        obtain ⟨Xe28, hXe28⟩ := get_of_lt (xs := mkS) (i := Xe26.toNat % 6) (by show _ < 6; omega)
        obtain ⟨be28, _, Ie28, hme28, _, Ae28, ⟨rfl, hsle28⟩⟩ := M.atRowK (k := 0) rfl (by decide) mkE (Lr := [.row (.slice (av27) (6) (cv27)) (6) ([.string (str ([117] : List UInt8)), .string (str ([118] : List UInt8)), .string (str ([119] : List UInt8)), .string (str ([107] : List UInt8)), .string (str ([109, 53] : List UInt8)), .string (str ([109, 54] : List UInt8))]) 9 1, .blk b20 [.int .u64 (1 + (((ik : Nat) : Int))), .int .u8 (0), .string (str (Xe23)), .slice (ay) (ny) (cy)] 51, .blk b1 [.int .u16 (((ik : Nat) : Int)), .int .u8 (((it : Nat) : Int)), .slice (ca) (cs.length) (cc)] 42]) (k' := 0) rfl hXe28
        refine pk_free F (fun w _ => run_indexI tok49.k tok9 (F.ev rfl) (F.ev rfl) (by omega) Ie28) rfl ?_; clear F a; intro a F
        refine pk_pure F (fun w M => run_load1 (agf tok9 rfl) (F.ev rfl) (cellE (Ae28 w M) 0 (by omega) rfl)) rfl ?_; clear F a; intro a F
        refine pk_keep ?_ rfl
        refine rl_buildSlice1 F M tok49.k tok9 rfl rfl (cs := [.string (str (Xe28))]) rfl rfl (by simp [Value.oneCell']) (by decide) rfl ?_; clear F M a; intro v29 w a M F
        obtain ⟨av29, cv29, rfl, hlev29, hcmv29, hlv29⟩ := M.row_shape (k := 0) rfl
        refine rl_nil <| ⟨Keep G [.row (.slice (av27) (6) (cv27)) (6) ([.string (str ([117] : List UInt8)), .string (str ([118] : List UInt8)), .string (str ([119] : List UInt8)), .string (str ([107] : List UInt8)), .string (str ([109, 53] : List UInt8)), .string (str ([109, 54] : List UInt8))]) 9 1, .blk b20 [.int .u64 (1 + (((ik : Nat) : Int))), .int .u8 (0), .string (str (Xe23)), .slice (ay) (ny) (cy)] 51, .blk b1 [.int .u16 (((ik : Nat) : Int)), .int .u8 (((it : Nat) : Int)), .slice (ca) (cs.length) (cc)] 42], M.keep (Gle.refl _) (by simp), fun w h => h.mono (Gle.refl _) (by simp), ?_⟩
        have hX9 := in_lit mkS_ok hXe28
        have E30 : Els rdStr 1 G [.string (str (Xe28))] [Xe28] := Els.one ⟨rfl, by have := hX9.1.2; omega⟩ rfl
        refine pk_keep ?_ rfl
        refine rl_append_row F M (k := 2) (k2 := 0) rfl rfl tok49.k tok9 rfl rfl (by decide) rfl rfl (by show _ * 16 ≤ _; (try simp only [List.length_drop, List.length_take, List.length_append, List.length_cons, List.length_nil]); omega) (by (try simp only [List.length_drop, List.length_take, List.length_append, List.length_cons, List.length_nil]); omega) rfl ?_; clear F M a; intro v31 w a M F
        have Ev31 := Els.append Ey E30
        obtain ⟨av31, cv31, rfl, hlev31, hcmv31, hlv31⟩ := M.row_shape (k := 2) rfl
        refine rl_nil <| ⟨Keep G [.row (.slice (av27) (6) (cv27)) (6) ([.string (str ([117] : List UInt8)), .string (str ([118] : List UInt8)), .string (str ([119] : List UInt8)), .string (str ([107] : List UInt8)), .string (str ([109, 53] : List UInt8)), .string (str ([109, 54] : List UInt8))]) 9 1, .blk b20 [.int .u64 (1 + (((ik : Nat) : Int))), .int .u8 (0), .string (str (Xe23)), .slice (ay) (ny) (cy)] 51, .blk b1 [.int .u16 (((ik : Nat) : Int)), .int .u8 (((it : Nat) : Int)), .slice (ca) (cs.length) (cc)] 42], M.keep (Gle.refl _) (by simp), fun w h => h.mono (Gle.refl _) (by simp), ?_⟩
        refine pk_free F (fun w _ => run_fieldAddr tok51.k rfl rfl (F.ev rfl)) rfl ?_; clear F a; intro a F
        refine pk_chg ?_ rfl
        refine rl_store1 F M tok49 rfl (k := 4) rfl rfl rfl rfl rfl ?_; clear F M a; intro w a M F
        refine rl_nil ?_
        change Mem w0 G (.row (.slice (av29) (1) (cv29)) (1) ([.string (str (Xe28))]) 9 1 :: .row (.slice (av27) (6) (cv27)) (6) ([.string (str ([117] : List UInt8)), .string (str ([118] : List UInt8)), .string (str ([119] : List UInt8)), .string (str ([107] : List UInt8)), .string (str ([109, 53] : List UInt8)), .string (str ([109, 54] : List UInt8))]) 9 1 :: .row (.slice (av31) (ny + 1) (cv31)) (ny + 1) (csy ++ ([.string (str (Xe28))])) 9 1 :: .row (.slice (av22) (4) (cv22)) (4) ([.string (str ([] : List UInt8)), .string (str ([104, 105] : List UInt8)), .string (str ([97, 32, 34, 98, 34] : List UInt8)), .string (str ([48] : List UInt8))]) 9 1 :: .blk b20 [.int .u64 (1 + (((ik : Nat) : Int))), .int .u8 (0), .string (str (Xe23)), .slice (av31) (ny + 1) (cv31)] 51 :: .blk b2 [.int .u64 (0), .int .u8 (0), .string (str ([] : List UInt8)), .slice none (0) (0)] 51 :: .blk b1 [.int .u16 (((ik : Nat) : Int)), .int .u8 (((it : Nat) : Int)), .slice (ca) (cs.length) (cc)] 42 :: L) _ at M
        refine ⟨Keep G [.row (.slice (av29) (1) (cv29)) (1) ([.string (str (Xe28))]) 9 1, .row (.slice (av27) (6) (cv27)) (6) ([.string (str ([117] : List UInt8)), .string (str ([118] : List UInt8)), .string (str ([119] : List UInt8)), .string (str ([107] : List UInt8)), .string (str ([109, 53] : List UInt8)), .string (str ([109, 54] : List UInt8))]) 9 1, .row (.slice (av31) (ny + 1) (cv31)) (ny + 1) (csy ++ ([.string (str (Xe28))])) 9 1, .row (.slice (av22) (4) (cv22)) (4) ([.string (str ([] : List UInt8)), .string (str ([104, 105] : List UInt8)), .string (str ([97, 32, 34, 98, 34] : List UInt8)), .string (str ([48] : List UInt8))]) 9 1, .blk b20 [.int .u64 (1 + (((ik : Nat) : Int))), .int .u8 (0), .string (str (Xe23)), .slice (av31) (ny + 1) (cv31)] 51, .blk b2 [.int .u64 (0), .int .u8 (0), .string (str ([] : List UInt8)), .slice none (0) (0)] 51, .blk b1 [.int .u16 (((ik : Nat) : Int)), .int .u8 (((it : Nat) : Int)), .slice (ca) (cs.length) (cc)] 42], M.keep (Gle.refl _) (by simp), ?_⟩
        refine pk_nil <| q_bn <| q_tn <| w_reg <| rl_run F (run_move (F.ev rfl)) rfl ?_; clear F a; intro a F
        refine rl_run F (run_addi (F.ev rfl) (F.ev rfl) (in_i64 (by omega) (by omega))) rfl ?_; clear F a; intro a F
        refine rl_run F (run_assign (F.ev rfl)) rfl ?_; clear F a; intro a F
        refine rl_nil <| q_tn ?_
        exact ⟨_, by omega, i + 1, (xs ++ ([Xe28])), (av31), (ny + 1), (cv31), (csy ++ ([.string (str (Xe28))])), rfl, F.to ⟨rfl, rfl, rfl, rfl, trivial⟩, (M.weaken (.cons _ (.cons _ (.cons_cons _ (.cons_cons _ (.cons_cons _ (.cons_cons _ (.cons_cons _ (List.Sublist.refl _))))))))), by omega, by rw [List.length_append, ← hny]; rfl, by rw [List.length_append]; show _ + 1 ≤ _; omega, (by intro s hs; exact (List.mem_append.1 hs).elim (hA s) (fun hs => by rw [List.mem_singleton.1 hs]; exact in_lit mkS_ok hXe28)), Ev31⟩
      · intro hc
        have h32b := hc; clear hc
        have h32 : ¬ (((i : Nat) : Int) < 4) := of_decide_eq_false h32b
        refine wp_exit ?_
        iterate 2 (refine q_te ?_)
        refine q_bh <| q_tn <| wp_seq <| w_reg <| rl_run F (run_loadA tok51 rfl (F.ev rfl) (cs := [.int .u64 (1 + (((ik : Nat) : Int))), .int .u8 (0), .string (str (Xe23)), .slice (ay) (ny) (cy)]) rfl (M.cellsL (k := 2) rfl rfl)) rfl ?_; clear F a; intro a F
        refine rl_storeA F M tok51 (k := 3) rfl rfl rfl (us := [.int .u64 (1 + (((ik : Nat) : Int))), .int .u8 (0), .string (str (Xe23)), .slice (ay) (ny) (cy)]) rfl rfl (by simp [Value.oneCell']) (by simp) ?_; clear F M a; intro w a M F
        change Mem w0 G (.row (.slice (ay) (ny) (cy)) (ny) (csy) 9 1 :: .row (.slice (av22) (4) (cv22)) (4) ([.string (str ([] : List UInt8)), .string (str ([104, 105] : List UInt8)), .string (str ([97, 32, 34, 98, 34] : List UInt8)), .string (str ([48] : List UInt8))]) 9 1 :: .blk b20 [.int .u64 (1 + (((ik : Nat) : Int))), .int .u8 (0), .string (str (Xe23)), .slice (ay) (ny) (cy)] 51 :: .blk b2 [.int .u64 (1 + (((ik : Nat) : Int))), .int .u8 (0), .string (str (Xe23)), .slice (ay) (ny) (cy)] 51 :: .blk b1 [.int .u16 (((ik : Nat) : Int)), .int .u8 (((it : Nat) : Int)), .slice (ca) (cs.length) (cc)] 42 :: L) _ at M
        refine rl_nil <| q_tn <| wp_ret <| fin_c F M (k := 3) rfl rfl tok51 rfl rfl rfl ?_
        obtain ⟨hnz33, Gz33, az33, cz33, hGz33, hez33, Sz33, M⟩ := M.freeze_row mono_rdStr (k := 0) rfl Ey (by decide)
        clear hez33 az33 cz33
        exact ⟨Gz33, ((Gle.refl _).trans hGz33), M.weaken (.cons _ (.cons _ (.cons _ (.cons _ (List.Sublist.refl _))))), ⟨1 + (((ik : Nat) : Int)), 0, Xe23, xs⟩, _, _, by rw [hny], ⟨by show ¬ (1 + (((ik : Nat) : Int)) : Int) = 0; omega, in_lit itS_ok hXe23, by show xs.length ≤ 8; omega, hA⟩, ⟨by show (0 : Int) ≤ 1 + (((ik : Nat) : Int)); omega, by show 1 + (((ik : Nat) : Int)) ≤ (18446744073709551615 : Int); omega⟩, by have h_ := Sz33; rw [hny] at h_; exact h_⟩
    · skip
      have h34b := hc; clear hc
      have h34 : ¬ (((i : Nat) : Int) < ((cs.length : Nat) : Int)) := of_decide_eq_false h34b
      iterate 2 (refine rl_guard_f F rfl rfl rfl h34b ?_; clear F a; intro a F)
      refine rl_run F (run_pick_f (F.ev rfl) h34b (F.ev rfl)) rfl ?_; clear F a; intro a F
      refine rl_nil <| q_tn <| w_cond_f F rfl rfl ?_
      refine wp_exit ?_
      iterate 2 (refine q_te ?_)
      refine q_bh <| q_tn <| wp_seq <| w_reg <| rl_run F (run_loadA tok51 rfl (F.ev rfl) (cs := [.int .u64 (1 + (((ik : Nat) : Int))), .int .u8 (0), .string (str (Xe23)), .slice (ay) (ny) (cy)]) rfl (M.cellsL (k := 2) rfl rfl)) rfl ?_; clear F a; intro a F
      refine rl_storeA F M tok51 (k := 3) rfl rfl rfl (us := [.int .u64 (1 + (((ik : Nat) : Int))), .int .u8 (0), .string (str (Xe23)), .slice (ay) (ny) (cy)]) rfl rfl (by simp [Value.oneCell']) (by simp) ?_; clear F M a; intro w a M F
      change Mem w0 G (.row (.slice (ay) (ny) (cy)) (ny) (csy) 9 1 :: .row (.slice (av22) (4) (cv22)) (4) ([.string (str ([] : List UInt8)), .string (str ([104, 105] : List UInt8)), .string (str ([97, 32, 34, 98, 34] : List UInt8)), .string (str ([48] : List UInt8))]) 9 1 :: .blk b20 [.int .u64 (1 + (((ik : Nat) : Int))), .int .u8 (0), .string (str (Xe23)), .slice (ay) (ny) (cy)] 51 :: .blk b2 [.int .u64 (1 + (((ik : Nat) : Int))), .int .u8 (0), .string (str (Xe23)), .slice (ay) (ny) (cy)] 51 :: .blk b1 [.int .u16 (((ik : Nat) : Int)), .int .u8 (((it : Nat) : Int)), .slice (ca) (cs.length) (cc)] 42 :: L) _ at M
      refine rl_nil <| q_tn <| wp_ret <| fin_c F M (k := 3) rfl rfl tok51 rfl rfl rfl ?_
      obtain ⟨hnz35, Gz35, az35, cz35, hGz35, hez35, Sz35, M⟩ := M.freeze_row mono_rdStr (k := 0) rfl Ey (by decide)
      clear hez35 az35 cz35
      exact ⟨Gz35, ((Gle.refl _).trans hGz35), M.weaken (.cons _ (.cons _ (.cons _ (.cons _ (List.Sublist.refl _))))), ⟨1 + (((ik : Nat) : Int)), 0, Xe23, xs⟩, _, _, by rw [hny], ⟨by show ¬ (1 + (((ik : Nat) : Int)) : Int) = 0; omega, in_lit itS_ok hXe23, by show xs.length ≤ 8; omega, hA⟩, ⟨by show (0 : Int) ≤ 1 + (((ik : Nat) : Int)); omega, by show 1 + (((ik : Nat) : Int)) ≤ (18446744073709551615 : Int); omega⟩, by have h_ := Sz35; rw [hny] at h_; exact h_⟩
  exact pt_no
end Go.Proofs.YtlnehkjmmegkhaaGreat
