/- The walks, part Q. -/
import Derived.Test.YtlnehkjmmegkhaaGreatWalkP
namespace Go.Proofs.YtlnehkjmmegkhaaGreat
open Go Go.Y Go.Proofs
set_option linter.unusedSimpArgs false
set_option linter.unusedVariables false
theorem run_shrN {P : Program} {w : World} {t : TypeId} {p : String} {af : Array Edge} {ρ : Operand → Value} {dd : Option Tmp} {g : Option (Nat × Bool)} {x y : Operand} {ty yt : TypeId} {k yk : IntKind} {a b : Int} {n m : Nat} (hx : ρ x = .int k a) (hy : ρ y = .int yk b) (ha : a = (n : Int)) (hb : b = (m : Int)) (hm : m ≤ k.bits) :
    (execOp ρ ⟨dd, .binOp .shr ty x y yt, t, p, af, g⟩).run P w = .ok (.value (.int k ((n / 2 ^ m : Nat) : Int))) w := by
  subst ha
  have := run_shri (P := P) (w := w) (t := t) (p := p) (af := af) (dd := dd) (g := g) (ty := ty) (yt := yt) hx hy hb hm
  rw [this, Int.natCast_ediv, Int.natCast_pow]; rfl
instance instNameB : DecidablePred NameB := fun c => by unfold NameB; infer_instance
instance instName : DecidablePred Name := fun s => by unfold Name; infer_instance
instance instStrB : DecidablePred StrB := fun c => by unfold StrB; infer_instance
instance instStr : DecidablePred Str := fun s => by unfold Str; infer_instance
def tagS : List (List UInt8) := [[108, 105], [98], [112, 49], [115, 105, 120, 116, 101, 101, 110, 98, 121, 116, 101, 115, 116, 97, 103, 48]]
theorem tagE {G : Ghost} : Els rdStr 1 G [.string (str ([108, 105] : List UInt8)), .string (str ([98] : List UInt8)), .string (str ([112, 49] : List UInt8)), .string (str ([115, 105, 120, 116, 101, 101, 110, 98, 121, 116, 101, 115, 116, 97, 103, 48] : List UInt8))] tagS :=
  Els.cons (c := [_]) ⟨rfl, by decide⟩ rfl (Els.cons (c := [_]) ⟨rfl, by decide⟩ rfl (Els.cons (c := [_]) ⟨rfl, by decide⟩ rfl (Els.one ⟨rfl, by decide⟩ rfl)))
def snS : List (List UInt8) := [[99, 108, 97, 115, 115], [105, 100], [122, 57]]
theorem snE {G : Ghost} : Els rdStr 1 G [.string (str ([99, 108, 97, 115, 115] : List UInt8)), .string (str ([105, 100] : List UInt8)), .string (str ([122, 57] : List UInt8))] snS :=
  Els.cons (c := [_]) ⟨rfl, by decide⟩ rfl (Els.cons (c := [_]) ⟨rfl, by decide⟩ rfl (Els.one ⟨rfl, by decide⟩ rfl))
def svS : List (List UInt8) := [[], [118]]
theorem svE {G : Ghost} : Els rdStr 1 G [.string (str ([] : List UInt8)), .string (str ([118] : List UInt8))] svS :=
  Els.cons (c := [_]) ⟨rfl, by decide⟩ rfl (Els.one ⟨rfl, by decide⟩ rfl)
def wdS : List (List UInt8) := [[], [120]]
theorem wdE {G : Ghost} : Els rdStr 1 G [.string (str ([] : List UInt8)), .string (str ([120] : List UInt8))] wdS :=
  Els.cons (c := [_]) ⟨rfl, by decide⟩ rfl (Els.one ⟨rfl, by decide⟩ rfl)
def kyS : List (List UInt8) := [[117], [107]]
theorem kyE {G : Ghost} : Els rdStr 1 G [.string (str ([117] : List UInt8)), .string (str ([107] : List UInt8))] kyS :=
  Els.cons (c := [_]) ⟨rfl, by decide⟩ rfl (Els.one ⟨rfl, by decide⟩ rfl)
def itS : List (List UInt8) := [[], [104, 105], [97, 32, 34, 98, 34], [48]]
theorem itE {G : Ghost} : Els rdStr 1 G [.string (str ([] : List UInt8)), .string (str ([104, 105] : List UInt8)), .string (str ([97, 32, 34, 98, 34] : List UInt8)), .string (str ([48] : List UInt8))] itS :=
  Els.cons (c := [_]) ⟨rfl, by decide⟩ rfl (Els.cons (c := [_]) ⟨rfl, by decide⟩ rfl (Els.cons (c := [_]) ⟨rfl, by decide⟩ rfl (Els.one ⟨rfl, by decide⟩ rfl)))
def mkS : List (List UInt8) := [[117], [118], [119], [107], [109, 53], [109, 54]]
theorem mkE {G : Ghost} : Els rdStr 1 G [.string (str ([117] : List UInt8)), .string (str ([118] : List UInt8)), .string (str ([119] : List UInt8)), .string (str ([107] : List UInt8)), .string (str ([109, 53] : List UInt8)), .string (str ([109, 54] : List UInt8))] mkS :=
  Els.cons (c := [_]) ⟨rfl, by decide⟩ rfl (Els.cons (c := [_]) ⟨rfl, by decide⟩ rfl (Els.cons (c := [_]) ⟨rfl, by decide⟩ rfl (Els.cons (c := [_]) ⟨rfl, by decide⟩ rfl (Els.cons (c := [_]) ⟨rfl, by decide⟩ rfl (Els.one ⟨rfl, by decide⟩ rfl)))))
theorem tagS_ok : ∀ s ∈ tagS, Name s := by decide
theorem snS_ok : ∀ s ∈ snS, Name s := by decide
theorem svS_ok : ∀ s ∈ svS, Str s := by decide
theorem wdS_ok : ∀ s ∈ wdS, Str s := by decide
theorem kyS_ok : ∀ s ∈ kyS, Name s := by decide
theorem itS_ok : ∀ s ∈ itS, Str s := by decide
theorem mkS_ok : ∀ s ∈ mkS, Name s := by decide
theorem in_lit {p : List UInt8 → Prop} {l : List (List UInt8)} (h : ∀ s ∈ l, p s) {i : Nat} {s : List UInt8} (hs : l[i]? = some s) : p s := h s (List.mem_of_getElem? hs)
theorem sn_asc : ∀ i j : Nat, i < j → j < 3 → ∀ a b, snS[i]? = some a → snS[j]? = some b → Op.bytesLess a b = true := by
  intro i j hij hj a b ha hb
  have hi : i < 3 := by omega
  match j, hj with
  | 0, _ => omega
  | 1, _ => match i, hij with
    | 0, _ => simp only [snS, List.getElem?_cons_zero, List.getElem?_cons_succ, Option.some.injEq] at ha hb; subst ha hb; decide
  | 2, _ => match i, hij with
    | 0, _ => simp only [snS, List.getElem?_cons_zero, List.getElem?_cons_succ, Option.some.injEq] at ha hb; subst ha hb; decide
    | 1, _ => simp only [snS, List.getElem?_cons_zero, List.getElem?_cons_succ, Option.some.injEq] at ha hb; subst ha hb; decide
/-- The slots that were made of the first names. -/
structure SlInv (i : Nat) (ss : List SlotD) : Prop where
  to : SlotsTo ss ss.length
  le : ss.length ≤ i
  last : ∀ y, 0 < ss.length → ss[ss.length - 1]? = some y → ∃ j, j < i ∧ snS[j]? = some y.n
theorem SlInv.zero : SlInv 0 [] := ⟨SlotsTo.zero _, Nat.le_refl _, fun y h => by simp at h⟩
theorem SlInv.skip {i : Nat} {ss : List SlotD} (h : SlInv i ss) : SlInv (i + 1) ss := ⟨h.to, by have := h.le; omega, fun y h1 h2 => by obtain ⟨j, hj, hy⟩ := h.last y h1 h2; exact ⟨j, by omega, hy⟩⟩
theorem SlInv.add {i : Nat} {ss : List SlotD} (h : SlInv i ss) {x : SlotD} (hi : i < 3) (hX : snS[i]? = some x.n) (hx : SlotAt x) : SlInv (i + 1) (ss ++ [x]) := by
  have hl : (ss ++ [x]).length = ss.length + 1 := by simp
  refine ⟨?_, by have := h.le; rw [hl]; omega, fun y h1 h2 => ?_⟩
  · rw [hl]
    refine SlotsTo.step (x := x) ?_ (by simp) hx fun y h0 hy => ?_
    · intro m z hm hz
      rw [List.getElem?_append_left hm] at hz
      obtain ⟨h1, h2⟩ := h.to m z hm hz
      refine ⟨h1, fun y h0 hy => ?_⟩
      rw [List.getElem?_append_left (by omega)] at hy
      exact h2 y h0 hy
    · rw [List.getElem?_append_left (by omega)] at hy
      obtain ⟨j, hj, hjn⟩ := h.last y h0 hy
      exact sn_asc j i hj hi _ _ hjn hX
  · rw [hl] at h2
    simp at h2
    subst h2
    exact ⟨i, by omega, hX⟩
theorem SlInv.ok {i : Nat} {ss : List SlotD} (h : SlInv i ss) (hi : i ≤ 3) : SlotsOk ss := ⟨by have := h.le; omega, h.to⟩
theorem tag_spec {w0 w : World} {G : Ghost} {L : List Res} (M : Mem w0 G L w) {n : Nat} (hn : n < 256) : Calls Tryz.prog 59 #[.int .u8 (n : Int)] w (RetS w0 G L fun v => ∃ s : List UInt8, v = .string (str s) ∧ Name s) := by
  refine calls_start (vs := [_]) Tryz.func59 rfl (n := 8) rfl rfl ?_
  intro a F
  refine wp_seq <| w_reg <| rl_run F (run_assign (F.ev rfl)) rfl ?_; clear F a; intro a F
  refine rl_nil <| q_tn <| wp_seq <| w_reg <| rl_buildSliceN F M tok49.k tok9 (ps := [(0, .string (str ([108, 105] : List UInt8))), (1, .string (str ([98] : List UInt8))), (2, .string (str ([112, 49] : List UInt8))), (3, .string (str ([115, 105, 120, 116, 101, 101, 110, 98, 121, 116, 101, 115, 116, 97, 103, 48] : List UInt8)))]) (cs := [[.string (str ([108, 105] : List UInt8))], [.string (str ([98] : List UInt8))], [.string (str ([112, 49] : List UInt8))], [.string (str ([115, 105, 120, 116, 101, 101, 110, 98, 121, 116, 101, 115, 116, 97, 103, 48] : List UInt8))]]) (fl := [.string (str ([108, 105] : List UInt8)), .string (str ([98] : List UInt8)), .string (str ([112, 49] : List UInt8)), .string (str ([115, 105, 120, 116, 101, 101, 110, 98, 121, 116, 101, 115, 116, 97, 103, 48] : List UInt8))]) rfl rfl (by simp [Parts, Value.cells]) (by simp [ti9]) rfl (by simp [Value.oneCell']) (by decide) (by decide) rfl ?_; clear F M a; intro v1 w a M F
  obtain ⟨av1, cv1, rfl, hlev1, hcmv1, hlv1⟩ := M.row_shape (k := 0) rfl
  refine rl_run F (run_move (F.ev rfl)) rfl ?_; clear F a; intro a F
  refine rl_run F (run_remi (F.ev rfl) (F.ev rfl) (by omega) (by omega)) rfl ?_; clear F a; intro a F
  obtain ⟨Xe2, hXe2⟩ := get_of_lt (xs := tagS) (i := n % 4) (by show _ < 4; omega)
  obtain ⟨be2, _, Ie2, hme2, _, Ae2, ⟨rfl, hsle2⟩⟩ := M.atRow (k := 0) rfl (by decide) tagE hXe2
  refine rl_run F (run_indexI tok49.k tok9 (F.ev rfl) (F.ev rfl) (by omega) Ie2) rfl ?_; clear F a; intro a F
  refine rl_run F (run_load1 (agf tok9 rfl) (F.ev rfl) (cellE Ae2 0 (by omega) rfl)) rfl ?_; clear F a; intro a F
  refine rl_run F (run_assign (F.ev rfl)) rfl ?_; clear F a; intro a F
  refine rl_nil <| q_tn <| wp_ret <| fin1 F rfl rfl ?_
  exact ⟨M.weaken (.cons _ (List.Sublist.refl _)), _, rfl, in_lit tagS_ok hXe2⟩
theorem slots_made {w0 w : World} {G : Ghost} {L : List Res} (M : Mem w0 G L w) {n : Nat} (hn : n < 256) : Calls Tryz.prog 60 #[.int .u8 (n : Int)] w (Ret w0 G L fun G' v => ∃ a' c' ss, v = .slice a' ss.length c' ∧ RdSl rdSlot 3 G' (.slice a' ss.length c') ss ∧ SlotsOk ss) := by
  refine calls_start (vs := [_]) Tryz.func60 rfl (n := 41) rfl rfl ?_
  intro a F
  refine wp_seq <| w_reg <| rl_run F (run_assign (F.ev rfl)) rfl ?_; clear F a; intro a F
  refine rl_nil <| q_tn <| wp_seq <| w_reg <| rl_run F (run_assign (F.ev rfl)) rfl ?_; clear F a; intro a F
  refine rl_nil <| q_tn <| wp_seq <| w_reg <| rl_buildSliceN F M tok49.k tok9 (ps := [(0, .string (str ([99, 108, 97, 115, 115] : List UInt8))), (1, .string (str ([105, 100] : List UInt8))), (2, .string (str ([122, 57] : List UInt8)))]) (cs := [[.string (str ([99, 108, 97, 115, 115] : List UInt8))], [.string (str ([105, 100] : List UInt8))], [.string (str ([122, 57] : List UInt8))]]) (fl := [.string (str ([99, 108, 97, 115, 115] : List UInt8)), .string (str ([105, 100] : List UInt8)), .string (str ([122, 57] : List UInt8))]) rfl rfl (by simp [Parts, Value.cells]) (by simp [ti9]) rfl (by simp [Value.oneCell']) (by decide) (by decide) rfl ?_; clear F M a; intro v1 w a M F
  obtain ⟨av1, cv1, rfl, hlev1, hcmv1, hlv1⟩ := M.row_shape (k := 0) rfl
  refine rl_run F (run_assign (F.ev rfl)) rfl ?_; clear F a; intro a F
  refine rl_nil <| q_tn ?_
  iterate 2 (refine wp_seq ?_)
  refine w_reg <| rl_run F (run_assign (F.ev rfl)) rfl ?_; clear F a; intro a F
  refine rl_nil <| q_tn <| wp_block ?_
  have M := M.nilrow 76 3
  refine w_loopN (fun m a' w' => ∃ (i : Nat), ∃ (ss : List SlotD), ∃ (ay : Option Addr), ∃ (ny : Nat), ∃ (cy : Nat), ∃ (csy : List Value), m = 3 - i ∧ Fits 41 a' [(0, .int .u8 (((n : Nat) : Int))), (4, .slice (av1) (3) (cv1)), (3, .slice (ay) (ny) (cy)), (5, .int .i64 (((i : Nat) : Int)))] ∧ Mem w0 G (.row (.slice (ay) (ny) (cy)) (ny) (csy) 76 3 :: .row (.slice (av1) (3) (cv1)) (3) ([.string (str ([99, 108, 97, 115, 115] : List UInt8)), .string (str ([105, 100] : List UInt8)), .string (str ([122, 57] : List UInt8))]) 9 1 :: L) w' ∧ (i ≤ 3) ∧ (SlInv i ss) ∧ (ny = (ss).length) ∧ (Els rdSlot 3 G csy (ss))) _ ⟨0, [], (none), (0), (0), ([]), rfl, F.to ⟨rfl, rfl, rfl, rfl, trivial⟩, M, by omega, SlInv.zero, rfl, Els.nil⟩ ?_
  clear F M
  rintro m a w ⟨i, ss, ay, ny, cy, csy, rfl, F, M, hi, hI, hny, Ey⟩
  iterate 2 (refine wp_seq ?_)
  refine w_reg <| rl_run F (run_move (F.ev rfl)) rfl ?_; clear F a; intro a F
  refine rl_run F (run_lss (F.ev rfl) (F.ev rfl)) rfl ?_; clear F a; intro a F
  refine rl_nil <| q_tn <| w_cond F rfl ?_ ?_
  · intro hc
    have h2b := hc; clear hc
    have h2 : ((i : Nat) : Int) < 3 := of_decide_eq_true h2b
    refine wp_skip <| q_tn <| wp_seq <| wp_block <| wp_seq <| w_reg ?_
    iterate 2 (refine rl_run F (run_move (F.ev rfl)) rfl ?_; clear F a; intro a F)
    refine rl_run F (run_shrN (n := n) (m := i) (F.ev rfl) (F.ev rfl) (by omega) (by omega) (by show i ≤ 8; omega)) rfl ?_; clear F a; intro a F
    refine rl_run F (run_remi (F.ev rfl) (F.ev rfl) (by first | omega | exact Int.natCast_nonneg _) (by first | omega | exact Int.natCast_nonneg _)) rfl ?_; clear F a; intro a F
    refine rl_run F (run_eqi (F.ev rfl) (F.ev rfl)) rfl ?_; clear F a; intro a F
    refine rl_nil <| q_tn <| w_cond F rfl ?_ ?_
    · intro hc
      have h3b := hc; clear hc
      have h3 : (((n / 2 ^ i : Nat) : Int)) % 2 = 1 := of_decide_eq_true h3b
      refine wp_seq <| w_plan2 [(.free, 0), (.free, 1), (.free, 2), (.pure, 3), (.free, 4), (.free, 5), (.free, 6), (.free, 7), (.free, 8), (.free, 9), (.keep, 10), (.keep, 11)] [] (Keep G [.row (.slice (ay) (ny) (cy)) (ny) (csy) 76 3, .row (.slice (av1) (3) (cv1)) (3) ([.string (str ([99, 108, 97, 115, 115] : List UInt8)), .string (str ([105, 100] : List UInt8)), .string (str ([122, 57] : List UInt8))]) 9 1]) rfl (by kernel_rfl) (fun c a d v w h => by cases d <;> exact h) ((M.drew _).keep (Gle.refl _) (by simp)) ?_
      replace M := M.drew (w.drawn + 1)
      iterate 2 (refine pk_free F (fun w _ => run_move (F.ev rfl)) rfl ?_; clear F a; intro a F)
      obtain ⟨Xe4, hXe4⟩ := get_of_lt (xs := snS) (i := i) (by show _ < 3; omega)
      obtain ⟨be4, _, Ie4, hme4, _, Ae4, ⟨rfl, hsle4⟩⟩ := M.atRowK (k := 1) rfl (by decide) snE (Lr := [.row (.slice (ay) (ny) (cy)) (ny) (csy) 76 3, .row (.slice (av1) (3) (cv1)) (3) ([.string (str ([99, 108, 97, 115, 115] : List UInt8)), .string (str ([105, 100] : List UInt8)), .string (str ([122, 57] : List UInt8))]) 9 1]) (k' := 1) rfl hXe4
      refine pk_free F (fun w _ => run_indexI tok49.k tok9 (F.ev rfl) (F.ev rfl) (by omega) Ie4) rfl ?_; clear F a; intro a F
      refine pk_pure F (fun w M => run_load1 (agf tok9 rfl) (F.ev rfl) (cellE (Ae4 w M) 0 (by omega) rfl)) rfl ?_; clear F a; intro a F
      iterate 2 (refine pk_free F (fun w _ => run_move (F.ev rfl)) rfl ?_; clear F a; intro a F)
      refine pk_free F (fun w _ => run_addi (F.ev rfl) (F.ev rfl) (in_i64 (by omega) (by omega))) rfl ?_; clear F a; intro a F
      refine pk_free F (fun w _ => run_shrN (n := n) (m := 3 + i) (F.ev rfl) (F.ev rfl) (by omega) (by omega) (by show _ ≤ 8; omega)) rfl ?_; clear F a; intro a F
      refine pk_free F (fun w _ => run_remi (F.ev rfl) (F.ev rfl) (by first | omega | exact Int.natCast_nonneg _) (by first | omega | exact Int.natCast_nonneg _)) rfl ?_; clear F a; intro a F
      refine pk_free F (fun w _ => run_buildS (cs := [.string (str (Xe4)), .int .u8 ((((n / 2 ^ (3 + i) : Nat) : Int)) % 4), .string (str ([] : List UInt8))]) (ps := [(0, .string (str (Xe4))), (1, .int .u8 ((((n / 2 ^ (3 + i) : Nat) : Int)) % 4))]) tok76.k rfl tok76 (F.evp rfl) rfl) rfl ?_; clear F a; intro a F
      refine pk_keep ?_ rfl
      refine rl_alloc F M tok76 rfl rfl ?_; clear F M a; intro b5 w a M F
      refine rl_nil <| ⟨Keep G [.row (.slice (ay) (ny) (cy)) (ny) (csy) 76 3, .row (.slice (av1) (3) (cv1)) (3) ([.string (str ([99, 108, 97, 115, 115] : List UInt8)), .string (str ([105, 100] : List UInt8)), .string (str ([122, 57] : List UInt8))]) 9 1], M.keep (Gle.refl _) (by simp), fun w h => h.mono (Gle.refl _) (by simp), ?_⟩
      refine pk_keep ?_ rfl
      refine rl_storeA F M tok76 (k := 0) rfl rfl rfl (us := [.string (str (Xe4)), .int .u8 ((((n / 2 ^ (3 + i) : Nat) : Int)) % 4), .string (str ([] : List UInt8))]) rfl rfl (by simp [Value.oneCell']) (by simp) ?_; clear F M a; intro w a M F
      refine rl_nil <| ⟨Keep G [.row (.slice (ay) (ny) (cy)) (ny) (csy) 76 3, .row (.slice (av1) (3) (cv1)) (3) ([.string (str ([99, 108, 97, 115, 115] : List UInt8)), .string (str ([105, 100] : List UInt8)), .string (str ([122, 57] : List UInt8))]) 9 1], M.keep (Gle.refl _) (by simp), fun w h => h.mono (Gle.refl _) (by simp), ?_⟩
      refine pk_nil <| q_tn ?_
      iterate 2 (refine wp_seq ?_)
      refine w_reg <| rl_run F (run_fieldAddr tok76.k rfl rfl (F.ev rfl)) rfl ?_; clear F a; intro a F
      refine rl_run F (run_load1 (agf tok5 rfl) (F.ev rfl) (M.cellL (k := 0) rfl rfl)) rfl ?_; clear F a; intro a F
      refine rl_run F (run_eqi (F.ev rfl) (F.ev rfl)) rfl ?_; clear F a; intro a F
      refine rl_nil <| q_tn <| w_cond F rfl ?_ ?_
      · intro hc
        have h7b := hc; clear hc
        have h7 : (((n / 2 ^ (3 + i) : Nat) : Int)) % 4 = 0 := of_decide_eq_true h7b
        refine w_reg <| rl_buildSliceN F M tok49.k tok9 (ps := [(0, .string (str ([] : List UInt8))), (1, .string (str ([118] : List UInt8)))]) (cs := [[.string (str ([] : List UInt8))], [.string (str ([118] : List UInt8))]]) (fl := [.string (str ([] : List UInt8)), .string (str ([118] : List UInt8))]) rfl rfl (by simp [Parts, Value.cells]) (by simp [ti9]) rfl (by simp [Value.oneCell']) (by decide) (by decide) rfl ?_; clear F M a; intro v8 w a M F
        obtain ⟨av8, cv8, rfl, hlev8, hcmv8, hlv8⟩ := M.row_shape (k := 0) rfl
        refine rl_run F (run_move (F.ev rfl)) rfl ?_; clear F a; intro a F
        refine rl_run F (run_shrN (n := n) (m := 7) (F.ev rfl) (F.ev rfl) (by omega) (by omega) (by decide)) rfl ?_; clear F a; intro a F
        obtain ⟨Xe9, hXe9⟩ := get_of_lt (xs := svS) (i := n / 2 ^ 7) (by show _ < 2; omega)
        obtain ⟨be9, _, Ie9, hme9, _, Ae9, ⟨rfl, hsle9⟩⟩ := M.atRow (k := 0) rfl (by decide) svE hXe9
        refine rl_run F (run_indexI tok49.k tok9 (F.ev rfl) (F.ev rfl) (by omega) Ie9) rfl ?_; clear F a; intro a F
        refine rl_run F (run_load1 (agf tok9 rfl) (F.ev rfl) (cellE Ae9 0 (by omega) rfl)) rfl ?_; clear F a; intro a F
        refine rl_run F (run_fieldAddr tok76.k rfl rfl (F.ev rfl)) rfl ?_; clear F a; intro a F
        refine rl_store1 F M tok9 rfl (k := 1) rfl rfl rfl rfl rfl ?_; clear F M a; intro w a M F
        refine rl_nil <| q_tn <| w_reg <| rl_run F (run_move (F.ev rfl)) rfl ?_; clear F a; intro a F
        refine rl_run F (run_loadA tok76 rfl (F.ev rfl) (cs := [.string (str (Xe4)), .int .u8 ((((n / 2 ^ (3 + i) : Nat) : Int)) % 4), .string (str (Xe9))]) rfl (M.cellsL (k := 1) rfl rfl)) rfl ?_; clear F a; intro a F
        refine rl_buildSlice1 F M tok43.k tok76 rfl rfl (cs := [.string (str (Xe4)), .int .u8 ((((n / 2 ^ (3 + i) : Nat) : Int)) % 4), .string (str (Xe9))]) rfl rfl (by simp [Value.oneCell']) (by decide) rfl ?_; clear F M a; intro v10 w a M F
        obtain ⟨av10, cv10, rfl, hlev10, hcmv10, hlv10⟩ := M.row_shape (k := 0) rfl
        have hIl := hI.le
        have hX9 := in_lit snS_ok hXe4
        have hv9 : Str (Xe9) := (in_lit svS_ok hXe9)
        have E11 : Els rdSlot 3 G [.string (str (Xe4)), .int .u8 ((((n / 2 ^ (3 + i) : Nat) : Int)) % 4), .string (str (Xe9))] [(⟨Xe4, (((n / 2 ^ (3 + i) : Nat) : Int)) % 4, Xe9⟩ : SlotD)] := Els.one ⟨rfl, by have := hX9.1.2; show (Xe4).length ≤ _; omega, ⟨by show (0 : Int) ≤ (((n / 2 ^ (3 + i) : Nat) : Int)) % 4; omega, by show (((n / 2 ^ (3 + i) : Nat) : Int)) % 4 ≤ (255 : Int); omega⟩, by have := hv9.1; show (Xe9).length ≤ _; omega⟩ rfl
        refine rl_append_row F M (k := 3) (k2 := 0) rfl rfl tok43.k tok76 rfl rfl (by decide) rfl rfl (by show _ * 40 ≤ _; (try simp only [List.length_drop, List.length_take, List.length_append, List.length_cons, List.length_nil]); omega) (by (try simp only [List.length_drop, List.length_take, List.length_append, List.length_cons, List.length_nil]); omega) rfl ?_; clear F M a; intro v12 w a M F
        have Ev12 := Els.append Ey E11
        obtain ⟨av12, cv12, rfl, hlev12, hcmv12, hlv12⟩ := M.row_shape (k := 3) rfl
        refine rl_run F (run_assign (F.ev rfl)) rfl ?_; clear F a; intro a F
        refine rl_nil <| q_bn <| q_tn <| w_reg <| rl_run F (run_move (F.ev rfl)) rfl ?_; clear F a; intro a F
        refine rl_run F (run_addi (F.ev rfl) (F.ev rfl) (in_i64 (by omega) (by omega))) rfl ?_; clear F a; intro a F
        refine rl_run F (run_assign (F.ev rfl)) rfl ?_; clear F a; intro a F
        refine rl_nil <| q_tn ?_
        exact ⟨_, by omega, i + 1, (ss ++ ([(⟨Xe4, (((n / 2 ^ (3 + i) : Nat) : Int)) % 4, Xe9⟩ : SlotD)])), (av12), (ny + 1), (cv12), (csy ++ ([.string (str (Xe4)), .int .u8 ((((n / 2 ^ (3 + i) : Nat) : Int)) % 4), .string (str (Xe9))])), rfl, F.to ⟨rfl, rfl, rfl, rfl, trivial⟩, (M.weaken (.cons _ (.cons _ (.cons _ (.cons_cons _ (.cons_cons _ (List.Sublist.refl _))))))), by omega, hI.add (by omega) hXe4 ⟨hX9, by show (((n / 2 ^ (3 + i) : Nat) : Int)) % 4 ≤ 3; omega, hv9, Or.inl (by show _ = (0 : Int); omega)⟩, by rw [List.length_append, ← hny]; rfl, Ev12⟩
      · intro hc
        have h13b := hc; clear hc
        have h13 : ¬ ((((n / 2 ^ (3 + i) : Nat) : Int)) % 4 = 0) := of_decide_eq_false h13b
        refine wp_skip <| q_tn <| w_reg <| rl_run F (run_move (F.ev rfl)) rfl ?_; clear F a; intro a F
        refine rl_run F (run_loadA tok76 rfl (F.ev rfl) (cs := [.string (str (Xe4)), .int .u8 ((((n / 2 ^ (3 + i) : Nat) : Int)) % 4), .string (str ([] : List UInt8))]) rfl (M.cellsL (k := 0) rfl rfl)) rfl ?_; clear F a; intro a F
        refine rl_buildSlice1 F M tok43.k tok76 rfl rfl (cs := [.string (str (Xe4)), .int .u8 ((((n / 2 ^ (3 + i) : Nat) : Int)) % 4), .string (str ([] : List UInt8))]) rfl rfl (by simp [Value.oneCell']) (by decide) rfl ?_; clear F M a; intro v14 w a M F
        obtain ⟨av14, cv14, rfl, hlev14, hcmv14, hlv14⟩ := M.row_shape (k := 0) rfl
        have hIl := hI.le
        have hX9 := in_lit snS_ok hXe4
        have hv9 : Str ([] : List UInt8) := (show Str [] by decide)
        have E15 : Els rdSlot 3 G [.string (str (Xe4)), .int .u8 ((((n / 2 ^ (3 + i) : Nat) : Int)) % 4), .string (str ([] : List UInt8))] [(⟨Xe4, (((n / 2 ^ (3 + i) : Nat) : Int)) % 4, ([] : List UInt8)⟩ : SlotD)] := Els.one ⟨rfl, by have := hX9.1.2; show (Xe4).length ≤ _; omega, ⟨by show (0 : Int) ≤ (((n / 2 ^ (3 + i) : Nat) : Int)) % 4; omega, by show (((n / 2 ^ (3 + i) : Nat) : Int)) % 4 ≤ (255 : Int); omega⟩, by have := hv9.1; show ([] : List UInt8).length ≤ _; omega⟩ rfl
        refine rl_append_row F M (k := 2) (k2 := 0) rfl rfl tok43.k tok76 rfl rfl (by decide) rfl rfl (by show _ * 40 ≤ _; (try simp only [List.length_drop, List.length_take, List.length_append, List.length_cons, List.length_nil]); omega) (by (try simp only [List.length_drop, List.length_take, List.length_append, List.length_cons, List.length_nil]); omega) rfl ?_; clear F M a; intro v16 w a M F
        have Ev16 := Els.append Ey E15
        obtain ⟨av16, cv16, rfl, hlev16, hcmv16, hlv16⟩ := M.row_shape (k := 2) rfl
        refine rl_run F (run_assign (F.ev rfl)) rfl ?_; clear F a; intro a F
        refine rl_nil <| q_bn <| q_tn <| w_reg <| rl_run F (run_move (F.ev rfl)) rfl ?_; clear F a; intro a F
        refine rl_run F (run_addi (F.ev rfl) (F.ev rfl) (in_i64 (by omega) (by omega))) rfl ?_; clear F a; intro a F
        refine rl_run F (run_assign (F.ev rfl)) rfl ?_; clear F a; intro a F
        refine rl_nil <| q_tn ?_
        exact ⟨_, by omega, i + 1, (ss ++ ([(⟨Xe4, (((n / 2 ^ (3 + i) : Nat) : Int)) % 4, ([] : List UInt8)⟩ : SlotD)])), (av16), (ny + 1), (cv16), (csy ++ ([.string (str (Xe4)), .int .u8 ((((n / 2 ^ (3 + i) : Nat) : Int)) % 4), .string (str ([] : List UInt8))])), rfl, F.to ⟨rfl, rfl, rfl, rfl, trivial⟩, (M.weaken (.cons _ (.cons _ (.cons_cons _ (.cons_cons _ (List.Sublist.refl _)))))), by omega, hI.add (by omega) hXe4 ⟨hX9, by show (((n / 2 ^ (3 + i) : Nat) : Int)) % 4 ≤ 3; omega, hv9, Or.inr rfl⟩, by rw [List.length_append, ← hny]; rfl, Ev16⟩
    · intro hc
      have h17b := hc; clear hc
      have h17 : ¬ ((((n / 2 ^ i : Nat) : Int)) % 2 = 1) := of_decide_eq_false h17b
      refine wp_skip <| q_bn <| q_tn <| w_reg <| rl_run F (run_move (F.ev rfl)) rfl ?_; clear F a; intro a F
      refine rl_run F (run_addi (F.ev rfl) (F.ev rfl) (in_i64 (by omega) (by omega))) rfl ?_; clear F a; intro a F
      refine rl_run F (run_assign (F.ev rfl)) rfl ?_; clear F a; intro a F
      refine rl_nil <| q_tn ?_
      exact ⟨_, by omega, i + 1, (ss), (ay), (ny), (cy), (csy), rfl, F.to ⟨rfl, rfl, rfl, rfl, trivial⟩, M, by omega, hI.skip, hny, Ey⟩
  · intro hc
    have h18b := hc; clear hc
    have h18 : ¬ (((i : Nat) : Int) < 3) := of_decide_eq_false h18b
    refine wp_exit ?_
    iterate 2 (refine q_te ?_)
    refine q_bh <| q_tn <| wp_seq <| w_reg <| rl_run F (run_move (F.ev rfl)) rfl ?_; clear F a; intro a F
    refine rl_run F (run_assign (F.ev rfl)) rfl ?_; clear F a; intro a F
    refine rl_nil <| q_tn <| wp_ret <| fin1 F rfl rfl ?_
    obtain ⟨hnz19, Gz19, az19, cz19, hGz19, hez19, Sz19, M⟩ := M.freeze_row mono_rdSlot (k := 0) rfl Ey (by decide)
    clear hez19 az19 cz19
    exact ⟨Gz19, ((Gle.refl _).trans hGz19), M.weaken (.cons _ (List.Sublist.refl _)), _, _, ss, by rw [hny], by have h_ := Sz19; rw [hny] at h_; exact h_, hI.ok hi⟩
theorem len_le_sizes {β : Type} : ∀ l : List (Tr β), l.length ≤ Tr.sizes l
  | [] => Nat.zero_le _
  | x :: l => by have := Tr.size_pos x; have := len_le_sizes l; simp only [List.length_cons, Tr.sizes]; omega
theorem okWords {d : Nat} {t : List UInt8} (h : Str t) : Tr.Ok AloneP (d + 1) (.mk 2 [] [] [] t [] : PT) := ⟨Or.inr (Or.inl ⟨rfl, h, rfl, rfl, rfl, rfl⟩), fun c hc => by cases hc⟩
theorem okField {d : Nat} : Tr.Ok AloneP (d + 1) (.mk 3 [] [] [] [] [] : PT) := ⟨Or.inr (Or.inr (Or.inl ⟨Or.inl rfl, rfl, rfl, rfl, rfl, rfl⟩)), fun c hc => by cases hc⟩
theorem okNumber {d : Nat} : Tr.Ok AloneP (d + 1) (.mk 4 [] [] [] [] [] : PT) := ⟨Or.inr (Or.inr (Or.inl ⟨Or.inr rfl, rfl, rfl, rfl, rfl, rfl⟩)), fun c hc => by cases hc⟩
theorem okEach {d : Nat} {t : List UInt8} {ss : List SlotD} (h : Name t) (hs : SlotsOk ss) : Tr.Ok AloneP (d + 1) (.mk 5 t [] ss [] [] : PT) := ⟨Or.inr (Or.inr (Or.inr ⟨rfl, h, hs, rfl, rfl, rfl⟩)), fun c hc => by cases hc⟩
theorem okElem {d : Nat} {t k : List UInt8} {ss : List SlotD} {ps : List PT} (h : Name t) (hk : k = [] ∨ Name k) (hs : SlotsOk ss) (hl : ps.length ≤ 16) (hp : ∀ p ∈ ps, Tr.Ok AloneP d p) : Tr.Ok AloneP (d + 1) (.mk 1 t k ss [] ps : PT) := ⟨Or.inl ⟨rfl, h, hk, hs, rfl, hl⟩, hp⟩
structure PsInv (d q0 q : Nat) (ps : List PT) : Prop where
  sz : Tr.sizes ps + q0 ≤ q
  ok : ∀ p ∈ ps, Tr.Ok AloneP (d + 1) p
theorem PsInv.len {d q0 q : Nat} {ps : List PT} (h : PsInv d q0 q ps) : ps.length + q0 ≤ q := by have := len_le_sizes ps; have := h.sz; omega
theorem PsInv.zero {d q : Nat} : PsInv d q q [] := ⟨by simp [Tr.sizes], by simp⟩
theorem PsInv.add {d q0 q q' : Nat} {ps : List PT} (h : PsInv d q0 q ps) {p : PT} (hp : Tr.Ok AloneP (d + 1) p) (hs : p.size + q ≤ q') : PsInv d q0 q' (ps ++ [p]) :=
  ⟨by rw [Tr.sizes_append]; have := h.sz; simp only [Tr.sizes]; omega, fun c hc => by
    rcases List.mem_append.1 hc with hc | hc
    · exact h.ok c hc
    · rw [List.mem_singleton.1 hc]; exact hp⟩
theorem PsInv.one {d q0 q : Nat} {ps : List PT} (h : PsInv d q0 q ps) {p : PT} (hp : Tr.Ok AloneP (d + 1) p) (hk : p.kids = []) : PsInv d q0 (q + 1) (ps ++ [p]) :=
  h.add hp (by rw [Tr.size_eq, hk]; simp only [Tr.sizes]; omega)
def BuildQ (d : Nat) : Prop := ∀ (w0 w : World) (G : Ghost) (L : List Res) (ca : Option Addr) (cc : Nat) (cs : List UInt8) (q0 lv : Nat), Mem w0 G L w → RdSl rdB 1 G (.slice ca cs.length cc) cs → q0 ≤ 11 → lv + d = 4 →
    Calls Tryz.prog 61 #[.slice ca cs.length cc, .int .i64 (q0 : Int), .int .i64 (lv : Int)] w (Ret w0 G L fun G' v => ∃ a' c' ps q', v = .tuple #[.slice a' ps.length c', .int .i64 ((q' : Nat) : Int)] ∧ RdSl rdP 6 G' (.slice a' ps.length c') ps ∧ q' ≤ 11 ∧ q0 ≤ q' ∧ PsInv d q0 q' ps)
theorem PsInv.up {d q0 q : Nat} {ps : List PT} (h : PsInv d q0 q ps) : PsInv d q0 (q + 1) ps := ⟨by have := h.sz; omega, h.ok⟩
set_option maxHeartbeats 2000000 in
theorem build_step {d : Nat} (ih : ∀ e, d = e + 1 → BuildQ e) {w0 w : World} {G : Ghost} {L : List Res} (M : Mem w0 G L w) {ca : Option Addr} {cc : Nat} {cs : List UInt8} (S : RdSl rdB 1 G (.slice ca cs.length cc) cs) {q0 lv : Nat} (hq0 : q0 ≤ 11) (hlv : lv + d = 4) : Calls Tryz.prog 61 #[.slice ca cs.length cc, .int .i64 (q0 : Int), .int .i64 (lv : Int)] w (Ret w0 G L fun G' v => ∃ a' c' ps q', v = .tuple #[.slice a' ps.length c', .int .i64 ((q' : Nat) : Int)] ∧ RdSl rdP 6 G' (.slice a' ps.length c') ps ∧ q' ≤ 11 ∧ q0 ≤ q' ∧ PsInv d q0 q' ps) := by
  refine calls_start (vs := [_, _, _]) Tryz.func61 rfl (n := 101) rfl rfl ?_
  intro a F
  refine wp_seq <| w_reg ?_
  iterate 2 (refine rl_run F (run_assign (F.ev rfl)) rfl ?_; clear F a; intro a F)
  refine rl_nil <| q_tn <| wp_seq ?_
  have bS := S.bound
  refine w_reg <| rl_run F (run_assign (F.ev rfl)) rfl ?_; clear F a; intro a F
  refine rl_nil <| q_tn <| wp_seq <| wp_block ?_
  have M := M.nilrow 46 6
  refine w_loopN (fun m a' w' => ∃ (q : Nat), ∃ (ps : List PT), ∃ (ay : Option Addr), ∃ (ny : Nat), ∃ (cy : Nat), ∃ (csy : List Value), m = 11 - q ∧ ∃ G1, Gle G G1 ∧ Fits 101 a' [(0, .slice (ca) (cs.length) (cc)), (2, .int .i64 (((lv : Nat) : Int))), (1, .int .i64 (((q : Nat) : Int))), (8, .slice (ay) (ny) (cy))] ∧ Mem w0 G1 (.row (.slice (ay) (ny) (cy)) (ny) (csy) 46 6 :: L) w' ∧ (q ≤ 11 ∧ q0 ≤ q) ∧ (PsInv d q0 q ps) ∧ (ny = (ps).length) ∧ (Els rdP 6 G1 csy (ps))) _ ⟨q0, [], (none), (0), (0), ([]), rfl, G, Gle.refl _, F.to ⟨rfl, rfl, rfl, rfl, trivial⟩, M, by omega, PsInv.zero, rfl, Els.nil⟩ ?_
  clear F M
  rintro m a w ⟨q, ps, ay, ny, cy, csy, rfl, G1, hG1, F, M, hq, hI, hny, Ey⟩
  replace S := S.mono mono_rdB hG1
  iterate 2 (refine wp_seq ?_)
  have hIl := hI.len
  refine w_reg ?_
  iterate 2 (refine rl_run F (run_move (F.ev rfl)) rfl ?_; clear F a; intro a F)
  refine rl_run F (run_lenSl tok22.k (F.ev rfl)) rfl ?_; clear F a; intro a F
  refine rl_run F (run_lss (F.ev rfl) (F.ev rfl)) rfl ?_; clear F a; intro a F
  refine rl_run F (run_move (F.ev rfl)) rfl ?_; clear F a; intro a F
  rcases Bool.eq_false_or_eq_true (decide (((q : Nat) : Int) < ((cs.length : Nat) : Int))) with hc | hc
  · skip
    have h2b := hc; clear hc
    have h2 : ((q : Nat) : Int) < ((cs.length : Nat) : Int) := of_decide_eq_true h2b
    refine rl_guard_t F rfl rfl rfl h2b ?_
    refine rl_run F (run_move (F.ev rfl)) rfl ?_; clear F a; intro a F
    refine rl_guard_t F rfl rfl rfl h2b ?_
    refine rl_run F (run_lss (F.ev rfl) (F.ev rfl)) rfl ?_; clear F a; intro a F
    refine rl_run F (run_pick_t (F.ev rfl) h2b (F.ev rfl)) rfl ?_; clear F a; intro a F
    refine rl_nil <| q_tn <| w_cond F rfl ?_ ?_
    · intro hc
      have h3b := hc; clear hc
      have h3 : ((q : Nat) : Int) < 11 := of_decide_eq_true h3b
      refine wp_skip <| q_tn <| wp_block <| wp_seq <| w_reg ?_
      iterate 2 (refine rl_run F (run_move (F.ev rfl)) rfl ?_; clear F a; intro a F)
      obtain ⟨Xe4, hXe4⟩ := get_of_lt (xs := cs) (i := q) (by omega)
      obtain ⟨be4, oe4, _, Ie4, _, Ae4, rfl⟩ := S.at hXe4
      refine rl_run F (run_indexI tok22.k tok5 (F.ev rfl) (F.ev rfl) (by omega) Ie4) rfl ?_; clear F a; intro a F
      refine rl_run F (run_load1 (agf tok5 rfl) (F.ev rfl) (M.cellA Ae4 0 (by omega) rfl)) rfl ?_; clear F a; intro a F
      refine rl_run F (run_assign (F.ev rfl)) rfl ?_; clear F a; intro a F
      refine rl_nil <| q_tn <| wp_seq ?_
      have hnb9 : nb Xe4 = ((Xe4.toNat : Nat) : Int) := rfl
      have hnb8 := UInt8.toNat_lt Xe4
      refine w_reg <| rl_run F (run_move (F.ev rfl)) rfl ?_; clear F a; intro a F
      refine rl_run F (run_addi (F.ev rfl) (F.ev rfl) (in_i64 (by omega) (by omega))) rfl ?_; clear F a; intro a F
      refine rl_run F (run_assign (F.ev rfl)) rfl ?_; clear F a; intro a F
      refine rl_nil <| q_tn <| wp_seq <| w_reg <| rl_run F (run_move (F.ev rfl)) rfl ?_; clear F a; intro a F
      refine rl_run F (run_remi (F.ev rfl) (F.ev rfl) (by omega) (by omega)) rfl ?_; clear F a; intro a F
      refine rl_nil <| q_tn <| wp_block <| wp_seq <| w_reg <| rl_run F (run_eqi (F.ev rfl) (F.ev rfl)) rfl ?_; clear F a; intro a F
      refine rl_run F (run_assign (F.ev rfl)) rfl ?_; clear F a; intro a F
      refine rl_nil <| q_tn <| w_cond F rfl ?_ ?_
      · intro hc
        have h5b := hc; clear hc
        have h5 : (nb Xe4) % 8 = 0 := of_decide_eq_true h5b
        refine wp_seq <| w_reg ?_
        iterate 2 (refine rl_run F (run_move (F.ev rfl)) rfl ?_; clear F a; intro a F)
        iterate 2 (refine rl_run F (run_assign (F.ev rfl)) rfl ?_; clear F a; intro a F)
        refine rl_nil <| q_tn <| wp_ret ?_
        iterate 2 (refine q_br ?_)
        refine q_tr <| q_br <| q_tr <| fin2 F rfl rfl rfl ?_
        obtain ⟨hnz6, Gz6, az6, cz6, hGz6, hez6, Sz6, M⟩ := M.freeze_row mono_rdP (k := 0) rfl Ey (by decide)
        clear hez6 az6 cz6
        exact ⟨Gz6, (hG1.trans hGz6), M.weaken (List.Sublist.refl _), _, _, ps, q + 1, by rw [hny] <;> rfl, by have h_ := Sz6; rw [hny] at h_; exact h_, by omega, by omega, hI.up⟩
      · intro hc
        have h7b := hc; clear hc
        have h7 : ¬ ((nb Xe4) % 8 = 0) := of_decide_eq_false h7b
        refine wp_seq <| w_reg <| rl_run F (run_eqi (F.ev rfl) (F.ev rfl)) rfl ?_; clear F a; intro a F
        refine rl_run F (run_assign (F.ev rfl)) rfl ?_; clear F a; intro a F
        refine rl_nil <| q_tn <| w_cond F rfl ?_ ?_
        · intro hc
          have h8b := hc; clear hc
          have h8 : (nb Xe4) % 8 = 1 := of_decide_eq_true h8b
          refine w_reg <| rl_run F (run_move (F.ev rfl)) rfl ?_; clear F a; intro a F
          refine rl_buildSliceN F M tok49.k tok9 (ps := [(0, .string (str ([] : List UInt8))), (1, .string (str ([120] : List UInt8)))]) (cs := [[.string (str ([] : List UInt8))], [.string (str ([120] : List UInt8))]]) (fl := [.string (str ([] : List UInt8)), .string (str ([120] : List UInt8))]) rfl rfl (by simp [Parts, Value.cells]) (by simp [ti9]) rfl (by simp [Value.oneCell']) (by decide) (by decide) rfl ?_; clear F M a; intro v9 w a M F
          obtain ⟨av9, cv9, rfl, hlev9, hcmv9, hlv9⟩ := M.row_shape (k := 0) rfl
          refine rl_run F (run_move (F.ev rfl)) rfl ?_; clear F a; intro a F
          refine rl_run F (run_quoi (F.ev rfl) (F.ev rfl) (by omega) (by omega) (in_u8 (by omega) (by omega))) rfl ?_; clear F a; intro a F
          refine rl_run F (run_remi (F.ev rfl) (F.ev rfl) (by omega) (by omega)) rfl ?_; clear F a; intro a F
          obtain ⟨Xe10, hXe10⟩ := get_of_lt (xs := wdS) (i := (Xe4.toNat / 8) % 2) (by show _ < 2; omega)
          obtain ⟨be10, _, Ie10, hme10, _, Ae10, ⟨rfl, hsle10⟩⟩ := M.atRow (k := 0) rfl (by decide) wdE hXe10
          refine rl_run F (run_indexI tok49.k tok9 (F.ev rfl) (F.ev rfl) (by omega) Ie10) rfl ?_; clear F a; intro a F
          refine rl_run F (run_load1 (agf tok9 rfl) (F.ev rfl) (cellE Ae10 0 (by omega) rfl)) rfl ?_; clear F a; intro a F
          refine rl_run F (run_buildS (cs := [.int .u8 (2), .string (str ([] : List UInt8)), .string (str ([] : List UInt8)), .slice none (0) (0), .string (str (Xe10)), .slice none (0) (0)]) (ps := [(0, .int .u8 (2)), (4, .string (str (Xe10)))]) tok46.k rfl tok46 (F.evp rfl) rfl) rfl ?_; clear F a; intro a F
          refine rl_buildSlice1 F M tok44.k tok46 rfl rfl (cs := [.int .u8 (2), .string (str ([] : List UInt8)), .string (str ([] : List UInt8)), .slice none (0) (0), .string (str (Xe10)), .slice none (0) (0)]) rfl rfl (by simp [Value.oneCell']) (by decide) rfl ?_; clear F M a; intro v11 w a M F
          obtain ⟨av11, cv11, rfl, hlev11, hcmv11, hlv11⟩ := M.row_shape (k := 0) rfl
          have E12 : Els rdP 6 G1 [.int .u8 (2), .string (str ([] : List UInt8)), .string (str ([] : List UInt8)), .slice none (0) (0), .string (str (Xe10)), .slice none (0) (0)] [(.mk 2 ([] : List UInt8) ([] : List UInt8) [] Xe10 [] : PT)] := Els.one (rdT_close (x := (.mk 2 ([] : List UInt8) ([] : List UInt8) [] Xe10 [] : PT)) ⟨by show (0 : Int) ≤ 2; decide, by show (2 : Int) ≤ 255; decide⟩ ⟨by first | exact Nat.zero_le _ | (show _ ≤ _; omega) | (simp only [Tr.tag]; omega), by first | exact Nat.zero_le _ | (simp only [Tr.key]; omega), by first | exact Nat.zero_le _ | (simp only [Tr.text]; omega)⟩ RdSl.nil RdSl.nil) rfl
          refine rl_append_row F M (k := 2) (k2 := 0) rfl rfl tok44.k tok46 rfl rfl (by decide) rfl rfl (by show _ * 104 ≤ _; (try simp only [List.length_drop, List.length_take, List.length_append, List.length_cons, List.length_nil]); omega) (by (try simp only [List.length_drop, List.length_take, List.length_append, List.length_cons, List.length_nil]); omega) rfl ?_; clear F M a; intro v13 w a M F
          have Ev13 := Els.append Ey E12
          obtain ⟨av13, cv13, rfl, hlev13, hcmv13, hlv13⟩ := M.row_shape (k := 2) rfl
          refine rl_run F (run_assign (F.ev rfl)) rfl ?_; clear F a; intro a F
          refine rl_nil ?_
          iterate 2 (refine q_bn ?_)
          refine q_tn ?_
          exact ⟨_, by omega, (q + 1), (ps ++ ([(.mk 2 ([] : List UInt8) ([] : List UInt8) [] Xe10 [] : PT)])), (av13), (ny + 1), (cv13), (csy ++ ([.int .u8 (2), .string (str ([] : List UInt8)), .string (str ([] : List UInt8)), .slice none (0) (0), .string (str (Xe10)), .slice none (0) (0)])), rfl, G1, hG1, F.to ⟨rfl, rfl, rfl, rfl, trivial⟩, (M.weaken (.cons _ (.cons _ (.cons_cons _ (List.Sublist.refl _))))), by omega, hI.one (okWords (in_lit wdS_ok hXe10)) rfl, by rw [List.length_append, ← hny]; rfl, Ev13⟩
        · intro hc
          have h14b := hc; clear hc
          have h14 : ¬ ((nb Xe4) % 8 = 1) := of_decide_eq_false h14b
          refine wp_seq <| w_reg <| rl_run F (run_eqi (F.ev rfl) (F.ev rfl)) rfl ?_; clear F a; intro a F
          refine rl_run F (run_assign (F.ev rfl)) rfl ?_; clear F a; intro a F
          refine rl_nil <| q_tn <| w_cond F rfl ?_ ?_
          · intro hc
            have h15b := hc; clear hc
            have h15 : (nb Xe4) % 8 = 2 := of_decide_eq_true h15b
            refine w_reg <| rl_run F (run_move (F.ev rfl)) rfl ?_; clear F a; intro a F
            refine rl_run F (run_buildS (cs := [.int .u8 (3), .string (str ([] : List UInt8)), .string (str ([] : List UInt8)), .slice none (0) (0), .string (str ([] : List UInt8)), .slice none (0) (0)]) (ps := [(0, .int .u8 (3))]) tok46.k rfl tok46 (F.evp rfl) rfl) rfl ?_; clear F a; intro a F
            refine rl_buildSlice1 F M tok44.k tok46 rfl rfl (cs := [.int .u8 (3), .string (str ([] : List UInt8)), .string (str ([] : List UInt8)), .slice none (0) (0), .string (str ([] : List UInt8)), .slice none (0) (0)]) rfl rfl (by simp [Value.oneCell']) (by decide) rfl ?_; clear F M a; intro v16 w a M F
            obtain ⟨av16, cv16, rfl, hlev16, hcmv16, hlv16⟩ := M.row_shape (k := 0) rfl
            have E17 : Els rdP 6 G1 [.int .u8 (3), .string (str ([] : List UInt8)), .string (str ([] : List UInt8)), .slice none (0) (0), .string (str ([] : List UInt8)), .slice none (0) (0)] [(.mk 3 ([] : List UInt8) ([] : List UInt8) [] ([] : List UInt8) [] : PT)] := Els.one (rdT_close (x := (.mk 3 ([] : List UInt8) ([] : List UInt8) [] ([] : List UInt8) [] : PT)) ⟨by show (0 : Int) ≤ 3; decide, by show (3 : Int) ≤ 255; decide⟩ ⟨by first | exact Nat.zero_le _ | (show _ ≤ _; omega) | (simp only [Tr.tag]; omega), by first | exact Nat.zero_le _ | (simp only [Tr.key]; omega), by first | exact Nat.zero_le _ | (simp only [Tr.text]; omega)⟩ RdSl.nil RdSl.nil) rfl
            refine rl_append_row F M (k := 1) (k2 := 0) rfl rfl tok44.k tok46 rfl rfl (by decide) rfl rfl (by show _ * 104 ≤ _; (try simp only [List.length_drop, List.length_take, List.length_append, List.length_cons, List.length_nil]); omega) (by (try simp only [List.length_drop, List.length_take, List.length_append, List.length_cons, List.length_nil]); omega) rfl ?_; clear F M a; intro v18 w a M F
            have Ev18 := Els.append Ey E17
            obtain ⟨av18, cv18, rfl, hlev18, hcmv18, hlv18⟩ := M.row_shape (k := 1) rfl
            refine rl_run F (run_assign (F.ev rfl)) rfl ?_; clear F a; intro a F
            refine rl_nil ?_
            iterate 2 (refine q_bn ?_)
            refine q_tn ?_
            exact ⟨_, by omega, (q + 1), (ps ++ ([(.mk 3 ([] : List UInt8) ([] : List UInt8) [] ([] : List UInt8) [] : PT)])), (av18), (ny + 1), (cv18), (csy ++ ([.int .u8 (3), .string (str ([] : List UInt8)), .string (str ([] : List UInt8)), .slice none (0) (0), .string (str ([] : List UInt8)), .slice none (0) (0)])), rfl, G1, hG1, F.to ⟨rfl, rfl, rfl, rfl, trivial⟩, (M.weaken (.cons _ (.cons_cons _ (List.Sublist.refl _)))), by omega, hI.one okField rfl, by rw [List.length_append, ← hny]; rfl, Ev18⟩
          · intro hc
            have h19b := hc; clear hc
            have h19 : ¬ ((nb Xe4) % 8 = 2) := of_decide_eq_false h19b
            refine wp_seq <| w_reg <| rl_run F (run_eqi (F.ev rfl) (F.ev rfl)) rfl ?_; clear F a; intro a F
            refine rl_run F (run_assign (F.ev rfl)) rfl ?_; clear F a; intro a F
            refine rl_nil <| q_tn <| w_cond F rfl ?_ ?_
            · intro hc
              have h20b := hc; clear hc
              have h20 : (nb Xe4) % 8 = 3 := of_decide_eq_true h20b
              refine w_reg <| rl_run F (run_move (F.ev rfl)) rfl ?_; clear F a; intro a F
              refine rl_run F (run_buildS (cs := [.int .u8 (4), .string (str ([] : List UInt8)), .string (str ([] : List UInt8)), .slice none (0) (0), .string (str ([] : List UInt8)), .slice none (0) (0)]) (ps := [(0, .int .u8 (4))]) tok46.k rfl tok46 (F.evp rfl) rfl) rfl ?_; clear F a; intro a F
              refine rl_buildSlice1 F M tok44.k tok46 rfl rfl (cs := [.int .u8 (4), .string (str ([] : List UInt8)), .string (str ([] : List UInt8)), .slice none (0) (0), .string (str ([] : List UInt8)), .slice none (0) (0)]) rfl rfl (by simp [Value.oneCell']) (by decide) rfl ?_; clear F M a; intro v21 w a M F
              obtain ⟨av21, cv21, rfl, hlev21, hcmv21, hlv21⟩ := M.row_shape (k := 0) rfl
              have E22 : Els rdP 6 G1 [.int .u8 (4), .string (str ([] : List UInt8)), .string (str ([] : List UInt8)), .slice none (0) (0), .string (str ([] : List UInt8)), .slice none (0) (0)] [(.mk 4 ([] : List UInt8) ([] : List UInt8) [] ([] : List UInt8) [] : PT)] := Els.one (rdT_close (x := (.mk 4 ([] : List UInt8) ([] : List UInt8) [] ([] : List UInt8) [] : PT)) ⟨by show (0 : Int) ≤ 4; decide, by show (4 : Int) ≤ 255; decide⟩ ⟨by first | exact Nat.zero_le _ | (show _ ≤ _; omega) | (simp only [Tr.tag]; omega), by first | exact Nat.zero_le _ | (simp only [Tr.key]; omega), by first | exact Nat.zero_le _ | (simp only [Tr.text]; omega)⟩ RdSl.nil RdSl.nil) rfl
              refine rl_append_row F M (k := 1) (k2 := 0) rfl rfl tok44.k tok46 rfl rfl (by decide) rfl rfl (by show _ * 104 ≤ _; (try simp only [List.length_drop, List.length_take, List.length_append, List.length_cons, List.length_nil]); omega) (by (try simp only [List.length_drop, List.length_take, List.length_append, List.length_cons, List.length_nil]); omega) rfl ?_; clear F M a; intro v23 w a M F
              have Ev23 := Els.append Ey E22
              obtain ⟨av23, cv23, rfl, hlev23, hcmv23, hlv23⟩ := M.row_shape (k := 1) rfl
              refine rl_run F (run_assign (F.ev rfl)) rfl ?_; clear F a; intro a F
              refine rl_nil ?_
              iterate 2 (refine q_bn ?_)
              refine q_tn ?_
              exact ⟨_, by omega, (q + 1), (ps ++ ([(.mk 4 ([] : List UInt8) ([] : List UInt8) [] ([] : List UInt8) [] : PT)])), (av23), (ny + 1), (cv23), (csy ++ ([.int .u8 (4), .string (str ([] : List UInt8)), .string (str ([] : List UInt8)), .slice none (0) (0), .string (str ([] : List UInt8)), .slice none (0) (0)])), rfl, G1, hG1, F.to ⟨rfl, rfl, rfl, rfl, trivial⟩, (M.weaken (.cons _ (.cons_cons _ (List.Sublist.refl _)))), by omega, hI.one okNumber rfl, by rw [List.length_append, ← hny]; rfl, Ev23⟩
            · intro hc
              have h24b := hc; clear hc
              have h24 : ¬ ((nb Xe4) % 8 = 3) := of_decide_eq_false h24b
              refine wp_seq <| w_reg <| rl_run F (run_eqi (F.ev rfl) (F.ev rfl)) rfl ?_; clear F a; intro a F
              refine rl_run F (run_assign (F.ev rfl)) rfl ?_; clear F a; intro a F
              refine rl_nil <| q_tn <| w_cond F rfl ?_ ?_
              · intro hc
                have h25b := hc; clear hc
                have h25 : (nb Xe4) % 8 = 4 := of_decide_eq_true h25b
                refine w_reg ?_
                iterate 2 (refine rl_run F (run_move (F.ev rfl)) rfl ?_; clear F a; intro a F)
                refine rl_run F (run_quoi (F.ev rfl) (F.ev rfl) (by omega) (by omega) (in_u8 (by omega) (by omega))) rfl ?_; clear F a; intro a F
                refine rl_callS F ent59 rfl rfl (tag_spec (n := Xe4.toNat / 8) M (by omega)) ?_; clear F M a; rintro _ w a M ⟨tg26, rfl, htg26⟩ F
                have hltg26 := htg26.1.2
                refine rl_run F (run_move (F.ev rfl)) rfl ?_; clear F a; intro a F
                refine rl_run F (run_quoi (F.ev rfl) (F.ev rfl) (by omega) (by omega) (in_u8 (by omega) (by omega))) rfl ?_; clear F a; intro a F
                refine rl_call F ent60 rfl rfl (slots_made (n := Xe4.toNat / 4) M (by omega)) ?_; clear F M a; rintro _ Gk27 w a hGk27 M ⟨ak27, ck27, ssk27, rfl, Sk27, hSk27⟩ F
                replace S := S.mono mono_rdB hGk27
                replace Ey := Ey.mono mono_rdP hGk27
                replace Ae4 := Ae4.mono hGk27
                refine rl_run F (run_buildS (cs := [.int .u8 (5), .string (str (tg26)), .string (str ([] : List UInt8)), .slice (ak27) (ssk27.length) (ck27), .string (str ([] : List UInt8)), .slice none (0) (0)]) (ps := [(0, .int .u8 (5)), (1, .string (str (tg26))), (3, .slice (ak27) (ssk27.length) (ck27))]) tok46.k rfl tok46 (F.evp rfl) rfl) rfl ?_; clear F a; intro a F
                refine rl_buildSlice1 F M tok44.k tok46 rfl rfl (cs := [.int .u8 (5), .string (str (tg26)), .string (str ([] : List UInt8)), .slice (ak27) (ssk27.length) (ck27), .string (str ([] : List UInt8)), .slice none (0) (0)]) rfl rfl (by simp [Value.oneCell']) (by decide) rfl ?_; clear F M a; intro v28 w a M F
                obtain ⟨av28, cv28, rfl, hlev28, hcmv28, hlv28⟩ := M.row_shape (k := 0) rfl
                have E29 : Els rdP 6 Gk27 [.int .u8 (5), .string (str (tg26)), .string (str ([] : List UInt8)), .slice (ak27) (ssk27.length) (ck27), .string (str ([] : List UInt8)), .slice none (0) (0)] [(.mk 5 tg26 ([] : List UInt8) ssk27 ([] : List UInt8) [] : PT)] := Els.one (rdT_close (x := (.mk 5 tg26 ([] : List UInt8) ssk27 ([] : List UInt8) [] : PT)) ⟨by show (0 : Int) ≤ 5; decide, by show (5 : Int) ≤ 255; decide⟩ ⟨by first | exact Nat.zero_le _ | (show _ ≤ _; omega) | (simp only [Tr.tag]; omega), by first | exact Nat.zero_le _ | (simp only [Tr.key]; omega), by first | exact Nat.zero_le _ | (simp only [Tr.text]; omega)⟩ Sk27 RdSl.nil) rfl
                refine rl_append_row F M (k := 1) (k2 := 0) rfl rfl tok44.k tok46 rfl rfl (by decide) rfl rfl (by show _ * 104 ≤ _; (try simp only [List.length_drop, List.length_take, List.length_append, List.length_cons, List.length_nil]); omega) (by (try simp only [List.length_drop, List.length_take, List.length_append, List.length_cons, List.length_nil]); omega) rfl ?_; clear F M a; intro v30 w a M F
                have Ev30 := Els.append Ey E29
                obtain ⟨av30, cv30, rfl, hlev30, hcmv30, hlv30⟩ := M.row_shape (k := 1) rfl
                refine rl_run F (run_assign (F.ev rfl)) rfl ?_; clear F a; intro a F
                refine rl_nil ?_
                iterate 2 (refine q_bn ?_)
                refine q_tn ?_
                exact ⟨_, by omega, (q + 1), (ps ++ ([(.mk 5 tg26 ([] : List UInt8) ssk27 ([] : List UInt8) [] : PT)])), (av30), (ny + 1), (cv30), (csy ++ ([.int .u8 (5), .string (str (tg26)), .string (str ([] : List UInt8)), .slice (ak27) (ssk27.length) (ck27), .string (str ([] : List UInt8)), .slice none (0) (0)])), rfl, Gk27, (hG1.trans hGk27), F.to ⟨rfl, rfl, rfl, rfl, trivial⟩, (M.weaken (.cons _ (.cons_cons _ (List.Sublist.refl _)))), by omega, hI.one (okEach (by assumption) hSk27) rfl, by rw [List.length_append, ← hny]; rfl, Ev30⟩
              · intro hc
                have h31b := hc; clear hc
                have h31 : ¬ ((nb Xe4) % 8 = 4) := of_decide_eq_false h31b
                refine wp_seq <| w_reg <| rl_run F (run_move (F.ev rfl)) rfl ?_; clear F a; intro a F
                refine rl_run F (run_quoi (F.ev rfl) (F.ev rfl) (by omega) (by omega) (in_u8 (by omega) (by omega))) rfl ?_; clear F a; intro a F
                refine rl_callS F ent59 rfl rfl (tag_spec (n := Xe4.toNat / 8) M (by omega)) ?_; clear F M a; rintro _ w a M ⟨tg32, rfl, htg32⟩ F
                have hltg32 := htg32.1.2
                refine rl_run F (run_move (F.ev rfl)) rfl ?_; clear F a; intro a F
                refine rl_run F (run_quoi (F.ev rfl) (F.ev rfl) (by omega) (by omega) (in_u8 (by omega) (by omega))) rfl ?_; clear F a; intro a F
                refine rl_call F ent60 rfl rfl (slots_made (n := Xe4.toNat / 2) M (by omega)) ?_; clear F M a; rintro _ Gk33 w a hGk33 M ⟨ak33, ck33, ssk33, rfl, Sk33, hSk33⟩ F
                replace S := S.mono mono_rdB hGk33
                replace Ey := Ey.mono mono_rdP hGk33
                replace Ae4 := Ae4.mono hGk33
                refine rl_run F (run_buildS (cs := [.int .u8 (1), .string (str (tg32)), .string (str ([] : List UInt8)), .slice (ak33) (ssk33.length) (ck33), .string (str ([] : List UInt8)), .slice none (0) (0)]) (ps := [(0, .int .u8 (1)), (1, .string (str (tg32))), (3, .slice (ak33) (ssk33.length) (ck33))]) tok46.k rfl tok46 (F.evp rfl) rfl) rfl ?_; clear F a; intro a F
                refine rl_alloc F M tok46 rfl rfl ?_; clear F M a; intro b34 w a M F
                refine rl_storeA F M tok46 (k := 0) rfl rfl rfl (us := [.int .u8 (1), .string (str (tg32)), .string (str ([] : List UInt8)), .slice (ak33) (ssk33.length) (ck33), .string (str ([] : List UInt8)), .slice none (0) (0)]) rfl rfl (by simp [Value.oneCell']) (by simp) ?_; clear F M a; intro w a M F
                change Mem w0 Gk33 (.blk b34 [.int .u8 (1), .string (str (tg32)), .string (str ([] : List UInt8)), .slice (ak33) (ssk33.length) (ck33), .string (str ([] : List UInt8)), .slice none (0) (0)] 46 :: .row (.slice (ay) (ny) (cy)) (ny) (csy) 46 6 :: L) _ at M
                refine rl_nil <| q_tn ?_
                iterate 2 (refine wp_seq ?_)
                refine w_reg <| rl_run F (run_move (F.ev rfl)) rfl ?_; clear F a; intro a F
                refine rl_run F (run_remi (F.ev rfl) (F.ev rfl) (by omega) (by omega)) rfl ?_; clear F a; intro a F
                refine rl_run F (run_eqi (F.ev rfl) (F.ev rfl)) rfl ?_; clear F a; intro a F
                refine rl_nil <| q_tn <| w_cond F rfl ?_ ?_
                · intro hc
                  have h36b := hc; clear hc
                  have h36 : (nb Xe4) % 8 = 7 := of_decide_eq_true h36b
                  refine w_reg <| rl_buildSliceN F M tok49.k tok9 (ps := [(0, .string (str ([117] : List UInt8))), (1, .string (str ([107] : List UInt8)))]) (cs := [[.string (str ([117] : List UInt8))], [.string (str ([107] : List UInt8))]]) (fl := [.string (str ([117] : List UInt8)), .string (str ([107] : List UInt8))]) rfl rfl (by simp [Parts, Value.cells]) (by simp [ti9]) rfl (by simp [Value.oneCell']) (by decide) (by decide) rfl ?_; clear F M a; intro v37 w a M F
                  obtain ⟨av37, cv37, rfl, hlev37, hcmv37, hlv37⟩ := M.row_shape (k := 0) rfl
                  refine rl_run F (run_move (F.ev rfl)) rfl ?_; clear F a; intro a F
                  refine rl_run F (run_quoi (F.ev rfl) (F.ev rfl) (by omega) (by omega) (in_u8 (by omega) (by omega))) rfl ?_; clear F a; intro a F
                  refine rl_run F (run_remi (F.ev rfl) (F.ev rfl) (by omega) (by omega)) rfl ?_; clear F a; intro a F
                  obtain ⟨Xe38, hXe38⟩ := get_of_lt (xs := kyS) (i := (Xe4.toNat / 8) % 2) (by show _ < 2; omega)
                  obtain ⟨be38, _, Ie38, hme38, _, Ae38, ⟨rfl, hsle38⟩⟩ := M.atRow (k := 0) rfl (by decide) kyE hXe38
                  refine rl_run F (run_indexI tok49.k tok9 (F.ev rfl) (F.ev rfl) (by omega) Ie38) rfl ?_; clear F a; intro a F
                  refine rl_run F (run_load1 (agf tok9 rfl) (F.ev rfl) (cellE Ae38 0 (by omega) rfl)) rfl ?_; clear F a; intro a F
                  have hky := in_lit kyS_ok hXe38
                  have hkyl := hky.1.2
                  refine rl_run F (run_fieldAddr tok46.k rfl rfl (F.ev rfl)) rfl ?_; clear F a; intro a F
                  refine rl_store1 F M tok9 rfl (k := 1) rfl rfl rfl rfl rfl ?_; clear F M a; intro w a M F
                  refine rl_nil <| q_tn ?_
                  iterate 2 (refine wp_seq ?_)
                  refine w_reg <| rl_run F (run_move (F.ev rfl)) rfl ?_; clear F a; intro a F
                  refine rl_run F (run_lss (F.ev rfl) (F.ev rfl)) rfl ?_; clear F a; intro a F
                  refine rl_nil <| q_tn <| w_cond F rfl ?_ ?_
                  · intro hc
                    have h39b := hc; clear hc
                    have h39 : ((lv : Nat) : Int) < 4 := of_decide_eq_true h39b
                    obtain ⟨d2, rfl⟩ : ∃ d2, d = d2 + 1 := ⟨d - 1, by omega⟩
                    refine w_reg ?_
                    iterate 3 (refine rl_run F (run_move (F.ev rfl)) rfl ?_; clear F a; intro a F)
                    refine rl_run F (run_addi (F.ev rfl) (F.ev rfl) (in_i64 (by omega) (by omega))) rfl ?_; clear F a; intro a F
                    refine rl_call F ent61 rfl rfl (ih d2 rfl _ _ _ _ _ _ cs (q + 1) (lv + 1) M S (by omega) (by omega)) ?_; clear F M a; rintro _ Gk40 w a hGk40 M ⟨ak40, ck40, psk40, qk40, rfl, Sk40, hqk40, hrk40, hPk40⟩ F
                    replace S := S.mono mono_rdB hGk40
                    replace Ey := Ey.mono mono_rdP hGk40
                    replace Ae4 := Ae4.mono hGk40
                    replace Sk33 := Sk33.mono mono_rdSlot hGk40
                    refine rl_run F (run_move (F.ev rfl)) rfl ?_; clear F a; intro a F
                    refine rl_run F (run_extract (v := .slice (ak40) (psk40.length) (ck40)) (F.ev rfl) rfl) rfl ?_; clear F a; intro a F
                    refine rl_run F (run_extract (v := .int .i64 (((qk40 : Nat) : Int))) (F.ev rfl) rfl) rfl ?_; clear F a; intro a F
                    refine rl_run F (run_fieldAddr tok46.k rfl rfl (F.ev rfl)) rfl ?_; clear F a; intro a F
                    refine rl_store1 F M tok44 rfl (k := 1) rfl rfl rfl rfl rfl ?_; clear F M a; intro w a M F
                    refine rl_run F (run_assign (F.ev rfl)) rfl ?_; clear F a; intro a F
                    refine rl_nil <| q_tn <| w_reg <| rl_run F (run_move (F.ev rfl)) rfl ?_; clear F a; intro a F
                    refine rl_run F (run_loadA tok46 rfl (F.ev rfl) (cs := [.int .u8 (1), .string (str (tg32)), .string (str (Xe38)), .slice (ak33) (ssk33.length) (ck33), .string (str ([] : List UInt8)), .slice (ak40) (psk40.length) (ck40)]) rfl (M.cellsL (k := 1) rfl rfl)) rfl ?_; clear F a; intro a F
                    refine rl_buildSlice1 F M tok44.k tok46 rfl rfl (cs := [.int .u8 (1), .string (str (tg32)), .string (str (Xe38)), .slice (ak33) (ssk33.length) (ck33), .string (str ([] : List UInt8)), .slice (ak40) (psk40.length) (ck40)]) rfl rfl (by simp [Value.oneCell']) (by decide) rfl ?_; clear F M a; intro v41 w a M F
                    obtain ⟨av41, cv41, rfl, hlev41, hcmv41, hlv41⟩ := M.row_shape (k := 0) rfl
                    have E42 : Els rdP 6 Gk40 [.int .u8 (1), .string (str (tg32)), .string (str (Xe38)), .slice (ak33) (ssk33.length) (ck33), .string (str ([] : List UInt8)), .slice (ak40) (psk40.length) (ck40)] [(.mk 1 tg32 Xe38 ssk33 ([] : List UInt8) psk40 : PT)] := Els.one (rdT_close (x := (.mk 1 tg32 Xe38 ssk33 ([] : List UInt8) psk40 : PT)) ⟨by show (0 : Int) ≤ 1; decide, by show (1 : Int) ≤ 255; decide⟩ ⟨by first | exact Nat.zero_le _ | (show _ ≤ _; omega) | (simp only [Tr.tag]; omega), by first | exact Nat.zero_le _ | (simp only [Tr.key]; omega), by first | exact Nat.zero_le _ | (simp only [Tr.text]; omega)⟩ Sk33 Sk40) rfl
                    refine rl_append_row F M (k := 3) (k2 := 0) rfl rfl tok44.k tok46 rfl rfl (by decide) rfl rfl (by show _ * 104 ≤ _; (try simp only [List.length_drop, List.length_take, List.length_append, List.length_cons, List.length_nil]); omega) (by (try simp only [List.length_drop, List.length_take, List.length_append, List.length_cons, List.length_nil]); omega) rfl ?_; clear F M a; intro v43 w a M F
                    have Ev43 := Els.append Ey E42
                    obtain ⟨av43, cv43, rfl, hlev43, hcmv43, hlv43⟩ := M.row_shape (k := 3) rfl
                    refine rl_run F (run_assign (F.ev rfl)) rfl ?_; clear F a; intro a F
                    refine rl_nil ?_
                    iterate 2 (refine q_bn ?_)
                    refine q_tn ?_
                    exact ⟨_, by omega, (qk40), (ps ++ ([(.mk 1 tg32 Xe38 ssk33 ([] : List UInt8) psk40 : PT)])), (av43), (ny + 1), (cv43), (csy ++ ([.int .u8 (1), .string (str (tg32)), .string (str (Xe38)), .slice (ak33) (ssk33.length) (ck33), .string (str ([] : List UInt8)), .slice (ak40) (psk40.length) (ck40)])), rfl, Gk40, ((hG1.trans hGk33).trans hGk40), F.to ⟨rfl, rfl, rfl, rfl, trivial⟩, (M.weaken (.cons _ (.cons _ (.cons _ (.cons_cons _ (List.Sublist.refl _)))))), by omega, hI.add (okElem (by assumption) (Or.inr hky) hSk33 (by have := hPk40.len; omega) hPk40.ok) (by have := hPk40.sz; rw [Tr.size_eq]; simp only [Tr.kids]; omega), by rw [List.length_append, ← hny]; rfl, Ev43⟩
                  · intro hc
                    have h44b := hc; clear hc
                    have h44 : ¬ (((lv : Nat) : Int) < 4) := of_decide_eq_false h44b
                    refine wp_skip <| q_tn <| w_reg <| rl_run F (run_move (F.ev rfl)) rfl ?_; clear F a; intro a F
                    refine rl_run F (run_loadA tok46 rfl (F.ev rfl) (cs := [.int .u8 (1), .string (str (tg32)), .string (str (Xe38)), .slice (ak33) (ssk33.length) (ck33), .string (str ([] : List UInt8)), .slice none (0) (0)]) rfl (M.cellsL (k := 1) rfl rfl)) rfl ?_; clear F a; intro a F
                    refine rl_buildSlice1 F M tok44.k tok46 rfl rfl (cs := [.int .u8 (1), .string (str (tg32)), .string (str (Xe38)), .slice (ak33) (ssk33.length) (ck33), .string (str ([] : List UInt8)), .slice none (0) (0)]) rfl rfl (by simp [Value.oneCell']) (by decide) rfl ?_; clear F M a; intro v45 w a M F
                    obtain ⟨av45, cv45, rfl, hlev45, hcmv45, hlv45⟩ := M.row_shape (k := 0) rfl
                    have E46 : Els rdP 6 Gk33 [.int .u8 (1), .string (str (tg32)), .string (str (Xe38)), .slice (ak33) (ssk33.length) (ck33), .string (str ([] : List UInt8)), .slice none (0) (0)] [(.mk 1 tg32 Xe38 ssk33 ([] : List UInt8) [] : PT)] := Els.one (rdT_close (x := (.mk 1 tg32 Xe38 ssk33 ([] : List UInt8) [] : PT)) ⟨by show (0 : Int) ≤ 1; decide, by show (1 : Int) ≤ 255; decide⟩ ⟨by first | exact Nat.zero_le _ | (show _ ≤ _; omega) | (simp only [Tr.tag]; omega), by first | exact Nat.zero_le _ | (simp only [Tr.key]; omega), by first | exact Nat.zero_le _ | (simp only [Tr.text]; omega)⟩ Sk33 RdSl.nil) rfl
                    refine rl_append_row F M (k := 3) (k2 := 0) rfl rfl tok44.k tok46 rfl rfl (by decide) rfl rfl (by show _ * 104 ≤ _; (try simp only [List.length_drop, List.length_take, List.length_append, List.length_cons, List.length_nil]); omega) (by (try simp only [List.length_drop, List.length_take, List.length_append, List.length_cons, List.length_nil]); omega) rfl ?_; clear F M a; intro v47 w a M F
                    have Ev47 := Els.append Ey E46
                    obtain ⟨av47, cv47, rfl, hlev47, hcmv47, hlv47⟩ := M.row_shape (k := 3) rfl
                    refine rl_run F (run_assign (F.ev rfl)) rfl ?_; clear F a; intro a F
                    refine rl_nil ?_
                    iterate 2 (refine q_bn ?_)
                    refine q_tn ?_
                    exact ⟨_, by omega, (q + 1), (ps ++ ([(.mk 1 tg32 Xe38 ssk33 ([] : List UInt8) [] : PT)])), (av47), (ny + 1), (cv47), (csy ++ ([.int .u8 (1), .string (str (tg32)), .string (str (Xe38)), .slice (ak33) (ssk33.length) (ck33), .string (str ([] : List UInt8)), .slice none (0) (0)])), rfl, Gk33, (hG1.trans hGk33), F.to ⟨rfl, rfl, rfl, rfl, trivial⟩, (M.weaken (.cons _ (.cons _ (.cons _ (.cons_cons _ (List.Sublist.refl _)))))), by omega, hI.one (okElem (by assumption) (Or.inr hky) hSk33 (by simp) (by simp)) rfl, by rw [List.length_append, ← hny]; rfl, Ev47⟩
                · intro hc
                  have h48b := hc; clear hc
                  have h48 : ¬ ((nb Xe4) % 8 = 7) := of_decide_eq_false h48b
                  refine wp_skip <| q_tn ?_
                  iterate 2 (refine wp_seq ?_)
                  refine w_reg <| rl_run F (run_move (F.ev rfl)) rfl ?_; clear F a; intro a F
                  refine rl_run F (run_lss (F.ev rfl) (F.ev rfl)) rfl ?_; clear F a; intro a F
                  refine rl_nil <| q_tn <| w_cond F rfl ?_ ?_
                  · intro hc
                    have h49b := hc; clear hc
                    have h49 : ((lv : Nat) : Int) < 4 := of_decide_eq_true h49b
                    obtain ⟨d2, rfl⟩ : ∃ d2, d = d2 + 1 := ⟨d - 1, by omega⟩
                    refine w_reg ?_
                    iterate 3 (refine rl_run F (run_move (F.ev rfl)) rfl ?_; clear F a; intro a F)
                    refine rl_run F (run_addi (F.ev rfl) (F.ev rfl) (in_i64 (by omega) (by omega))) rfl ?_; clear F a; intro a F
                    refine rl_call F ent61 rfl rfl (ih d2 rfl _ _ _ _ _ _ cs (q + 1) (lv + 1) M S (by omega) (by omega)) ?_; clear F M a; rintro _ Gk50 w a hGk50 M ⟨ak50, ck50, psk50, qk50, rfl, Sk50, hqk50, hrk50, hPk50⟩ F
                    replace S := S.mono mono_rdB hGk50
                    replace Ey := Ey.mono mono_rdP hGk50
                    replace Ae4 := Ae4.mono hGk50
                    replace Sk33 := Sk33.mono mono_rdSlot hGk50
                    refine rl_run F (run_move (F.ev rfl)) rfl ?_; clear F a; intro a F
                    refine rl_run F (run_extract (v := .slice (ak50) (psk50.length) (ck50)) (F.ev rfl) rfl) rfl ?_; clear F a; intro a F
                    refine rl_run F (run_extract (v := .int .i64 (((qk50 : Nat) : Int))) (F.ev rfl) rfl) rfl ?_; clear F a; intro a F
                    refine rl_run F (run_fieldAddr tok46.k rfl rfl (F.ev rfl)) rfl ?_; clear F a; intro a F
                    refine rl_store1 F M tok44 rfl (k := 0) rfl rfl rfl rfl rfl ?_; clear F M a; intro w a M F
                    refine rl_run F (run_assign (F.ev rfl)) rfl ?_; clear F a; intro a F
                    refine rl_nil <| q_tn <| w_reg <| rl_run F (run_move (F.ev rfl)) rfl ?_; clear F a; intro a F
                    refine rl_run F (run_loadA tok46 rfl (F.ev rfl) (cs := [.int .u8 (1), .string (str (tg32)), .string (str ([] : List UInt8)), .slice (ak33) (ssk33.length) (ck33), .string (str ([] : List UInt8)), .slice (ak50) (psk50.length) (ck50)]) rfl (M.cellsL (k := 0) rfl rfl)) rfl ?_; clear F a; intro a F
                    refine rl_buildSlice1 F M tok44.k tok46 rfl rfl (cs := [.int .u8 (1), .string (str (tg32)), .string (str ([] : List UInt8)), .slice (ak33) (ssk33.length) (ck33), .string (str ([] : List UInt8)), .slice (ak50) (psk50.length) (ck50)]) rfl rfl (by simp [Value.oneCell']) (by decide) rfl ?_; clear F M a; intro v51 w a M F
                    obtain ⟨av51, cv51, rfl, hlev51, hcmv51, hlv51⟩ := M.row_shape (k := 0) rfl
                    have E52 : Els rdP 6 Gk50 [.int .u8 (1), .string (str (tg32)), .string (str ([] : List UInt8)), .slice (ak33) (ssk33.length) (ck33), .string (str ([] : List UInt8)), .slice (ak50) (psk50.length) (ck50)] [(.mk 1 tg32 ([] : List UInt8) ssk33 ([] : List UInt8) psk50 : PT)] := Els.one (rdT_close (x := (.mk 1 tg32 ([] : List UInt8) ssk33 ([] : List UInt8) psk50 : PT)) ⟨by show (0 : Int) ≤ 1; decide, by show (1 : Int) ≤ 255; decide⟩ ⟨by first | exact Nat.zero_le _ | (show _ ≤ _; omega) | (simp only [Tr.tag]; omega), by first | exact Nat.zero_le _ | (simp only [Tr.key]; omega), by first | exact Nat.zero_le _ | (simp only [Tr.text]; omega)⟩ Sk33 Sk50) rfl
                    refine rl_append_row F M (k := 2) (k2 := 0) rfl rfl tok44.k tok46 rfl rfl (by decide) rfl rfl (by show _ * 104 ≤ _; (try simp only [List.length_drop, List.length_take, List.length_append, List.length_cons, List.length_nil]); omega) (by (try simp only [List.length_drop, List.length_take, List.length_append, List.length_cons, List.length_nil]); omega) rfl ?_; clear F M a; intro v53 w a M F
                    have Ev53 := Els.append Ey E52
                    obtain ⟨av53, cv53, rfl, hlev53, hcmv53, hlv53⟩ := M.row_shape (k := 2) rfl
                    refine rl_run F (run_assign (F.ev rfl)) rfl ?_; clear F a; intro a F
                    refine rl_nil ?_
                    iterate 2 (refine q_bn ?_)
                    refine q_tn ?_
                    exact ⟨_, by omega, (qk50), (ps ++ ([(.mk 1 tg32 ([] : List UInt8) ssk33 ([] : List UInt8) psk50 : PT)])), (av53), (ny + 1), (cv53), (csy ++ ([.int .u8 (1), .string (str (tg32)), .string (str ([] : List UInt8)), .slice (ak33) (ssk33.length) (ck33), .string (str ([] : List UInt8)), .slice (ak50) (psk50.length) (ck50)])), rfl, Gk50, ((hG1.trans hGk33).trans hGk50), F.to ⟨rfl, rfl, rfl, rfl, trivial⟩, (M.weaken (.cons _ (.cons _ (.cons_cons _ (List.Sublist.refl _))))), by omega, hI.add (okElem (by assumption) (Or.inl rfl) hSk33 (by have := hPk50.len; omega) hPk50.ok) (by have := hPk50.sz; rw [Tr.size_eq]; simp only [Tr.kids]; omega), by rw [List.length_append, ← hny]; rfl, Ev53⟩
                  · intro hc
                    have h54b := hc; clear hc
                    have h54 : ¬ (((lv : Nat) : Int) < 4) := of_decide_eq_false h54b
                    refine wp_skip <| q_tn <| w_reg <| rl_run F (run_move (F.ev rfl)) rfl ?_; clear F a; intro a F
                    refine rl_run F (run_loadA tok46 rfl (F.ev rfl) (cs := [.int .u8 (1), .string (str (tg32)), .string (str ([] : List UInt8)), .slice (ak33) (ssk33.length) (ck33), .string (str ([] : List UInt8)), .slice none (0) (0)]) rfl (M.cellsL (k := 0) rfl rfl)) rfl ?_; clear F a; intro a F
                    refine rl_buildSlice1 F M tok44.k tok46 rfl rfl (cs := [.int .u8 (1), .string (str (tg32)), .string (str ([] : List UInt8)), .slice (ak33) (ssk33.length) (ck33), .string (str ([] : List UInt8)), .slice none (0) (0)]) rfl rfl (by simp [Value.oneCell']) (by decide) rfl ?_; clear F M a; intro v55 w a M F
                    obtain ⟨av55, cv55, rfl, hlev55, hcmv55, hlv55⟩ := M.row_shape (k := 0) rfl
                    have E56 : Els rdP 6 Gk33 [.int .u8 (1), .string (str (tg32)), .string (str ([] : List UInt8)), .slice (ak33) (ssk33.length) (ck33), .string (str ([] : List UInt8)), .slice none (0) (0)] [(.mk 1 tg32 ([] : List UInt8) ssk33 ([] : List UInt8) [] : PT)] := Els.one (rdT_close (x := (.mk 1 tg32 ([] : List UInt8) ssk33 ([] : List UInt8) [] : PT)) ⟨by show (0 : Int) ≤ 1; decide, by show (1 : Int) ≤ 255; decide⟩ ⟨by first | exact Nat.zero_le _ | (show _ ≤ _; omega) | (simp only [Tr.tag]; omega), by first | exact Nat.zero_le _ | (simp only [Tr.key]; omega), by first | exact Nat.zero_le _ | (simp only [Tr.text]; omega)⟩ Sk33 RdSl.nil) rfl
                    refine rl_append_row F M (k := 2) (k2 := 0) rfl rfl tok44.k tok46 rfl rfl (by decide) rfl rfl (by show _ * 104 ≤ _; (try simp only [List.length_drop, List.length_take, List.length_append, List.length_cons, List.length_nil]); omega) (by (try simp only [List.length_drop, List.length_take, List.length_append, List.length_cons, List.length_nil]); omega) rfl ?_; clear F M a; intro v57 w a M F
                    have Ev57 := Els.append Ey E56
                    obtain ⟨av57, cv57, rfl, hlev57, hcmv57, hlv57⟩ := M.row_shape (k := 2) rfl
                    refine rl_run F (run_assign (F.ev rfl)) rfl ?_; clear F a; intro a F
                    refine rl_nil ?_
                    iterate 2 (refine q_bn ?_)
                    refine q_tn ?_
                    exact ⟨_, by omega, (q + 1), (ps ++ ([(.mk 1 tg32 ([] : List UInt8) ssk33 ([] : List UInt8) [] : PT)])), (av57), (ny + 1), (cv57), (csy ++ ([.int .u8 (1), .string (str (tg32)), .string (str ([] : List UInt8)), .slice (ak33) (ssk33.length) (ck33), .string (str ([] : List UInt8)), .slice none (0) (0)])), rfl, Gk33, (hG1.trans hGk33), F.to ⟨rfl, rfl, rfl, rfl, trivial⟩, (M.weaken (.cons _ (.cons _ (.cons_cons _ (List.Sublist.refl _))))), by omega, hI.one (okElem (by assumption) (Or.inl rfl) hSk33 (by simp) (by simp)) rfl, by rw [List.length_append, ← hny]; rfl, Ev57⟩
    · intro hc
      have h58b := hc; clear hc
      have h58 : ¬ (((q : Nat) : Int) < 11) := of_decide_eq_false h58b
      refine wp_exit ?_
      iterate 2 (refine q_te ?_)
      refine q_bh <| q_tn <| wp_seq <| w_reg ?_
      iterate 2 (refine rl_run F (run_move (F.ev rfl)) rfl ?_; clear F a; intro a F)
      iterate 2 (refine rl_run F (run_assign (F.ev rfl)) rfl ?_; clear F a; intro a F)
      refine rl_nil <| q_tn <| wp_ret <| fin2 F rfl rfl rfl ?_
      obtain ⟨hnz59, Gz59, az59, cz59, hGz59, hez59, Sz59, M⟩ := M.freeze_row mono_rdP (k := 0) rfl Ey (by decide)
      clear hez59 az59 cz59
      exact ⟨Gz59, (hG1.trans hGz59), M.weaken (List.Sublist.refl _), _, _, ps, q, by rw [hny] <;> rfl, by have h_ := Sz59; rw [hny] at h_; exact h_, by omega, by omega, hI⟩
  · skip
    have h60b := hc; clear hc
    have h60 : ¬ (((q : Nat) : Int) < ((cs.length : Nat) : Int)) := of_decide_eq_false h60b
    iterate 2 (refine rl_guard_f F rfl rfl rfl h60b ?_; clear F a; intro a F)
    refine rl_run F (run_pick_f (F.ev rfl) h60b (F.ev rfl)) rfl ?_; clear F a; intro a F
    refine rl_nil <| q_tn <| w_cond_f F rfl rfl ?_
    refine wp_exit ?_
    iterate 2 (refine q_te ?_)
    refine q_bh <| q_tn <| wp_seq <| w_reg ?_
    iterate 2 (refine rl_run F (run_move (F.ev rfl)) rfl ?_; clear F a; intro a F)
    iterate 2 (refine rl_run F (run_assign (F.ev rfl)) rfl ?_; clear F a; intro a F)
    refine rl_nil <| q_tn <| wp_ret <| fin2 F rfl rfl rfl ?_
    obtain ⟨hnz61, Gz61, az61, cz61, hGz61, hez61, Sz61, M⟩ := M.freeze_row mono_rdP (k := 0) rfl Ey (by decide)
    clear hez61 az61 cz61
    exact ⟨Gz61, (hG1.trans hGz61), M.weaken (List.Sublist.refl _), _, _, ps, q, by rw [hny] <;> rfl, by have h_ := Sz61; rw [hny] at h_; exact h_, by omega, by omega, hI⟩
theorem build_all : ∀ d, BuildQ d
  | 0 => fun w0 w G L ca cc cs q0 lv M S hq0 hlv => build_step (fun e he => by omega) M S hq0 hlv
  | d + 1 => fun w0 w G L ca cc cs q0 lv M S hq0 hlv => build_step (fun e he => by rw [show e = d by omega]; exact build_all d) M S hq0 hlv
theorem pof_spec {w0 w : World} {G : Ghost} {L : List Res} (M : Mem w0 G L w) {ca : Option Addr} {cc : Nat} {cs : List UInt8} (S : RdSl rdB 1 G (.slice ca cs.length cc) cs) {pt psl : Nat} (hpt : pt < 256) (hps : psl < 256) : Calls Tryz.prog 20 #[.agg #[.int .u8 (((pt : Nat) : Int)), .int .u8 (((psl : Nat) : Int)), .slice (ca) (cs.length) (cc)]] w (Ret w0 G L fun G' v => ∃ (x : PT) (ta ka : Option Addr) (tc kc : Nat), v = .agg #[.int .u8 (x.kind), .string (str (x.tag)), .string (str (x.key)), .slice (ta) (x.as.length) (tc), .string (str (x.text)), .slice (ka) (x.kids.length) (kc)] ∧ ValidP x ∧ (x.tag.length ≤ 9223372036854775807 ∧ x.key.length ≤ 9223372036854775807 ∧ x.text.length ≤ 9223372036854775807) ∧ RdSl rdSlot 3 G' (.slice ta x.as.length tc) x.as ∧ RdSl rdP 6 G' (.slice ka x.kids.length kc) x.kids) := by
  refine calls_start (vs := [_]) Tryz.func20 rfl (n := 19) rfl rfl ?_
  intro a F
  refine wp_seq <| w_reg <| rl_box F M rfl (cs := [.int .u8 (((pt : Nat) : Int)), .int .u8 (((psl : Nat) : Int)), .slice (ca) (cs.length) (cc)]) rfl rfl ?_; clear F M a; intro b1 w a M F
  refine rl_alloc F M tok46 rfl rfl ?_; clear F M a; intro b2 w a M F
  refine rl_nil <| q_tn <| wp_seq <| w_tree (.run 0 (.run 1 (.run 3 (.run 4 (.act 2 (.act 5 (.run 6 (.act 7 (.act 8 .fin .no) .no)) (.act 7 (.act 5 (.run 6 (.act 8 .fin .no)) .no) .no)) (.act 7 (.act 2 (.act 5 (.run 6 (.act 8 .fin .no)) .no) .no) .no)))))) (Keep G [.blk b1 [.int .u8 (((pt : Nat) : Int)), .int .u8 (((psl : Nat) : Int)), .slice (ca) (cs.length) (cc)] 39]) rfl (by kernel_rfl) (fun c a d v w h => by cases d <;> exact h) ((M.drew _).keep (Gle.refl _) (by simp)) ?_
  replace M := M.drew (w.drawn + 1)
  refine pt_run F (fun w M => run_fieldAddr tok39.k rfl rfl (F.ev rfl)) rfl ?_; clear F a; intro a F
  refine pt_run F (fun w M => run_load1 (agf tok5 rfl) (F.ev rfl) (M.cellL (k := 0) rfl rfl)) rfl ?_; clear F a; intro a F
  refine pt_run F (fun w M => run_fieldAddr tok39.k rfl rfl (F.ev rfl)) rfl ?_; clear F a; intro a F
  refine pt_run F (fun w M => run_load1 (agf tok5 rfl) (F.ev rfl) (M.cellL (k := 0) rfl rfl)) rfl ?_; clear F a; intro a F
  refine pt_act ?_ rfl ?_
  · skip
    refine rl_callS F ent59 rfl rfl (tag_spec (n := pt) M (by omega)) ?_; clear F M a; rintro _ w a M ⟨tg4, rfl, htg4⟩ F
    have hltg4 := htg4.1.2
    refine rl_nil <| ⟨Keep G [.blk b1 [.int .u8 (((pt : Nat) : Int)), .int .u8 (((psl : Nat) : Int)), .slice (ca) (cs.length) (cc)] 39], M.keep (Gle.refl _) (by simp), fun w h => h.mono (Gle.refl _) (by simp), ?_⟩
    refine pt_act ?_ rfl ?_
    · skip
      refine rl_call F ent60 rfl rfl (slots_made (n := psl) M (by omega)) ?_; clear F M a; rintro _ Gk5 w a hGk5 M ⟨ak5, ck5, ssk5, rfl, Sk5, hSk5⟩ F
      replace S := S.mono mono_rdB hGk5
      refine rl_nil <| ⟨Keep Gk5 [.blk b1 [.int .u8 (((pt : Nat) : Int)), .int .u8 (((psl : Nat) : Int)), .slice (ca) (cs.length) (cc)] 39], M.keep (Gle.refl _) (by simp), fun w h => h.mono hGk5 (by simp), ?_⟩
      refine pt_run F (fun w M => run_buildS (cs := [.int .u8 (1), .string (str (tg4)), .string (str ([] : List UInt8)), .slice (ak5) (ssk5.length) (ck5), .string (str ([] : List UInt8)), .slice none (0) (0)]) (ps := [(0, .int .u8 (1)), (1, .string (str (tg4))), (3, .slice (ak5) (ssk5.length) (ck5))]) tok46.k rfl tok46 (F.evp rfl) rfl) rfl ?_; clear F a; intro a F
      refine pt_act ?_ rfl pt_no
      refine rl_alloc F M tok46 rfl rfl ?_; clear F M a; intro b6 w a M F
      refine rl_nil <| ⟨Keep Gk5 [.blk b1 [.int .u8 (((pt : Nat) : Int)), .int .u8 (((psl : Nat) : Int)), .slice (ca) (cs.length) (cc)] 39], M.keep (Gle.refl _) (by simp), fun w h => h.mono (Gle.refl _) (by simp), ?_⟩
      refine pt_act ?_ rfl pt_no
      refine rl_storeA F M tok46 (k := 0) rfl rfl rfl (us := [.int .u8 (1), .string (str (tg4)), .string (str ([] : List UInt8)), .slice (ak5) (ssk5.length) (ck5), .string (str ([] : List UInt8)), .slice none (0) (0)]) rfl rfl (by simp [Value.oneCell']) (by simp) ?_; clear F M a; intro w a M F
      change Mem w0 Gk5 (.blk b6 [.int .u8 (1), .string (str (tg4)), .string (str ([] : List UInt8)), .slice (ak5) (ssk5.length) (ck5), .string (str ([] : List UInt8)), .slice none (0) (0)] 46 :: .blk b2 [.int .u8 (0), .string (str ([] : List UInt8)), .string (str ([] : List UInt8)), .slice none (0) (0), .string (str ([] : List UInt8)), .slice none (0) (0)] 46 :: .blk b1 [.int .u8 (((pt : Nat) : Int)), .int .u8 (((psl : Nat) : Int)), .slice (ca) (cs.length) (cc)] 39 :: L) _ at M
      refine rl_nil <| ⟨Keep Gk5 [.blk b1 [.int .u8 (((pt : Nat) : Int)), .int .u8 (((psl : Nat) : Int)), .slice (ca) (cs.length) (cc)] 39], M.keep (Gle.refl _) (by simp), fun w h => h.mono (Gle.refl _) (by simp), ?_⟩
      refine pt_fin <| q_tn <| wp_seq <| w_reg <| rl_run F (run_fieldAddr tok39.k rfl rfl (F.ev rfl)) rfl ?_; clear F a; intro a F
      refine rl_run F (run_load1 (agf tok22 rfl) (F.ev rfl) (M.cellL (k := 2) rfl rfl)) rfl ?_; clear F a; intro a F
      refine rl_call F ent61 rfl rfl (build_all 2 _ _ _ _ _ _ cs (0) (2) M S (by omega) (by rfl)) ?_; clear F M a; rintro _ Gk8 w a hGk8 M ⟨ak8, ck8, psk8, qk8, rfl, Sk8, hqk8, hrk8, hPk8⟩ F
      replace S := S.mono mono_rdB hGk8
      replace Sk5 := Sk5.mono mono_rdSlot hGk8
      refine rl_run F (run_move (F.ev rfl)) rfl ?_; clear F a; intro a F
      refine rl_run F (run_extract (v := .slice (ak8) (psk8.length) (ck8)) (F.ev rfl) rfl) rfl ?_; clear F a; intro a F
      refine rl_run F (run_extract (v := .int .i64 (((qk8 : Nat) : Int))) (F.ev rfl) rfl) rfl ?_; clear F a; intro a F
      refine rl_run F (run_fieldAddr tok46.k rfl rfl (F.ev rfl)) rfl ?_; clear F a; intro a F
      refine rl_store1 F M tok44 rfl (k := 0) rfl rfl rfl rfl rfl ?_; clear F M a; intro w a M F
      refine rl_nil <| q_tn <| wp_seq <| w_reg <| rl_run F (run_loadA tok46 rfl (F.ev rfl) (cs := [.int .u8 (1), .string (str (tg4)), .string (str ([] : List UInt8)), .slice (ak5) (ssk5.length) (ck5), .string (str ([] : List UInt8)), .slice (ak8) (psk8.length) (ck8)]) rfl (M.cellsL (k := 0) rfl rfl)) rfl ?_; clear F a; intro a F
      refine rl_storeA F M tok46 (k := 1) rfl rfl rfl (us := [.int .u8 (1), .string (str (tg4)), .string (str ([] : List UInt8)), .slice (ak5) (ssk5.length) (ck5), .string (str ([] : List UInt8)), .slice (ak8) (psk8.length) (ck8)]) rfl rfl (by simp [Value.oneCell']) (by simp) ?_; clear F M a; intro w a M F
      change Mem w0 Gk8 (.blk b6 [.int .u8 (1), .string (str (tg4)), .string (str ([] : List UInt8)), .slice (ak5) (ssk5.length) (ck5), .string (str ([] : List UInt8)), .slice (ak8) (psk8.length) (ck8)] 46 :: .blk b2 [.int .u8 (1), .string (str (tg4)), .string (str ([] : List UInt8)), .slice (ak5) (ssk5.length) (ck5), .string (str ([] : List UInt8)), .slice (ak8) (psk8.length) (ck8)] 46 :: .blk b1 [.int .u8 (((pt : Nat) : Int)), .int .u8 (((psl : Nat) : Int)), .slice (ca) (cs.length) (cc)] 39 :: L) _ at M
      refine rl_nil <| q_tn <| wp_ret <| fin_c F M (k := 1) rfl rfl tok46 rfl rfl rfl ?_
      exact ⟨_, (hGk5.trans hGk8), M.weaken (.cons _ (.cons _ (.cons _ (List.Sublist.refl _)))), (.mk 1 tg4 ([] : List UInt8) ssk5 ([] : List UInt8) psk8 : PT), _, _, _, _, rfl, ⟨rfl, (okElem (d := 3) (by assumption) (Or.inl rfl) hSk5 (by have := hPk8.len; omega) hPk8.ok).mono (by decide), by have := hPk8.sz; rw [Tr.size_eq]; simp only [Tr.kids]; omega⟩, ⟨by simp only [Tr.tag]; omega, Nat.zero_le _, Nat.zero_le _⟩, Sk5, Sk8⟩
    refine pt_act ?_ rfl ?_
    · skip
      refine rl_alloc F M tok46 rfl rfl ?_; clear F M a; intro b9 w a M F
      refine rl_nil <| ⟨Keep G [.blk b1 [.int .u8 (((pt : Nat) : Int)), .int .u8 (((psl : Nat) : Int)), .slice (ca) (cs.length) (cc)] 39], M.keep (Gle.refl _) (by simp), fun w h => h.mono (Gle.refl _) (by simp), ?_⟩
      refine pt_act ?_ rfl pt_no
      refine rl_call F ent60 rfl rfl (slots_made (n := psl) M (by omega)) ?_; clear F M a; rintro _ Gk11 w a hGk11 M ⟨ak11, ck11, ssk11, rfl, Sk11, hSk11⟩ F
      replace S := S.mono mono_rdB hGk11
      refine rl_nil <| ⟨Keep Gk11 [.blk b1 [.int .u8 (((pt : Nat) : Int)), .int .u8 (((psl : Nat) : Int)), .slice (ca) (cs.length) (cc)] 39], M.keep (Gle.refl _) (by simp), fun w h => h.mono hGk11 (by simp), ?_⟩
      refine pt_run F (fun w M => run_buildS (cs := [.int .u8 (1), .string (str (tg4)), .string (str ([] : List UInt8)), .slice (ak11) (ssk11.length) (ck11), .string (str ([] : List UInt8)), .slice none (0) (0)]) (ps := [(0, .int .u8 (1)), (1, .string (str (tg4))), (3, .slice (ak11) (ssk11.length) (ck11))]) tok46.k rfl tok46 (F.evp rfl) rfl) rfl ?_; clear F a; intro a F
      refine pt_act ?_ rfl pt_no
      refine rl_storeA F M tok46 (k := 0) rfl rfl rfl (us := [.int .u8 (1), .string (str (tg4)), .string (str ([] : List UInt8)), .slice (ak11) (ssk11.length) (ck11), .string (str ([] : List UInt8)), .slice none (0) (0)]) rfl rfl (by simp [Value.oneCell']) (by simp) ?_; clear F M a; intro w a M F
      change Mem w0 Gk11 (.blk b9 [.int .u8 (1), .string (str (tg4)), .string (str ([] : List UInt8)), .slice (ak11) (ssk11.length) (ck11), .string (str ([] : List UInt8)), .slice none (0) (0)] 46 :: .blk b2 [.int .u8 (0), .string (str ([] : List UInt8)), .string (str ([] : List UInt8)), .slice none (0) (0), .string (str ([] : List UInt8)), .slice none (0) (0)] 46 :: .blk b1 [.int .u8 (((pt : Nat) : Int)), .int .u8 (((psl : Nat) : Int)), .slice (ca) (cs.length) (cc)] 39 :: L) _ at M
      refine rl_nil <| ⟨Keep Gk11 [.blk b1 [.int .u8 (((pt : Nat) : Int)), .int .u8 (((psl : Nat) : Int)), .slice (ca) (cs.length) (cc)] 39], M.keep (Gle.refl _) (by simp), fun w h => h.mono (Gle.refl _) (by simp), ?_⟩
      refine pt_fin <| q_tn <| wp_seq <| w_reg <| rl_run F (run_fieldAddr tok39.k rfl rfl (F.ev rfl)) rfl ?_; clear F a; intro a F
      refine rl_run F (run_load1 (agf tok22 rfl) (F.ev rfl) (M.cellL (k := 2) rfl rfl)) rfl ?_; clear F a; intro a F
      refine rl_call F ent61 rfl rfl (build_all 2 _ _ _ _ _ _ cs (0) (2) M S (by omega) (by rfl)) ?_; clear F M a; rintro _ Gk12 w a hGk12 M ⟨ak12, ck12, psk12, qk12, rfl, Sk12, hqk12, hrk12, hPk12⟩ F
      replace S := S.mono mono_rdB hGk12
      replace Sk11 := Sk11.mono mono_rdSlot hGk12
      refine rl_run F (run_move (F.ev rfl)) rfl ?_; clear F a; intro a F
      refine rl_run F (run_extract (v := .slice (ak12) (psk12.length) (ck12)) (F.ev rfl) rfl) rfl ?_; clear F a; intro a F
      refine rl_run F (run_extract (v := .int .i64 (((qk12 : Nat) : Int))) (F.ev rfl) rfl) rfl ?_; clear F a; intro a F
      refine rl_run F (run_fieldAddr tok46.k rfl rfl (F.ev rfl)) rfl ?_; clear F a; intro a F
      refine rl_store1 F M tok44 rfl (k := 0) rfl rfl rfl rfl rfl ?_; clear F M a; intro w a M F
      refine rl_nil <| q_tn <| wp_seq <| w_reg <| rl_run F (run_loadA tok46 rfl (F.ev rfl) (cs := [.int .u8 (1), .string (str (tg4)), .string (str ([] : List UInt8)), .slice (ak11) (ssk11.length) (ck11), .string (str ([] : List UInt8)), .slice (ak12) (psk12.length) (ck12)]) rfl (M.cellsL (k := 0) rfl rfl)) rfl ?_; clear F a; intro a F
      refine rl_storeA F M tok46 (k := 1) rfl rfl rfl (us := [.int .u8 (1), .string (str (tg4)), .string (str ([] : List UInt8)), .slice (ak11) (ssk11.length) (ck11), .string (str ([] : List UInt8)), .slice (ak12) (psk12.length) (ck12)]) rfl rfl (by simp [Value.oneCell']) (by simp) ?_; clear F M a; intro w a M F
      change Mem w0 Gk12 (.blk b9 [.int .u8 (1), .string (str (tg4)), .string (str ([] : List UInt8)), .slice (ak11) (ssk11.length) (ck11), .string (str ([] : List UInt8)), .slice (ak12) (psk12.length) (ck12)] 46 :: .blk b2 [.int .u8 (1), .string (str (tg4)), .string (str ([] : List UInt8)), .slice (ak11) (ssk11.length) (ck11), .string (str ([] : List UInt8)), .slice (ak12) (psk12.length) (ck12)] 46 :: .blk b1 [.int .u8 (((pt : Nat) : Int)), .int .u8 (((psl : Nat) : Int)), .slice (ca) (cs.length) (cc)] 39 :: L) _ at M
      refine rl_nil <| q_tn <| wp_ret <| fin_c F M (k := 1) rfl rfl tok46 rfl rfl rfl ?_
      exact ⟨_, (hGk11.trans hGk12), M.weaken (.cons _ (.cons _ (.cons _ (List.Sublist.refl _)))), (.mk 1 tg4 ([] : List UInt8) ssk11 ([] : List UInt8) psk12 : PT), _, _, _, _, rfl, ⟨rfl, (okElem (d := 3) (by assumption) (Or.inl rfl) hSk11 (by have := hPk12.len; omega) hPk12.ok).mono (by decide), by have := hPk12.sz; rw [Tr.size_eq]; simp only [Tr.kids]; omega⟩, ⟨by simp only [Tr.tag]; omega, Nat.zero_le _, Nat.zero_le _⟩, Sk11, Sk12⟩
    exact pt_no
  refine pt_act ?_ rfl ?_
  · skip
    refine rl_alloc F M tok46 rfl rfl ?_; clear F M a; intro b13 w a M F
    refine rl_nil <| ⟨Keep G [.blk b1 [.int .u8 (((pt : Nat) : Int)), .int .u8 (((psl : Nat) : Int)), .slice (ca) (cs.length) (cc)] 39], M.keep (Gle.refl _) (by simp), fun w h => h.mono (Gle.refl _) (by simp), ?_⟩
    refine pt_act ?_ rfl pt_no
    refine rl_callS F ent59 rfl rfl (tag_spec (n := pt) M (by omega)) ?_; clear F M a; rintro _ w a M ⟨tg15, rfl, htg15⟩ F
    have hltg15 := htg15.1.2
    refine rl_nil <| ⟨Keep G [.blk b1 [.int .u8 (((pt : Nat) : Int)), .int .u8 (((psl : Nat) : Int)), .slice (ca) (cs.length) (cc)] 39], M.keep (Gle.refl _) (by simp), fun w h => h.mono (Gle.refl _) (by simp), ?_⟩
    refine pt_act ?_ rfl pt_no
    refine rl_call F ent60 rfl rfl (slots_made (n := psl) M (by omega)) ?_; clear F M a; rintro _ Gk16 w a hGk16 M ⟨ak16, ck16, ssk16, rfl, Sk16, hSk16⟩ F
    replace S := S.mono mono_rdB hGk16
    refine rl_nil <| ⟨Keep Gk16 [.blk b1 [.int .u8 (((pt : Nat) : Int)), .int .u8 (((psl : Nat) : Int)), .slice (ca) (cs.length) (cc)] 39], M.keep (Gle.refl _) (by simp), fun w h => h.mono hGk16 (by simp), ?_⟩
    refine pt_run F (fun w M => run_buildS (cs := [.int .u8 (1), .string (str (tg15)), .string (str ([] : List UInt8)), .slice (ak16) (ssk16.length) (ck16), .string (str ([] : List UInt8)), .slice none (0) (0)]) (ps := [(0, .int .u8 (1)), (1, .string (str (tg15))), (3, .slice (ak16) (ssk16.length) (ck16))]) tok46.k rfl tok46 (F.evp rfl) rfl) rfl ?_; clear F a; intro a F
    refine pt_act ?_ rfl pt_no
    refine rl_storeA F M tok46 (k := 0) rfl rfl rfl (us := [.int .u8 (1), .string (str (tg15)), .string (str ([] : List UInt8)), .slice (ak16) (ssk16.length) (ck16), .string (str ([] : List UInt8)), .slice none (0) (0)]) rfl rfl (by simp [Value.oneCell']) (by simp) ?_; clear F M a; intro w a M F
    change Mem w0 Gk16 (.blk b13 [.int .u8 (1), .string (str (tg15)), .string (str ([] : List UInt8)), .slice (ak16) (ssk16.length) (ck16), .string (str ([] : List UInt8)), .slice none (0) (0)] 46 :: .blk b2 [.int .u8 (0), .string (str ([] : List UInt8)), .string (str ([] : List UInt8)), .slice none (0) (0), .string (str ([] : List UInt8)), .slice none (0) (0)] 46 :: .blk b1 [.int .u8 (((pt : Nat) : Int)), .int .u8 (((psl : Nat) : Int)), .slice (ca) (cs.length) (cc)] 39 :: L) _ at M
    refine rl_nil <| ⟨Keep Gk16 [.blk b1 [.int .u8 (((pt : Nat) : Int)), .int .u8 (((psl : Nat) : Int)), .slice (ca) (cs.length) (cc)] 39], M.keep (Gle.refl _) (by simp), fun w h => h.mono (Gle.refl _) (by simp), ?_⟩
    refine pt_fin <| q_tn <| wp_seq <| w_reg <| rl_run F (run_fieldAddr tok39.k rfl rfl (F.ev rfl)) rfl ?_; clear F a; intro a F
    refine rl_run F (run_load1 (agf tok22 rfl) (F.ev rfl) (M.cellL (k := 2) rfl rfl)) rfl ?_; clear F a; intro a F
    refine rl_call F ent61 rfl rfl (build_all 2 _ _ _ _ _ _ cs (0) (2) M S (by omega) (by rfl)) ?_; clear F M a; rintro _ Gk17 w a hGk17 M ⟨ak17, ck17, psk17, qk17, rfl, Sk17, hqk17, hrk17, hPk17⟩ F
    replace S := S.mono mono_rdB hGk17
    replace Sk16 := Sk16.mono mono_rdSlot hGk17
    refine rl_run F (run_move (F.ev rfl)) rfl ?_; clear F a; intro a F
    refine rl_run F (run_extract (v := .slice (ak17) (psk17.length) (ck17)) (F.ev rfl) rfl) rfl ?_; clear F a; intro a F
    refine rl_run F (run_extract (v := .int .i64 (((qk17 : Nat) : Int))) (F.ev rfl) rfl) rfl ?_; clear F a; intro a F
    refine rl_run F (run_fieldAddr tok46.k rfl rfl (F.ev rfl)) rfl ?_; clear F a; intro a F
    refine rl_store1 F M tok44 rfl (k := 0) rfl rfl rfl rfl rfl ?_; clear F M a; intro w a M F
    refine rl_nil <| q_tn <| wp_seq <| w_reg <| rl_run F (run_loadA tok46 rfl (F.ev rfl) (cs := [.int .u8 (1), .string (str (tg15)), .string (str ([] : List UInt8)), .slice (ak16) (ssk16.length) (ck16), .string (str ([] : List UInt8)), .slice (ak17) (psk17.length) (ck17)]) rfl (M.cellsL (k := 0) rfl rfl)) rfl ?_; clear F a; intro a F
    refine rl_storeA F M tok46 (k := 1) rfl rfl rfl (us := [.int .u8 (1), .string (str (tg15)), .string (str ([] : List UInt8)), .slice (ak16) (ssk16.length) (ck16), .string (str ([] : List UInt8)), .slice (ak17) (psk17.length) (ck17)]) rfl rfl (by simp [Value.oneCell']) (by simp) ?_; clear F M a; intro w a M F
    change Mem w0 Gk17 (.blk b13 [.int .u8 (1), .string (str (tg15)), .string (str ([] : List UInt8)), .slice (ak16) (ssk16.length) (ck16), .string (str ([] : List UInt8)), .slice (ak17) (psk17.length) (ck17)] 46 :: .blk b2 [.int .u8 (1), .string (str (tg15)), .string (str ([] : List UInt8)), .slice (ak16) (ssk16.length) (ck16), .string (str ([] : List UInt8)), .slice (ak17) (psk17.length) (ck17)] 46 :: .blk b1 [.int .u8 (((pt : Nat) : Int)), .int .u8 (((psl : Nat) : Int)), .slice (ca) (cs.length) (cc)] 39 :: L) _ at M
    refine rl_nil <| q_tn <| wp_ret <| fin_c F M (k := 1) rfl rfl tok46 rfl rfl rfl ?_
    exact ⟨_, (hGk16.trans hGk17), M.weaken (.cons _ (.cons _ (.cons _ (List.Sublist.refl _)))), (.mk 1 tg15 ([] : List UInt8) ssk16 ([] : List UInt8) psk17 : PT), _, _, _, _, rfl, ⟨rfl, (okElem (d := 3) (by assumption) (Or.inl rfl) hSk16 (by have := hPk17.len; omega) hPk17.ok).mono (by decide), by have := hPk17.sz; rw [Tr.size_eq]; simp only [Tr.kids]; omega⟩, ⟨by simp only [Tr.tag]; omega, Nat.zero_le _, Nat.zero_le _⟩, Sk16, Sk17⟩
  exact pt_no
theorem validP_kind {x : PT} (h : ValidP x) : inKind .u8 x.kind := by rw [h.1]; exact ⟨by decide, by decide⟩
theorem iof_spec {w0 w : World} {G : Ghost} {L : List Res} (M : Mem w0 G L w) {ca : Option Addr} {cc : Nat} {cs : List UInt8} (S : RdSl rdB 1 G (.slice ca cs.length cc) cs) {ik it : Nat} (hik : ik < 65536) (hit : it < 256) : Calls Tryz.prog 21 #[.agg #[.int .u16 (((ik : Nat) : Int)), .int .u8 (((it : Nat) : Int)), .slice (ca) (cs.length) (cc)]] w (Ret w0 G L fun G' v => ∃ (x : ItemD) (ma : Option Addr) (mc : Nat), v = .agg #[.int .u64 (x.key), .int .u8 (x.typ), .string (str (x.text)), .slice (ma) (x.marks.length) (mc)] ∧ ItemOk x ∧ inKind .u64 x.key ∧ RdSl rdStr 1 G' (.slice ma x.marks.length mc) x.marks) := by
  refine calls_start (vs := [_]) Tryz.func21 rfl (n := 42) rfl rfl ?_
  intro a F
  refine wp_seq <| w_reg <| rl_box F M rfl (cs := [.int .u16 (((ik : Nat) : Int)), .int .u8 (((it : Nat) : Int)), .slice (ca) (cs.length) (cc)]) rfl rfl ?_; clear F M a; intro b1 w a M F
  refine rl_alloc F M tok51 rfl rfl ?_; clear F M a; intro b2 w a M F
  refine rl_nil <| q_tn <| wp_seq ?_
  have bS := S.bound
  refine w_tree (.run 0 (.run 1 (.run 2 (.run 3 (.run 5 (.run 6 (.run 7 (.act 4 (.run 8 (.run 9 (.run 10 (.act 11 (.act 12 .fin .no) .no)))) (.act 11 (.act 4 (.run 8 (.run 9 (.run 10 (.act 12 .fin .no)))) .no) .no))))))))) (Keep G [.blk b1 [.int .u16 (((ik : Nat) : Int)), .int .u8 (((it : Nat) : Int)), .slice (ca) (cs.length) (cc)] 42]) rfl (by kernel_rfl) (fun c a d v w h => by cases d <;> exact h) ((M.drew _).keep (Gle.refl _) (by simp)) ?_
  replace M := M.drew (w.drawn + 1)
  refine pt_run F (fun w M => run_fieldAddr tok42.k rfl rfl (F.ev rfl)) rfl ?_; clear F a; intro a F
  refine pt_run F (fun w M => run_load1 (agf tok40 rfl) (F.ev rfl) (M.cellL (k := 0) rfl rfl)) rfl ?_; clear F a; intro a F
  refine pt_run F (fun w M => run_conv_int tok48.k ⟨_, by rw [under_int tok40.k]⟩ (F.ev rfl) (in_u64 (by omega) (by omega))) rfl ?_; clear F a; intro a F
  refine pt_run F (fun w M => run_addi (F.ev rfl) (F.ev rfl) (in_u64 (by omega) (by omega))) rfl ?_; clear F a; intro a F
  refine pt_run F (fun w M => run_fieldAddr tok42.k rfl rfl (F.ev rfl)) rfl ?_; clear F a; intro a F
  refine pt_run F (fun w M => run_load1 (agf tok5 rfl) (F.ev rfl) (M.cellL (k := 0) rfl rfl)) rfl ?_; clear F a; intro a F
  refine pt_run F (fun w M => run_remi (F.ev rfl) (F.ev rfl) (by omega) (by omega)) rfl ?_; clear F a; intro a F
  refine pt_act ?_ rfl ?_
  · skip
    refine rl_buildSliceN F M tok49.k tok9 (ps := [(0, .string (str ([] : List UInt8))), (1, .string (str ([104, 105] : List UInt8))), (2, .string (str ([97, 32, 34, 98, 34] : List UInt8))), (3, .string (str ([48] : List UInt8)))]) (cs := [[.string (str ([] : List UInt8))], [.string (str ([104, 105] : List UInt8))], [.string (str ([97, 32, 34, 98, 34] : List UInt8))], [.string (str ([48] : List UInt8))]]) (fl := [.string (str ([] : List UInt8)), .string (str ([104, 105] : List UInt8)), .string (str ([97, 32, 34, 98, 34] : List UInt8)), .string (str ([48] : List UInt8))]) rfl rfl (by simp [Parts, Value.cells]) (by simp [ti9]) rfl (by simp [Value.oneCell']) (by decide) (by decide) rfl ?_; clear F M a; intro v4 w a M F
    obtain ⟨av4, cv4, rfl, hlev4, hcmv4, hlv4⟩ := M.row_shape (k := 0) rfl
    refine rl_nil ?_
    change Mem w0 G (.row (.slice (av4) (4) (cv4)) (4) ([.string (str ([] : List UInt8)), .string (str ([104, 105] : List UInt8)), .string (str ([97, 32, 34, 98, 34] : List UInt8)), .string (str ([48] : List UInt8))]) 9 1 :: .blk b2 [.int .u64 (0), .int .u8 (0), .string (str ([] : List UInt8)), .slice none (0) (0)] 51 :: .blk b1 [.int .u16 (((ik : Nat) : Int)), .int .u8 (((it : Nat) : Int)), .slice (ca) (cs.length) (cc)] 42 :: L) _ at M
    refine ⟨Keep G [.row (.slice (av4) (4) (cv4)) (4) ([.string (str ([] : List UInt8)), .string (str ([104, 105] : List UInt8)), .string (str ([97, 32, 34, 98, 34] : List UInt8)), .string (str ([48] : List UInt8))]) 9 1, .blk b1 [.int .u16 (((ik : Nat) : Int)), .int .u8 (((it : Nat) : Int)), .slice (ca) (cs.length) (cc)] 42], M.keep (Gle.refl _) (by simp), fun w h => h.mono (Gle.refl _) (by simp), ?_⟩
    obtain ⟨Xe5, hXe5⟩ := get_of_lt (xs := itS) (i := it % 4) (by show _ < 4; omega)
    obtain ⟨be5, _, Ie5, hme5, _, Ae5, ⟨rfl, hsle5⟩⟩ := M.atRowK (k := 0) rfl (by decide) itE (Lr := [.row (.slice (av4) (4) (cv4)) (4) ([.string (str ([] : List UInt8)), .string (str ([104, 105] : List UInt8)), .string (str ([97, 32, 34, 98, 34] : List UInt8)), .string (str ([48] : List UInt8))]) 9 1, .blk b1 [.int .u16 (((ik : Nat) : Int)), .int .u8 (((it : Nat) : Int)), .slice (ca) (cs.length) (cc)] 42]) (k' := 0) rfl hXe5
    refine pt_run F (fun w M => run_indexI tok49.k tok9 (F.ev rfl) (F.ev rfl) (by omega) Ie5) rfl ?_; clear F a; intro a F
    refine pt_run F (fun w M => run_load1 (agf tok9 rfl) (F.ev rfl) (cellE (Ae5 w M) 0 (by omega) rfl)) rfl ?_; clear F a; intro a F
    refine pt_run F (fun w M => run_buildS (cs := [.int .u64 (1 + (((ik : Nat) : Int))), .int .u8 (0), .string (str (Xe5)), .slice none (0) (0)]) (ps := [(0, .int .u64 (1 + (((ik : Nat) : Int)))), (2, .string (str (Xe5)))]) tok51.k rfl tok51 (F.evp rfl) rfl) rfl ?_; clear F a; intro a F
    refine pt_act ?_ rfl pt_no
    refine rl_alloc F M tok51 rfl rfl ?_; clear F M a; intro b6 w a M F
    refine rl_nil <| ⟨Keep G [.row (.slice (av4) (4) (cv4)) (4) ([.string (str ([] : List UInt8)), .string (str ([104, 105] : List UInt8)), .string (str ([97, 32, 34, 98, 34] : List UInt8)), .string (str ([48] : List UInt8))]) 9 1, .blk b1 [.int .u16 (((ik : Nat) : Int)), .int .u8 (((it : Nat) : Int)), .slice (ca) (cs.length) (cc)] 42], M.keep (Gle.refl _) (by simp), fun w h => h.mono (Gle.refl _) (by simp), ?_⟩
    refine pt_act ?_ rfl pt_no
    refine rl_storeA F M tok51 (k := 0) rfl rfl rfl (us := [.int .u64 (1 + (((ik : Nat) : Int))), .int .u8 (0), .string (str (Xe5)), .slice none (0) (0)]) rfl rfl (by simp [Value.oneCell']) (by simp) ?_; clear F M a; intro w a M F
    change Mem w0 G (.blk b6 [.int .u64 (1 + (((ik : Nat) : Int))), .int .u8 (0), .string (str (Xe5)), .slice none (0) (0)] 51 :: .row (.slice (av4) (4) (cv4)) (4) ([.string (str ([] : List UInt8)), .string (str ([104, 105] : List UInt8)), .string (str ([97, 32, 34, 98, 34] : List UInt8)), .string (str ([48] : List UInt8))]) 9 1 :: .blk b2 [.int .u64 (0), .int .u8 (0), .string (str ([] : List UInt8)), .slice none (0) (0)] 51 :: .blk b1 [.int .u16 (((ik : Nat) : Int)), .int .u8 (((it : Nat) : Int)), .slice (ca) (cs.length) (cc)] 42 :: L) _ at M
    refine rl_nil <| ⟨Keep G [.row (.slice (av4) (4) (cv4)) (4) ([.string (str ([] : List UInt8)), .string (str ([104, 105] : List UInt8)), .string (str ([97, 32, 34, 98, 34] : List UInt8)), .string (str ([48] : List UInt8))]) 9 1, .blk b1 [.int .u16 (((ik : Nat) : Int)), .int .u8 (((it : Nat) : Int)), .slice (ca) (cs.length) (cc)] 42], M.keep (Gle.refl _) (by simp), fun w h => h.mono (Gle.refl _) (by simp), ?_⟩
    refine pt_fin <| q_tn ?_
    iterate 2 (refine wp_seq ?_)
    refine w_reg <| rl_run F (run_assign (F.ev rfl)) rfl ?_; clear F a; intro a F
    refine rl_nil <| q_tn <| wp_block ?_
    have M := M.nilrow 9 1
    refine w_loopN (fun m a' w' => ∃ (i : Nat), ∃ (xs : List (List UInt8)), ∃ (ay : Option Addr), ∃ (ny : Nat), ∃ (cy : Nat), ∃ (csy : List Value), m = 4 - i ∧ Fits 42 a' [(1, .pointer (some ⟨b1, 0, none⟩)), (2, .pointer (some ⟨b2, 0, none⟩)), (3, .pointer (some ⟨b6, 0, none⟩)), (4, .int .i64 (((i : Nat) : Int)))] ∧ Mem w0 G (.row (.slice (ay) (ny) (cy)) (ny) (csy) 9 1 :: .blk b6 [.int .u64 (1 + (((ik : Nat) : Int))), .int .u8 (0), .string (str (Xe5)), .slice (ay) (ny) (cy)] 51 :: .row (.slice (av4) (4) (cv4)) (4) ([.string (str ([] : List UInt8)), .string (str ([104, 105] : List UInt8)), .string (str ([97, 32, 34, 98, 34] : List UInt8)), .string (str ([48] : List UInt8))]) 9 1 :: .blk b2 [.int .u64 (0), .int .u8 (0), .string (str ([] : List UInt8)), .slice none (0) (0)] 51 :: .blk b1 [.int .u16 (((ik : Nat) : Int)), .int .u8 (((it : Nat) : Int)), .slice (ca) (cs.length) (cc)] 42 :: L) w' ∧ (i ≤ 4) ∧ (ny = xs.length) ∧ (xs.length ≤ i) ∧ (∀ s ∈ xs, Name s) ∧ (Els rdStr 1 G csy xs)) _ ⟨0, [], none, 0, 0, [], rfl, F.to ⟨rfl, rfl, rfl, rfl, trivial⟩, M, by omega, rfl, by simp, by simp, Els.nil⟩ ?_
    clear F M
    rintro m a w ⟨i, xs, ay, ny, cy, csy, rfl, F, M, hi, hny, hxl, hA, Ey⟩
    iterate 2 (refine wp_seq ?_)
    refine w_reg <| rl_run F (run_move (F.ev rfl)) rfl ?_; clear F a; intro a F
    refine rl_run F (run_fieldAddr tok42.k rfl rfl (F.ev rfl)) rfl ?_; clear F a; intro a F
    refine rl_run F (run_load1 (agf tok22 rfl) (F.ev rfl) (M.cellL (k := 4) rfl rfl)) rfl ?_; clear F a; intro a F
    refine rl_run F (run_lenSl tok22.k (F.ev rfl)) rfl ?_; clear F a; intro a F
    refine rl_run F (run_lss (F.ev rfl) (F.ev rfl)) rfl ?_; clear F a; intro a F
    refine rl_run F (run_move (F.ev rfl)) rfl ?_; clear F a; intro a F
    rcases Bool.eq_false_or_eq_true (decide (((i : Nat) : Int) < ((cs.length : Nat) : Int))) with hc | hc
    · skip
      have h8b := hc; clear hc
      have h8 : ((i : Nat) : Int) < ((cs.length : Nat) : Int) := of_decide_eq_true h8b
      refine rl_guard_t F rfl rfl rfl h8b ?_
      refine rl_run F (run_move (F.ev rfl)) rfl ?_; clear F a; intro a F
      refine rl_guard_t F rfl rfl rfl h8b ?_
      refine rl_run F (run_lss (F.ev rfl) (F.ev rfl)) rfl ?_; clear F a; intro a F
      refine rl_run F (run_pick_t (F.ev rfl) h8b (F.ev rfl)) rfl ?_; clear F a; intro a F
      refine rl_nil <| q_tn <| w_cond F rfl ?_ ?_
      · intro hc
        have h9b := hc; clear hc
        have h9 : ((i : Nat) : Int) < 4 := of_decide_eq_true h9b
        refine wp_skip <| q_tn <| wp_seq <| wp_block <| w_plan3 [(.free, 0), (.pure, 1), (.free, 3), (.pure, 4), (.free, 5), (.free, 6), (.pure, 7), (.free, 8), (.keep, 2), (.free, 9), (.pure, 10), (.keep, 11), (.keep, 12), (.free, 13), (.chg, 14)] [14] (Keep G [.blk b6 [.int .u64 (1 + (((ik : Nat) : Int))), .int .u8 (0), .string (str (Xe5)), .slice (ay) (ny) (cy)] 51, .blk b1 [.int .u16 (((ik : Nat) : Int)), .int .u8 (((it : Nat) : Int)), .slice (ca) (cs.length) (cc)] 42]) rfl (by kernel_rfl) (fun c a d v w h => by cases d <;> exact h) ((M.drew _).keep (Gle.refl _) (by simp)) ?_
        replace M := M.drew (w.drawn + 1)
        refine pk_free F (fun w _ => run_fieldAddr tok51.k rfl rfl (F.ev rfl)) rfl ?_; clear F a; intro a F
        refine pk_pure F (fun w M => run_load1 (agf tok49 rfl) (F.ev rfl) (M.cellL (k := 0) rfl rfl)) rfl ?_; clear F a; intro a F
        refine pk_free F (fun w _ => run_fieldAddr tok42.k rfl rfl (F.ev rfl)) rfl ?_; clear F a; intro a F
        refine pk_pure F (fun w M => run_load1 (agf tok22 rfl) (F.ev rfl) (M.cellL (k := 1) rfl rfl)) rfl ?_; clear F a; intro a F
        refine pk_free F (fun w _ => run_move (F.ev rfl)) rfl ?_; clear F a; intro a F
        obtain ⟨Xe10, hXe10⟩ := get_of_lt (xs := cs) (i := i) (by omega)
        obtain ⟨be10, oe10, _, Ie10, _, Ae10, rfl⟩ := S.at hXe10
        refine pk_free F (fun w _ => run_indexI tok22.k tok5 (F.ev rfl) (F.ev rfl) (by omega) Ie10) rfl ?_; clear F a; intro a F
        refine pk_pure F (fun w M => run_load1 (agf tok5 rfl) (F.ev rfl) (M.cellA Ae10 0 (by omega) rfl)) rfl ?_; clear F a; intro a F
        have hnb9 : nb Xe10 = ((Xe10.toNat : Nat) : Int) := rfl
        have hnb8 := UInt8.toNat_lt Xe10
        refine pk_free F (fun w _ => run_remi (F.ev rfl) (F.ev rfl) (by omega) (by omega)) rfl ?_; clear F a; intro a F
        refine pk_keep ?_ rfl
        refine rl_buildSliceN F M tok49.k tok9 (ps := [(0, .string (str ([117] : List UInt8))), (1, .string (str ([118] : List UInt8))), (2, .string (str ([119] : List UInt8))), (3, .string (str ([107] : List UInt8))), (4, .string (str ([109, 53] : List UInt8))), (5, .string (str ([109, 54] : List UInt8)))]) (cs := [[.string (str ([117] : List UInt8))], [.string (str ([118] : List UInt8))], [.string (str ([119] : List UInt8))], [.string (str ([107] : List UInt8))], [.string (str ([109, 53] : List UInt8))], [.string (str ([109, 54] : List UInt8))]]) (fl := [.string (str ([117] : List UInt8)), .string (str ([118] : List UInt8)), .string (str ([119] : List UInt8)), .string (str ([107] : List UInt8)), .string (str ([109, 53] : List UInt8)), .string (str ([109, 54] : List UInt8))]) rfl rfl (by simp [Parts, Value.cells]) (by simp [ti9]) rfl (by simp [Value.oneCell']) (by decide) (by decide) rfl ?_; clear F M a; intro v11 w a M F
        obtain ⟨av11, cv11, rfl, hlev11, hcmv11, hlv11⟩ := M.row_shape (k := 0) rfl
        refine rl_nil ?_
        change Mem w0 G (.row (.slice (av11) (6) (cv11)) (6) ([.string (str ([117] : List UInt8)), .string (str ([118] : List UInt8)), .string (str ([119] : List UInt8)), .string (str ([107] : List UInt8)), .string (str ([109, 53] : List UInt8)), .string (str ([109, 54] : List UInt8))]) 9 1 :: .row (.slice (ay) (ny) (cy)) (ny) (csy) 9 1 :: .blk b6 [.int .u64 (1 + (((ik : Nat) : Int))), .int .u8 (0), .string (str (Xe5)), .slice (ay) (ny) (cy)] 51 :: .row (.slice (av4) (4) (cv4)) (4) ([.string (str ([] : List UInt8)), .string (str ([104, 105] : List UInt8)), .string (str ([97, 32, 34, 98, 34] : List UInt8)), .string (str ([48] : List UInt8))]) 9 1 :: .blk b2 [.int .u64 (0), .int .u8 (0), .string (str ([] : List UInt8)), .slice none (0) (0)] 51 :: .blk b1 [.int .u16 (((ik : Nat) : Int)), .int .u8 (((it : Nat) : Int)), .slice (ca) (cs.length) (cc)] 42 :: L) _ at M
        refine ⟨Keep G [.row (.slice (av11) (6) (cv11)) (6) ([.string (str ([117] : List UInt8)), .string (str ([118] : List UInt8)), .string (str ([119] : List UInt8)), .string (str ([107] : List UInt8)), .string (str ([109, 53] : List UInt8)), .string (str ([109, 54] : List UInt8))]) 9 1, .blk b6 [.int .u64 (1 + (((ik : Nat) : Int))), .int .u8 (0), .string (str (Xe5)), .slice (ay) (ny) (cy)] 51, .blk b1 [.int .u16 (((ik : Nat) : Int)), .int .u8 (((it : Nat) : Int)), .slice (ca) (cs.length) (cc)] 42], M.keep (Gle.refl _) (by simp), fun w h => h.mono (Gle.refl _) (by simp), ?_⟩
        obtain ⟨Xe12, hXe12⟩ := get_of_lt (xs := mkS) (i := Xe10.toNat % 6) (by show _ < 6; omega)
        obtain ⟨be12, _, Ie12, hme12, _, Ae12, ⟨rfl, hsle12⟩⟩ := M.atRowK (k := 0) rfl (by decide) mkE (Lr := [.row (.slice (av11) (6) (cv11)) (6) ([.string (str ([117] : List UInt8)), .string (str ([118] : List UInt8)), .string (str ([119] : List UInt8)), .string (str ([107] : List UInt8)), .string (str ([109, 53] : List UInt8)), .string (str ([109, 54] : List UInt8))]) 9 1, .blk b6 [.int .u64 (1 + (((ik : Nat) : Int))), .int .u8 (0), .string (str (Xe5)), .slice (ay) (ny) (cy)] 51, .blk b1 [.int .u16 (((ik : Nat) : Int)), .int .u8 (((it : Nat) : Int)), .slice (ca) (cs.length) (cc)] 42]) (k' := 0) rfl hXe12
        refine pk_free F (fun w _ => run_indexI tok49.k tok9 (F.ev rfl) (F.ev rfl) (by omega) Ie12) rfl ?_; clear F a; intro a F
        refine pk_pure F (fun w M => run_load1 (agf tok9 rfl) (F.ev rfl) (cellE (Ae12 w M) 0 (by omega) rfl)) rfl ?_; clear F a; intro a F
        refine pk_keep ?_ rfl
        refine rl_buildSlice1 F M tok49.k tok9 rfl rfl (cs := [.string (str (Xe12))]) rfl rfl (by simp [Value.oneCell']) (by decide) rfl ?_; clear F M a; intro v13 w a M F
        obtain ⟨av13, cv13, rfl, hlev13, hcmv13, hlv13⟩ := M.row_shape (k := 0) rfl
        refine rl_nil <| ⟨Keep G [.row (.slice (av11) (6) (cv11)) (6) ([.string (str ([117] : List UInt8)), .string (str ([118] : List UInt8)), .string (str ([119] : List UInt8)), .string (str ([107] : List UInt8)), .string (str ([109, 53] : List UInt8)), .string (str ([109, 54] : List UInt8))]) 9 1, .blk b6 [.int .u64 (1 + (((ik : Nat) : Int))), .int .u8 (0), .string (str (Xe5)), .slice (ay) (ny) (cy)] 51, .blk b1 [.int .u16 (((ik : Nat) : Int)), .int .u8 (((it : Nat) : Int)), .slice (ca) (cs.length) (cc)] 42], M.keep (Gle.refl _) (by simp), fun w h => h.mono (Gle.refl _) (by simp), ?_⟩
        have hX9 := in_lit mkS_ok hXe12
        have E14 : Els rdStr 1 G [.string (str (Xe12))] [Xe12] := Els.one ⟨rfl, by have := hX9.1.2; omega⟩ rfl
        refine pk_keep ?_ rfl
        refine rl_append_row F M (k := 2) (k2 := 0) rfl rfl tok49.k tok9 rfl rfl (by decide) rfl rfl (by show _ * 16 ≤ _; (try simp only [List.length_drop, List.length_take, List.length_append, List.length_cons, List.length_nil]); omega) (by (try simp only [List.length_drop, List.length_take, List.length_append, List.length_cons, List.length_nil]); omega) rfl ?_; clear F M a; intro v15 w a M F
        have Ev15 := Els.append Ey E14
        obtain ⟨av15, cv15, rfl, hlev15, hcmv15, hlv15⟩ := M.row_shape (k := 2) rfl
        refine rl_nil <| ⟨Keep G [.row (.slice (av11) (6) (cv11)) (6) ([.string (str ([117] : List UInt8)), .string (str ([118] : List UInt8)), .string (str ([119] : List UInt8)), .string (str ([107] : List UInt8)), .string (str ([109, 53] : List UInt8)), .string (str ([109, 54] : List UInt8))]) 9 1, .blk b6 [.int .u64 (1 + (((ik : Nat) : Int))), .int .u8 (0), .string (str (Xe5)), .slice (ay) (ny) (cy)] 51, .blk b1 [.int .u16 (((ik : Nat) : Int)), .int .u8 (((it : Nat) : Int)), .slice (ca) (cs.length) (cc)] 42], M.keep (Gle.refl _) (by simp), fun w h => h.mono (Gle.refl _) (by simp), ?_⟩
        refine pk_free F (fun w _ => run_fieldAddr tok51.k rfl rfl (F.ev rfl)) rfl ?_; clear F a; intro a F
        refine pk_chg ?_ rfl
        refine rl_store1 F M tok49 rfl (k := 3) rfl rfl rfl rfl rfl ?_; clear F M a; intro w a M F
        refine rl_nil ?_
        change Mem w0 G (.row (.slice (av13) (1) (cv13)) (1) ([.string (str (Xe12))]) 9 1 :: .row (.slice (av11) (6) (cv11)) (6) ([.string (str ([117] : List UInt8)), .string (str ([118] : List UInt8)), .string (str ([119] : List UInt8)), .string (str ([107] : List UInt8)), .string (str ([109, 53] : List UInt8)), .string (str ([109, 54] : List UInt8))]) 9 1 :: .row (.slice (av15) (ny + 1) (cv15)) (ny + 1) (csy ++ ([.string (str (Xe12))])) 9 1 :: .blk b6 [.int .u64 (1 + (((ik : Nat) : Int))), .int .u8 (0), .string (str (Xe5)), .slice (av15) (ny + 1) (cv15)] 51 :: .row (.slice (av4) (4) (cv4)) (4) ([.string (str ([] : List UInt8)), .string (str ([104, 105] : List UInt8)), .string (str ([97, 32, 34, 98, 34] : List UInt8)), .string (str ([48] : List UInt8))]) 9 1 :: .blk b2 [.int .u64 (0), .int .u8 (0), .string (str ([] : List UInt8)), .slice none (0) (0)] 51 :: .blk b1 [.int .u16 (((ik : Nat) : Int)), .int .u8 (((it : Nat) : Int)), .slice (ca) (cs.length) (cc)] 42 :: L) _ at M
        refine ⟨Keep G [.row (.slice (av13) (1) (cv13)) (1) ([.string (str (Xe12))]) 9 1, .row (.slice (av11) (6) (cv11)) (6) ([.string (str ([117] : List UInt8)), .string (str ([118] : List UInt8)), .string (str ([119] : List UInt8)), .string (str ([107] : List UInt8)), .string (str ([109, 53] : List UInt8)), .string (str ([109, 54] : List UInt8))]) 9 1, .row (.slice (av15) (ny + 1) (cv15)) (ny + 1) (csy ++ ([.string (str (Xe12))])) 9 1, .blk b6 [.int .u64 (1 + (((ik : Nat) : Int))), .int .u8 (0), .string (str (Xe5)), .slice (av15) (ny + 1) (cv15)] 51, .row (.slice (av4) (4) (cv4)) (4) ([.string (str ([] : List UInt8)), .string (str ([104, 105] : List UInt8)), .string (str ([97, 32, 34, 98, 34] : List UInt8)), .string (str ([48] : List UInt8))]) 9 1, .blk b2 [.int .u64 (0), .int .u8 (0), .string (str ([] : List UInt8)), .slice none (0) (0)] 51, .blk b1 [.int .u16 (((ik : Nat) : Int)), .int .u8 (((it : Nat) : Int)), .slice (ca) (cs.length) (cc)] 42], M.keep (Gle.refl _) (by simp), ?_⟩
        refine pk_nil <| q_bn <| q_tn <| w_reg <| rl_run F (run_move (F.ev rfl)) rfl ?_; clear F a; intro a F
        refine rl_run F (run_addi (F.ev rfl) (F.ev rfl) (in_i64 (by omega) (by omega))) rfl ?_; clear F a; intro a F
        refine rl_run F (run_assign (F.ev rfl)) rfl ?_; clear F a; intro a F
        refine rl_nil <| q_tn ?_
        exact ⟨_, by omega, i + 1, (xs ++ ([Xe12])), (av15), (ny + 1), (cv15), (csy ++ ([.string (str (Xe12))])), rfl, F.to ⟨rfl, rfl, rfl, rfl, trivial⟩, (M.weaken (.cons _ (.cons _ (.cons_cons _ (.cons_cons _ (.cons_cons _ (.cons_cons _ (.cons_cons _ (List.Sublist.refl _))))))))), by omega, by rw [List.length_append, ← hny]; rfl, by rw [List.length_append]; show _ + 1 ≤ _; omega, (by intro s hs; exact (List.mem_append.1 hs).elim (hA s) (fun hs => by rw [List.mem_singleton.1 hs]; exact in_lit mkS_ok hXe12)), Ev15⟩
      · intro hc
        have h16b := hc; clear hc
        have h16 : ¬ (((i : Nat) : Int) < 4) := of_decide_eq_false h16b
        refine wp_exit ?_
        iterate 2 (refine q_te ?_)
        refine q_bh <| q_tn <| wp_seq <| w_reg <| rl_run F (run_loadA tok51 rfl (F.ev rfl) (cs := [.int .u64 (1 + (((ik : Nat) : Int))), .int .u8 (0), .string (str (Xe5)), .slice (ay) (ny) (cy)]) rfl (M.cellsL (k := 1) rfl rfl)) rfl ?_; clear F a; intro a F
        refine rl_storeA F M tok51 (k := 3) rfl rfl rfl (us := [.int .u64 (1 + (((ik : Nat) : Int))), .int .u8 (0), .string (str (Xe5)), .slice (ay) (ny) (cy)]) rfl rfl (by simp [Value.oneCell']) (by simp) ?_; clear F M a; intro w a M F
        change Mem w0 G (.row (.slice (ay) (ny) (cy)) (ny) (csy) 9 1 :: .blk b6 [.int .u64 (1 + (((ik : Nat) : Int))), .int .u8 (0), .string (str (Xe5)), .slice (ay) (ny) (cy)] 51 :: .row (.slice (av4) (4) (cv4)) (4) ([.string (str ([] : List UInt8)), .string (str ([104, 105] : List UInt8)), .string (str ([97, 32, 34, 98, 34] : List UInt8)), .string (str ([48] : List UInt8))]) 9 1 :: .blk b2 [.int .u64 (1 + (((ik : Nat) : Int))), .int .u8 (0), .string (str (Xe5)), .slice (ay) (ny) (cy)] 51 :: .blk b1 [.int .u16 (((ik : Nat) : Int)), .int .u8 (((it : Nat) : Int)), .slice (ca) (cs.length) (cc)] 42 :: L) _ at M
        refine rl_nil <| q_tn <| wp_ret <| fin_c F M (k := 3) rfl rfl tok51 rfl rfl rfl ?_
        obtain ⟨hnz17, Gz17, az17, cz17, hGz17, hez17, Sz17, M⟩ := M.freeze_row mono_rdStr (k := 0) rfl Ey (by decide)
        clear hez17 az17 cz17
        exact ⟨Gz17, ((Gle.refl _).trans hGz17), M.weaken (.cons _ (.cons _ (.cons _ (.cons _ (List.Sublist.refl _))))), ⟨1 + (((ik : Nat) : Int)), 0, Xe5, xs⟩, _, _, by rw [hny], ⟨by show ¬ (1 + (((ik : Nat) : Int)) : Int) = 0; omega, in_lit itS_ok hXe5, by show xs.length ≤ 8; omega, hA⟩, ⟨by show (0 : Int) ≤ 1 + (((ik : Nat) : Int)); omega, by show 1 + (((ik : Nat) : Int)) ≤ (18446744073709551615 : Int); omega⟩, by have h_ := Sz17; rw [hny] at h_; exact h_⟩
    · skip
      have h18b := hc; clear hc
      have h18 : ¬ (((i : Nat) : Int) < ((cs.length : Nat) : Int)) := of_decide_eq_false h18b
      iterate 2 (refine rl_guard_f F rfl rfl rfl h18b ?_; clear F a; intro a F)
      refine rl_run F (run_pick_f (F.ev rfl) h18b (F.ev rfl)) rfl ?_; clear F a; intro a F
      refine rl_nil <| q_tn <| w_cond_f F rfl rfl ?_
      refine wp_exit ?_
      iterate 2 (refine q_te ?_)
      refine q_bh <| q_tn <| wp_seq <| w_reg <| rl_run F (run_loadA tok51 rfl (F.ev rfl) (cs := [.int .u64 (1 + (((ik : Nat) : Int))), .int .u8 (0), .string (str (Xe5)), .slice (ay) (ny) (cy)]) rfl (M.cellsL (k := 1) rfl rfl)) rfl ?_; clear F a; intro a F
      refine rl_storeA F M tok51 (k := 3) rfl rfl rfl (us := [.int .u64 (1 + (((ik : Nat) : Int))), .int .u8 (0), .string (str (Xe5)), .slice (ay) (ny) (cy)]) rfl rfl (by simp [Value.oneCell']) (by simp) ?_; clear F M a; intro w a M F
      change Mem w0 G (.row (.slice (ay) (ny) (cy)) (ny) (csy) 9 1 :: .blk b6 [.int .u64 (1 + (((ik : Nat) : Int))), .int .u8 (0), .string (str (Xe5)), .slice (ay) (ny) (cy)] 51 :: .row (.slice (av4) (4) (cv4)) (4) ([.string (str ([] : List UInt8)), .string (str ([104, 105] : List UInt8)), .string (str ([97, 32, 34, 98, 34] : List UInt8)), .string (str ([48] : List UInt8))]) 9 1 :: .blk b2 [.int .u64 (1 + (((ik : Nat) : Int))), .int .u8 (0), .string (str (Xe5)), .slice (ay) (ny) (cy)] 51 :: .blk b1 [.int .u16 (((ik : Nat) : Int)), .int .u8 (((it : Nat) : Int)), .slice (ca) (cs.length) (cc)] 42 :: L) _ at M
      refine rl_nil <| q_tn <| wp_ret <| fin_c F M (k := 3) rfl rfl tok51 rfl rfl rfl ?_
      obtain ⟨hnz19, Gz19, az19, cz19, hGz19, hez19, Sz19, M⟩ := M.freeze_row mono_rdStr (k := 0) rfl Ey (by decide)
      clear hez19 az19 cz19
      exact ⟨Gz19, ((Gle.refl _).trans hGz19), M.weaken (.cons _ (.cons _ (.cons _ (.cons _ (List.Sublist.refl _))))), ⟨1 + (((ik : Nat) : Int)), 0, Xe5, xs⟩, _, _, by rw [hny], ⟨by show ¬ (1 + (((ik : Nat) : Int)) : Int) = 0; omega, in_lit itS_ok hXe5, by show xs.length ≤ 8; omega, hA⟩, ⟨by show (0 : Int) ≤ 1 + (((ik : Nat) : Int)); omega, by show 1 + (((ik : Nat) : Int)) ≤ (18446744073709551615 : Int); omega⟩, by have h_ := Sz19; rw [hny] at h_; exact h_⟩
  refine pt_act ?_ rfl ?_
  · skip
    refine rl_alloc F M tok51 rfl rfl ?_; clear F M a; intro b20 w a M F
    refine rl_nil <| ⟨Keep G [.blk b1 [.int .u16 (((ik : Nat) : Int)), .int .u8 (((it : Nat) : Int)), .slice (ca) (cs.length) (cc)] 42], M.keep (Gle.refl _) (by simp), fun w h => h.mono (Gle.refl _) (by simp), ?_⟩
    refine pt_act ?_ rfl pt_no
    refine rl_buildSliceN F M tok49.k tok9 (ps := [(0, .string (str ([] : List UInt8))), (1, .string (str ([104, 105] : List UInt8))), (2, .string (str ([97, 32, 34, 98, 34] : List UInt8))), (3, .string (str ([48] : List UInt8)))]) (cs := [[.string (str ([] : List UInt8))], [.string (str ([104, 105] : List UInt8))], [.string (str ([97, 32, 34, 98, 34] : List UInt8))], [.string (str ([48] : List UInt8))]]) (fl := [.string (str ([] : List UInt8)), .string (str ([104, 105] : List UInt8)), .string (str ([97, 32, 34, 98, 34] : List UInt8)), .string (str ([48] : List UInt8))]) rfl rfl (by simp [Parts, Value.cells]) (by simp [ti9]) rfl (by simp [Value.oneCell']) (by decide) (by decide) rfl ?_; clear F M a; intro v22 w a M F
    obtain ⟨av22, cv22, rfl, hlev22, hcmv22, hlv22⟩ := M.row_shape (k := 0) rfl
    refine rl_nil ?_
    change Mem w0 G (.row (.slice (av22) (4) (cv22)) (4) ([.string (str ([] : List UInt8)), .string (str ([104, 105] : List UInt8)), .string (str ([97, 32, 34, 98, 34] : List UInt8)), .string (str ([48] : List UInt8))]) 9 1 :: .blk b20 [.int .u64 (0), .int .u8 (0), .string (str ([] : List UInt8)), .slice none (0) (0)] 51 :: .blk b2 [.int .u64 (0), .int .u8 (0), .string (str ([] : List UInt8)), .slice none (0) (0)] 51 :: .blk b1 [.int .u16 (((ik : Nat) : Int)), .int .u8 (((it : Nat) : Int)), .slice (ca) (cs.length) (cc)] 42 :: L) _ at M
    refine ⟨Keep G [.row (.slice (av22) (4) (cv22)) (4) ([.string (str ([] : List UInt8)), .string (str ([104, 105] : List UInt8)), .string (str ([97, 32, 34, 98, 34] : List UInt8)), .string (str ([48] : List UInt8))]) 9 1, .blk b1 [.int .u16 (((ik : Nat) : Int)), .int .u8 (((it : Nat) : Int)), .slice (ca) (cs.length) (cc)] 42], M.keep (Gle.refl _) (by simp), fun w h => h.mono (Gle.refl _) (by simp), ?_⟩
    obtain ⟨Xe23, hXe23⟩ := get_of_lt (xs := itS) (i := it % 4) (by show _ < 4; omega)
    obtain ⟨be23, _, Ie23, hme23, _, Ae23, ⟨rfl, hsle23⟩⟩ := M.atRowK (k := 0) rfl (by decide) itE (Lr := [.row (.slice (av22) (4) (cv22)) (4) ([.string (str ([] : List UInt8)), .string (str ([104, 105] : List UInt8)), .string (str ([97, 32, 34, 98, 34] : List UInt8)), .string (str ([48] : List UInt8))]) 9 1, .blk b1 [.int .u16 (((ik : Nat) : Int)), .int .u8 (((it : Nat) : Int)), .slice (ca) (cs.length) (cc)] 42]) (k' := 0) rfl hXe23
    refine pt_run F (fun w M => run_indexI tok49.k tok9 (F.ev rfl) (F.ev rfl) (by omega) Ie23) rfl ?_; clear F a; intro a F
    refine pt_run F (fun w M => run_load1 (agf tok9 rfl) (F.ev rfl) (cellE (Ae23 w M) 0 (by omega) rfl)) rfl ?_; clear F a; intro a F
    refine pt_run F (fun w M => run_buildS (cs := [.int .u64 (1 + (((ik : Nat) : Int))), .int .u8 (0), .string (str (Xe23)), .slice none (0) (0)]) (ps := [(0, .int .u64 (1 + (((ik : Nat) : Int)))), (2, .string (str (Xe23)))]) tok51.k rfl tok51 (F.evp rfl) rfl) rfl ?_; clear F a; intro a F
    refine pt_act ?_ rfl pt_no
    refine rl_storeA F M tok51 (k := 1) rfl rfl rfl (us := [.int .u64 (1 + (((ik : Nat) : Int))), .int .u8 (0), .string (str (Xe23)), .slice none (0) (0)]) rfl rfl (by simp [Value.oneCell']) (by simp) ?_; clear F M a; intro w a M F
    change Mem w0 G (.row (.slice (av22) (4) (cv22)) (4) ([.string (str ([] : List UInt8)), .string (str ([104, 105] : List UInt8)), .string (str ([97, 32, 34, 98, 34] : List UInt8)), .string (str ([48] : List UInt8))]) 9 1 :: .blk b20 [.int .u64 (1 + (((ik : Nat) : Int))), .int .u8 (0), .string (str (Xe23)), .slice none (0) (0)] 51 :: .blk b2 [.int .u64 (0), .int .u8 (0), .string (str ([] : List UInt8)), .slice none (0) (0)] 51 :: .blk b1 [.int .u16 (((ik : Nat) : Int)), .int .u8 (((it : Nat) : Int)), .slice (ca) (cs.length) (cc)] 42 :: L) _ at M
    refine rl_nil <| ⟨Keep G [.row (.slice (av22) (4) (cv22)) (4) ([.string (str ([] : List UInt8)), .string (str ([104, 105] : List UInt8)), .string (str ([97, 32, 34, 98, 34] : List UInt8)), .string (str ([48] : List UInt8))]) 9 1, .blk b1 [.int .u16 (((ik : Nat) : Int)), .int .u8 (((it : Nat) : Int)), .slice (ca) (cs.length) (cc)] 42], M.keep (Gle.refl _) (by simp), fun w h => h.mono (Gle.refl _) (by simp), ?_⟩
    refine pt_fin <| q_tn ?_
    iterate 2 (refine wp_seq ?_)
    refine w_reg <| rl_run F (run_assign (F.ev rfl)) rfl ?_; clear F a; intro a F
    refine rl_nil <| q_tn <| wp_block ?_
    have M := M.nilrow 9 1
    refine w_loopN (fun m a' w' => ∃ (i : Nat), ∃ (xs : List (List UInt8)), ∃ (ay : Option Addr), ∃ (ny : Nat), ∃ (cy : Nat), ∃ (csy : List Value), m = 4 - i ∧ Fits 42 a' [(1, .pointer (some ⟨b1, 0, none⟩)), (2, .pointer (some ⟨b2, 0, none⟩)), (3, .pointer (some ⟨b20, 0, none⟩)), (4, .int .i64 (((i : Nat) : Int)))] ∧ Mem w0 G (.row (.slice (ay) (ny) (cy)) (ny) (csy) 9 1 :: .row (.slice (av22) (4) (cv22)) (4) ([.string (str ([] : List UInt8)), .string (str ([104, 105] : List UInt8)), .string (str ([97, 32, 34, 98, 34] : List UInt8)), .string (str ([48] : List UInt8))]) 9 1 :: .blk b20 [.int .u64 (1 + (((ik : Nat) : Int))), .int .u8 (0), .string (str (Xe23)), .slice (ay) (ny) (cy)] 51 :: .blk b2 [.int .u64 (0), .int .u8 (0), .string (str ([] : List UInt8)), .slice none (0) (0)] 51 :: .blk b1 [.int .u16 (((ik : Nat) : Int)), .int .u8 (((it : Nat) : Int)), .slice (ca) (cs.length) (cc)] 42 :: L) w' ∧ (i ≤ 4) ∧ (ny = xs.length) ∧ (xs.length ≤ i) ∧ (∀ s ∈ xs, Name s) ∧ (Els rdStr 1 G csy xs)) _ ⟨0, [], none, 0, 0, [], rfl, F.to ⟨rfl, rfl, rfl, rfl, trivial⟩, M, by omega, rfl, by simp, by simp, Els.nil⟩ ?_
    clear F M
    rintro m a w ⟨i, xs, ay, ny, cy, csy, rfl, F, M, hi, hny, hxl, hA, Ey⟩
    iterate 2 (refine wp_seq ?_)
    refine w_reg <| rl_run F (run_move (F.ev rfl)) rfl ?_; clear F a; intro a F
    refine rl_run F (run_fieldAddr tok42.k rfl rfl (F.ev rfl)) rfl ?_; clear F a; intro a F
    refine rl_run F (run_load1 (agf tok22 rfl) (F.ev rfl) (M.cellL (k := 4) rfl rfl)) rfl ?_; clear F a; intro a F
    refine rl_run F (run_lenSl tok22.k (F.ev rfl)) rfl ?_; clear F a; intro a F
    refine rl_run F (run_lss (F.ev rfl) (F.ev rfl)) rfl ?_; clear F a; intro a F
    refine rl_run F (run_move (F.ev rfl)) rfl ?_; clear F a; intro a F
    rcases Bool.eq_false_or_eq_true (decide (((i : Nat) : Int) < ((cs.length : Nat) : Int))) with hc | hc
    · skip
      have h24b := hc; clear hc
      have h24 : ((i : Nat) : Int) < ((cs.length : Nat) : Int) := of_decide_eq_true h24b
      refine rl_guard_t F rfl rfl rfl h24b ?_
      refine rl_run F (run_move (F.ev rfl)) rfl ?_; clear F a; intro a F
      refine rl_guard_t F rfl rfl rfl h24b ?_
      refine rl_run F (run_lss (F.ev rfl) (F.ev rfl)) rfl ?_; clear F a; intro a F
      refine rl_run F (run_pick_t (F.ev rfl) h24b (F.ev rfl)) rfl ?_; clear F a; intro a F
      refine rl_nil <| q_tn <| w_cond F rfl ?_ ?_
      · intro hc
        have h25b := hc; clear hc
        have h25 : ((i : Nat) : Int) < 4 := of_decide_eq_true h25b
        refine wp_skip <| q_tn <| wp_seq <| wp_block <| w_plan3 [(.free, 0), (.pure, 1), (.free, 3), (.pure, 4), (.free, 5), (.free, 6), (.pure, 7), (.free, 8), (.keep, 2), (.free, 9), (.pure, 10), (.keep, 11), (.keep, 12), (.free, 13), (.chg, 14)] [14] (Keep G [.blk b20 [.int .u64 (1 + (((ik : Nat) : Int))), .int .u8 (0), .string (str (Xe23)), .slice (ay) (ny) (cy)] 51, .blk b1 [.int .u16 (((ik : Nat) : Int)), .int .u8 (((it : Nat) : Int)), .slice (ca) (cs.length) (cc)] 42]) rfl (by kernel_rfl) (fun c a d v w h => by cases d <;> exact h) ((M.drew _).keep (Gle.refl _) (by simp)) ?_
        replace M := M.drew (w.drawn + 1)
        refine pk_free F (fun w _ => run_fieldAddr tok51.k rfl rfl (F.ev rfl)) rfl ?_; clear F a; intro a F
        refine pk_pure F (fun w M => run_load1 (agf tok49 rfl) (F.ev rfl) (M.cellL (k := 0) rfl rfl)) rfl ?_; clear F a; intro a F
        refine pk_free F (fun w _ => run_fieldAddr tok42.k rfl rfl (F.ev rfl)) rfl ?_; clear F a; intro a F
        refine pk_pure F (fun w M => run_load1 (agf tok22 rfl) (F.ev rfl) (M.cellL (k := 1) rfl rfl)) rfl ?_; clear F a; intro a F
        refine pk_free F (fun w _ => run_move (F.ev rfl)) rfl ?_; clear F a; intro a F
        obtain ⟨Xe26, hXe26⟩ := get_of_lt (xs := cs) (i := i) (by omega)
        obtain ⟨be26, oe26, _, Ie26, _, Ae26, rfl⟩ := S.at hXe26
        refine pk_free F (fun w _ => run_indexI tok22.k tok5 (F.ev rfl) (F.ev rfl) (by omega) Ie26) rfl ?_; clear F a; intro a F
        refine pk_pure F (fun w M => run_load1 (agf tok5 rfl) (F.ev rfl) (M.cellA Ae26 0 (by omega) rfl)) rfl ?_; clear F a; intro a F
        have hnb9 : nb Xe26 = ((Xe26.toNat : Nat) : Int) := rfl
        have hnb8 := UInt8.toNat_lt Xe26
        refine pk_free F (fun w _ => run_remi (F.ev rfl) (F.ev rfl) (by omega) (by omega)) rfl ?_; clear F a; intro a F
        refine pk_keep ?_ rfl
        refine rl_buildSliceN F M tok49.k tok9 (ps := [(0, .string (str ([117] : List UInt8))), (1, .string (str ([118] : List UInt8))), (2, .string (str ([119] : List UInt8))), (3, .string (str ([107] : List UInt8))), (4, .string (str ([109, 53] : List UInt8))), (5, .string (str ([109, 54] : List UInt8)))]) (cs := [[.string (str ([117] : List UInt8))], [.string (str ([118] : List UInt8))], [.string (str ([119] : List UInt8))], [.string (str ([107] : List UInt8))], [.string (str ([109, 53] : List UInt8))], [.string (str ([109, 54] : List UInt8))]]) (fl := [.string (str ([117] : List UInt8)), .string (str ([118] : List UInt8)), .string (str ([119] : List UInt8)), .string (str ([107] : List UInt8)), .string (str ([109, 53] : List UInt8)), .string (str ([109, 54] : List UInt8))]) rfl rfl (by simp [Parts, Value.cells]) (by simp [ti9]) rfl (by simp [Value.oneCell']) (by decide) (by decide) rfl ?_; clear F M a; intro v27 w a M F
        obtain ⟨av27, cv27, rfl, hlev27, hcmv27, hlv27⟩ := M.row_shape (k := 0) rfl
        refine rl_nil ?_
        change Mem w0 G (.row (.slice (av27) (6) (cv27)) (6) ([.string (str ([117] : List UInt8)), .string (str ([118] : List UInt8)), .string (str ([119] : List UInt8)), .string (str ([107] : List UInt8)), .string (str ([109, 53] : List UInt8)), .string (str ([109, 54] : List UInt8))]) 9 1 :: .row (.slice (ay) (ny) (cy)) (ny) (csy) 9 1 :: .row (.slice (av22) (4) (cv22)) (4) ([.string (str ([] : List UInt8)), .string (str ([104, 105] : List UInt8)), .string (str ([97, 32, 34, 98, 34] : List UInt8)), .string (str ([48] : List UInt8))]) 9 1 :: .blk b20 [.int .u64 (1 + (((ik : Nat) : Int))), .int .u8 (0), .string (str (Xe23)), .slice (ay) (ny) (cy)] 51 :: .blk b2 [.int .u64 (0), .int .u8 (0), .string (str ([] : List UInt8)), .slice none (0) (0)] 51 :: .blk b1 [.int .u16 (((ik : Nat) : Int)), .int .u8 (((it : Nat) : Int)), .slice (ca) (cs.length) (cc)] 42 :: L) _ at M
        refine ⟨Keep G [.row (.slice (av27) (6) (cv27)) (6) ([.string (str ([117] : List UInt8)), .string (str ([118] : List UInt8)), .string (str ([119] : List UInt8)), .string (str ([107] : List UInt8)), .string (str ([109, 53] : List UInt8)), .string (str ([109, 54] : List UInt8))]) 9 1, .blk b20 [.int .u64 (1 + (((ik : Nat) : Int))), .int .u8 (0), .string (str (Xe23)), .slice (ay) (ny) (cy)] 51, .blk b1 [.int .u16 (((ik : Nat) : Int)), .int .u8 (((it : Nat) : Int)), .slice (ca) (cs.length) (cc)] 42], M.keep (Gle.refl _) (by simp), fun w h => h.mono (Gle.refl _) (by simp), ?_⟩
        obtain ⟨Xe28, hXe28⟩ := get_of_lt (xs := mkS) (i := Xe26.toNat % 6) (by show _ < 6; omega)
        obtain ⟨be28, _, Ie28, hme28, _, Ae28, ⟨rfl, hsle28⟩⟩ := M.atRowK (k := 0) rfl (by decide) mkE (Lr := [.row (.slice (av27) (6) (cv27)) (6) ([.string (str ([117] : List UInt8)), .string (str ([118] : List UInt8)), .string (str ([119] : List UInt8)), .string (str ([107] : List UInt8)), .string (str ([109, 53] : List UInt8)), .string (str ([109, 54] : List UInt8))]) 9 1, .blk b20 [.int .u64 (1 + (((ik : Nat) : Int))), .int .u8 (0), .string (str (Xe23)), .slice (ay) (ny) (cy)] 51, .blk b1 [.int .u16 (((ik : Nat) : Int)), .int .u8 (((it : Nat) : Int)), .slice (ca) (cs.length) (cc)] 42]) (k' := 0) rfl hXe28
        refine pk_free F (fun w _ => run_indexI tok49.k tok9 (F.ev rfl) (F.ev rfl) (by omega) Ie28) rfl ?_; clear F a; intro a F
        refine pk_pure F (fun w M => run_load1 (agf tok9 rfl) (F.ev rfl) (cellE (Ae28 w M) 0 (by omega) rfl)) rfl ?_; clear F a; intro a F
        refine pk_keep ?_ rfl
        refine rl_buildSlice1 F M tok49.k tok9 rfl rfl (cs := [.string (str (Xe28))]) rfl rfl (by simp [Value.oneCell']) (by decide) rfl ?_; clear F M a; intro v29 w a M F
        obtain ⟨av29, cv29, rfl, hlev29, hcmv29, hlv29⟩ := M.row_shape (k := 0) rfl
        refine rl_nil <| ⟨Keep G [.row (.slice (av27) (6) (cv27)) (6) ([.string (str ([117] : List UInt8)), .string (str ([118] : List UInt8)), .string (str ([119] : List UInt8)), .string (str ([107] : List UInt8)), .string (str ([109, 53] : List UInt8)), .string (str ([109, 54] : List UInt8))]) 9 1, .blk b20 [.int .u64 (1 + (((ik : Nat) : Int))), .int .u8 (0), .string (str (Xe23)), .slice (ay) (ny) (cy)] 51, .blk b1 [.int .u16 (((ik : Nat) : Int)), .int .u8 (((it : Nat) : Int)), .slice (ca) (cs.length) (cc)] 42], M.keep (Gle.refl _) (by simp), fun w h => h.mono (Gle.refl _) (by simp), ?_⟩
        have hX9 := in_lit mkS_ok hXe28
        have E30 : Els rdStr 1 G [.string (str (Xe28))] [Xe28] := Els.one ⟨rfl, by have := hX9.1.2; omega⟩ rfl
        refine pk_keep ?_ rfl
        refine rl_append_row F M (k := 2) (k2 := 0) rfl rfl tok49.k tok9 rfl rfl (by decide) rfl rfl (by show _ * 16 ≤ _; (try simp only [List.length_drop, List.length_take, List.length_append, List.length_cons, List.length_nil]); omega) (by (try simp only [List.length_drop, List.length_take, List.length_append, List.length_cons, List.length_nil]); omega) rfl ?_; clear F M a; intro v31 w a M F
        have Ev31 := Els.append Ey E30
        obtain ⟨av31, cv31, rfl, hlev31, hcmv31, hlv31⟩ := M.row_shape (k := 2) rfl
        refine rl_nil <| ⟨Keep G [.row (.slice (av27) (6) (cv27)) (6) ([.string (str ([117] : List UInt8)), .string (str ([118] : List UInt8)), .string (str ([119] : List UInt8)), .string (str ([107] : List UInt8)), .string (str ([109, 53] : List UInt8)), .string (str ([109, 54] : List UInt8))]) 9 1, .blk b20 [.int .u64 (1 + (((ik : Nat) : Int))), .int .u8 (0), .string (str (Xe23)), .slice (ay) (ny) (cy)] 51, .blk b1 [.int .u16 (((ik : Nat) : Int)), .int .u8 (((it : Nat) : Int)), .slice (ca) (cs.length) (cc)] 42], M.keep (Gle.refl _) (by simp), fun w h => h.mono (Gle.refl _) (by simp), ?_⟩
        refine pk_free F (fun w _ => run_fieldAddr tok51.k rfl rfl (F.ev rfl)) rfl ?_; clear F a; intro a F
        refine pk_chg ?_ rfl
        refine rl_store1 F M tok49 rfl (k := 4) rfl rfl rfl rfl rfl ?_; clear F M a; intro w a M F
        refine rl_nil ?_
        change Mem w0 G (.row (.slice (av29) (1) (cv29)) (1) ([.string (str (Xe28))]) 9 1 :: .row (.slice (av27) (6) (cv27)) (6) ([.string (str ([117] : List UInt8)), .string (str ([118] : List UInt8)), .string (str ([119] : List UInt8)), .string (str ([107] : List UInt8)), .string (str ([109, 53] : List UInt8)), .string (str ([109, 54] : List UInt8))]) 9 1 :: .row (.slice (av31) (ny + 1) (cv31)) (ny + 1) (csy ++ ([.string (str (Xe28))])) 9 1 :: .row (.slice (av22) (4) (cv22)) (4) ([.string (str ([] : List UInt8)), .string (str ([104, 105] : List UInt8)), .string (str ([97, 32, 34, 98, 34] : List UInt8)), .string (str ([48] : List UInt8))]) 9 1 :: .blk b20 [.int .u64 (1 + (((ik : Nat) : Int))), .int .u8 (0), .string (str (Xe23)), .slice (av31) (ny + 1) (cv31)] 51 :: .blk b2 [.int .u64 (0), .int .u8 (0), .string (str ([] : List UInt8)), .slice none (0) (0)] 51 :: .blk b1 [.int .u16 (((ik : Nat) : Int)), .int .u8 (((it : Nat) : Int)), .slice (ca) (cs.length) (cc)] 42 :: L) _ at M
        refine ⟨Keep G [.row (.slice (av29) (1) (cv29)) (1) ([.string (str (Xe28))]) 9 1, .row (.slice (av27) (6) (cv27)) (6) ([.string (str ([117] : List UInt8)), .string (str ([118] : List UInt8)), .string (str ([119] : List UInt8)), .string (str ([107] : List UInt8)), .string (str ([109, 53] : List UInt8)), .string (str ([109, 54] : List UInt8))]) 9 1, .row (.slice (av31) (ny + 1) (cv31)) (ny + 1) (csy ++ ([.string (str (Xe28))])) 9 1, .row (.slice (av22) (4) (cv22)) (4) ([.string (str ([] : List UInt8)), .string (str ([104, 105] : List UInt8)), .string (str ([97, 32, 34, 98, 34] : List UInt8)), .string (str ([48] : List UInt8))]) 9 1, .blk b20 [.int .u64 (1 + (((ik : Nat) : Int))), .int .u8 (0), .string (str (Xe23)), .slice (av31) (ny + 1) (cv31)] 51, .blk b2 [.int .u64 (0), .int .u8 (0), .string (str ([] : List UInt8)), .slice none (0) (0)] 51, .blk b1 [.int .u16 (((ik : Nat) : Int)), .int .u8 (((it : Nat) : Int)), .slice (ca) (cs.length) (cc)] 42], M.keep (Gle.refl _) (by simp), ?_⟩
        refine pk_nil <| q_bn <| q_tn <| w_reg <| rl_run F (run_move (F.ev rfl)) rfl ?_; clear F a; intro a F
        refine rl_run F (run_addi (F.ev rfl) (F.ev rfl) (in_i64 (by omega) (by omega))) rfl ?_; clear F a; intro a F
        refine rl_run F (run_assign (F.ev rfl)) rfl ?_; clear F a; intro a F
        refine rl_nil <| q_tn ?_
        exact ⟨_, by omega, i + 1, (xs ++ ([Xe28])), (av31), (ny + 1), (cv31), (csy ++ ([.string (str (Xe28))])), rfl, F.to ⟨rfl, rfl, rfl, rfl, trivial⟩, (M.weaken (.cons _ (.cons _ (.cons_cons _ (.cons_cons _ (.cons_cons _ (.cons_cons _ (.cons_cons _ (List.Sublist.refl _))))))))), by omega, by rw [List.length_append, ← hny]; rfl, by rw [List.length_append]; show _ + 1 ≤ _; omega, (by intro s hs; exact (List.mem_append.1 hs).elim (hA s) (fun hs => by rw [List.mem_singleton.1 hs]; exact in_lit mkS_ok hXe28)), Ev31⟩
      · intro hc
        have h32b := hc; clear hc
        have h32 : ¬ (((i : Nat) : Int) < 4) := of_decide_eq_false h32b
        refine wp_exit ?_
        iterate 2 (refine q_te ?_)
        refine q_bh <| q_tn <| wp_seq <| w_reg <| rl_run F (run_loadA tok51 rfl (F.ev rfl) (cs := [.int .u64 (1 + (((ik : Nat) : Int))), .int .u8 (0), .string (str (Xe23)), .slice (ay) (ny) (cy)]) rfl (M.cellsL (k := 2) rfl rfl)) rfl ?_; clear F a; intro a F
        refine rl_storeA F M tok51 (k := 3) rfl rfl rfl (us := [.int .u64 (1 + (((ik : Nat) : Int))), .int .u8 (0), .string (str (Xe23)), .slice (ay) (ny) (cy)]) rfl rfl (by simp [Value.oneCell']) (by simp) ?_; clear F M a; intro w a M F
        change Mem w0 G (.row (.slice (ay) (ny) (cy)) (ny) (csy) 9 1 :: .row (.slice (av22) (4) (cv22)) (4) ([.string (str ([] : List UInt8)), .string (str ([104, 105] : List UInt8)), .string (str ([97, 32, 34, 98, 34] : List UInt8)), .string (str ([48] : List UInt8))]) 9 1 :: .blk b20 [.int .u64 (1 + (((ik : Nat) : Int))), .int .u8 (0), .string (str (Xe23)), .slice (ay) (ny) (cy)] 51 :: .blk b2 [.int .u64 (1 + (((ik : Nat) : Int))), .int .u8 (0), .string (str (Xe23)), .slice (ay) (ny) (cy)] 51 :: .blk b1 [.int .u16 (((ik : Nat) : Int)), .int .u8 (((it : Nat) : Int)), .slice (ca) (cs.length) (cc)] 42 :: L) _ at M
        refine rl_nil <| q_tn <| wp_ret <| fin_c F M (k := 3) rfl rfl tok51 rfl rfl rfl ?_
        obtain ⟨hnz33, Gz33, az33, cz33, hGz33, hez33, Sz33, M⟩ := M.freeze_row mono_rdStr (k := 0) rfl Ey (by decide)
        clear hez33 az33 cz33
        exact ⟨Gz33, ((Gle.refl _).trans hGz33), M.weaken (.cons _ (.cons _ (.cons _ (.cons _ (List.Sublist.refl _))))), ⟨1 + (((ik : Nat) : Int)), 0, Xe23, xs⟩, _, _, by rw [hny], ⟨by show ¬ (1 + (((ik : Nat) : Int)) : Int) = 0; omega, in_lit itS_ok hXe23, by show xs.length ≤ 8; omega, hA⟩, ⟨by show (0 : Int) ≤ 1 + (((ik : Nat) : Int)); omega, by show 1 + (((ik : Nat) : Int)) ≤ (18446744073709551615 : Int); omega⟩, by have h_ := Sz33; rw [hny] at h_; exact h_⟩
    · skip
      have h34b := hc; clear hc
      have h34 : ¬ (((i : Nat) : Int) < ((cs.length : Nat) : Int)) := of_decide_eq_false h34b
      iterate 2 (refine rl_guard_f F rfl rfl rfl h34b ?_; clear F a; intro a F)
      refine rl_run F (run_pick_f (F.ev rfl) h34b (F.ev rfl)) rfl ?_; clear F a; intro a F
      refine rl_nil <| q_tn <| w_cond_f F rfl rfl ?_
      refine wp_exit ?_
      iterate 2 (refine q_te ?_)
      refine q_bh <| q_tn <| wp_seq <| w_reg <| rl_run F (run_loadA tok51 rfl (F.ev rfl) (cs := [.int .u64 (1 + (((ik : Nat) : Int))), .int .u8 (0), .string (str (Xe23)), .slice (ay) (ny) (cy)]) rfl (M.cellsL (k := 2) rfl rfl)) rfl ?_; clear F a; intro a F
      refine rl_storeA F M tok51 (k := 3) rfl rfl rfl (us := [.int .u64 (1 + (((ik : Nat) : Int))), .int .u8 (0), .string (str (Xe23)), .slice (ay) (ny) (cy)]) rfl rfl (by simp [Value.oneCell']) (by simp) ?_; clear F M a; intro w a M F
      change Mem w0 G (.row (.slice (ay) (ny) (cy)) (ny) (csy) 9 1 :: .row (.slice (av22) (4) (cv22)) (4) ([.string (str ([] : List UInt8)), .string (str ([104, 105] : List UInt8)), .string (str ([97, 32, 34, 98, 34] : List UInt8)), .string (str ([48] : List UInt8))]) 9 1 :: .blk b20 [.int .u64 (1 + (((ik : Nat) : Int))), .int .u8 (0), .string (str (Xe23)), .slice (ay) (ny) (cy)] 51 :: .blk b2 [.int .u64 (1 + (((ik : Nat) : Int))), .int .u8 (0), .string (str (Xe23)), .slice (ay) (ny) (cy)] 51 :: .blk b1 [.int .u16 (((ik : Nat) : Int)), .int .u8 (((it : Nat) : Int)), .slice (ca) (cs.length) (cc)] 42 :: L) _ at M
      refine rl_nil <| q_tn <| wp_ret <| fin_c F M (k := 3) rfl rfl tok51 rfl rfl rfl ?_
      obtain ⟨hnz35, Gz35, az35, cz35, hGz35, hez35, Sz35, M⟩ := M.freeze_row mono_rdStr (k := 0) rfl Ey (by decide)
      clear hez35 az35 cz35
      exact ⟨Gz35, ((Gle.refl _).trans hGz35), M.weaken (.cons _ (.cons _ (.cons _ (.cons _ (List.Sublist.refl _))))), ⟨1 + (((ik : Nat) : Int)), 0, Xe23, xs⟩, _, _, by rw [hny], ⟨by show ¬ (1 + (((ik : Nat) : Int)) : Int) = 0; omega, in_lit itS_ok hXe23, by show xs.length ≤ 8; omega, hA⟩, ⟨by show (0 : Int) ≤ 1 + (((ik : Nat) : Int)); omega, by show 1 + (((ik : Nat) : Int)) ≤ (18446744073709551615 : Int); omega⟩, by have h_ := Sz35; rw [hny] at h_; exact h_⟩
  exact pt_no
end Go.Proofs.YtlnehkjmmegkhaaGreat
