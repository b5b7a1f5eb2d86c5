/- What a world that a row speaks of holds at the program's variables. -/
import Derived.Test.YtmmhmcplegpenaaDoorTie
import Derived.Test.YtmmhmcplegpenaaDoorYB
import Derived.Test.YtmmhmcplegpenaaDoorTab
import Derived.LaidMore
import Derived.Lay
import Derived.OpenShut
import Derived.Stop.Joined
namespace Go.Proofs.YtmmhmcplegpenaaDoor
open Go Go.Y Go.ChangeShapes Go.WideShapes Go.ChangeAt Go.RowKit
set_option linter.unusedSimpArgs false
set_option linter.unusedVariables false
set_option maxRecDepth 100000
section
variable {H : Type} {enc : TypeId × Value → H}
/-- As the kit's, with the world's shape handed on. -/
theorem handed_shaped {a : Assume} {C : Checked} {os : Os} {f : FuncId} {fn : Func} {s : ChangeSpec} {conds : List PathCond} {apart fresh handsOn again : Bool} {X : World → Array Value → Prop}
  (hX : ∀ (w w' : World) (args : Array Value), w.heap = w'.heap → X w args → X w' args)
  (own : ownKnob C.prog.godebug = none) (started : os.Started) (noInit : C.prog.inits.idxOf? f = none) (hfn : C.prog.funcs[f]? = some fn)
  (witness : ∃ (w : World) (tape : Tape) (i : Input), w.os = os ∧ (w.forCall tape i).Shaped C.prog ∧ i.vars = [] ∧ Input.okWide C.prog (w.forCall tape i) .any w.heap.size f i ∧
   ((s.pre enc C.prog fn conds apart (w.forCall tape i).memory i.args ∧ X (w.forCall tape i).memory i.args) ∧ sizedMet enc C.prog fn (OpenSpec.ofChange s) apart (w.forCall tape i).memory i.args) ∧ a.holds C.prog (lone (Frame.enter C.prog f i.args .normal) [] (w.forCall tape i)))
  (contract : ∀ (W : World) (base : Nat) (args : Array Value) (ds gs : List (DataW H)) (before : List MemPlace),
   (∀ (j : Nat) t v, fn.params[j]? = some t → args[j]? = some v → Value.okWide C.prog W .any base t v) →
   DataW.Whole enc C.prog fn.params.toList s.vars apart W args.toList ds gs before → W.ShapedOpen C.prog → X W args →
   Calls C.prog f args W fun e W' => ∃ v, e = .returned v ∧ s.post enc C.prog fn apart fresh handsOn again W args v W') :
  ReturnsInHanded a C os f .any (fun w args => (s.pre enc C.prog fn conds apart w args ∧ X w args) ∧ sizedMet enc C.prog fn (OpenSpec.ofChange s) apart w args) (s.post enc C.prog fn apart fresh handsOn again) := by
 refine returnsInHanded_of_calls own started noInit witness ?_
 intro w tape i _ hsh _ hok hpre _
 obtain ⟨_, _, _, fn', hfn', _, _, _, _, hval⟩ := hok
 have e : fn' = fn := Option.some.inj (hfn'.symm.trans hfn)
 subst e
 obtain ⟨⟨⟨ds, gs, before, hw, _⟩, hx⟩, _⟩ := hpre
 have hw' := DataW.Whole.of_heap (w' := w.forCall tape i) (by rfl) hw
 refine (contract (w.forCall tape i) w.heap.size i.args ds gs before hval hw' hsh (hX _ _ _ (by rfl) hx)).mono fun e W' ⟨v, he, hp⟩ => ?_
 subst he
 exact ChangeSpec.post_blind hp
end
abbrev laids : List (String × DataW Unit) := [("math/bits.deBruijn32tab", Rows.laid_math_bits_deBruijn32tab), ("math/bits.deBruijn64tab", Rows.laid_math_bits_deBruijn64tab), ("internal/strconv.uint64pow10", Rows.laid_internal_strconv_uint64pow10), ("unicode/utf8.acceptRanges", Rows.laid_unicode_utf8_acceptRanges), ("strconv.ErrRange", Rows.laid_strconv_ErrRange), ("strconv.ErrSyntax", Rows.laid_strconv_ErrSyntax), ("unicode/utf8.first", Rows.laid_unicode_utf8_first)]
theorem own : ownKnob Tryd.prog.godebug = none := by kernel_rfl
theorem gTab : Tryd.prog.globalNamed "internal/strconv.uint64pow10" = some 0 := by kernel_rfl
theorem gSyn : Tryd.prog.globalNamed "strconv.ErrSyntax" = some 2 := by kernel_rfl
theorem gRng : Tryd.prog.globalNamed "strconv.ErrRange" = some 3 := by kernel_rfl
theorem tTab : ((Tryd.prog.globals[0]?).map (·.type)).map (tk Tryd.prog) = some (.array 20 27) := by kernel_rfl
theorem tSyn : ((Tryd.prog.globals[2]?).map (·.type)).map (tk Tryd.prog) = some .iface := by kernel_rfl
theorem tRng : ((Tryd.prog.globals[3]?).map (·.type)).map (tk Tryd.prog) = some .iface := by kernel_rfl
theorem nTab : ((Tryd.prog.globals[0]?).map (·.type)).map Tryd.prog.cellsOf = some 20 := by kernel_rfl
theorem c27 : Tryd.prog.cellsOf 27 = 1 := by kernel_rfl
theorem shMax : ((begin Tryd.prog (fun _ _ => 0) default).world.heap[1]?).bind Obj.row? = some (#[.int .i64 0], 3) := by kernel_rfl
theorem szG : decide (1 < Tryd.prog.globals.size) = true := by kernel_rfl
theorem bMax : Tryd.prog.buildable 3 = true := by kernel_rfl
theorem tyMax : Tryd.prog.cellTypes Tryd.prog.depth 3 = some [3] := by kernel_rfl
theorem iface_under {P : Program} {ty : TypeId} (hi : tk P ty = .iface) : ∃ ms, P.underlying ty = some (.interface ms) := by
 unfold tk at hi
 split at hi <;> simp_all
theorem var_heap {P : Program} {W : World} {n : String} {g : Nat} {cs : Array Value} (hg : P.globalNamed n = some g) (h : W.var? P n = some cs) : ∃ t f, W.heap[g]? = some (.cells cs t f) := by
 simp only [World.var?, hg, Option.bind_some] at h
 split at h
 ·rename_i cs' t f hh
  simp only [Option.some.injEq] at h
  subst h
  exact ⟨t, f, hh⟩
 ·cases h
theorem tabData : (Rows.laid_internal_strconv_uint64pow10 : DataW Unit) = .agg (Lib.pow10Tab.map fun z => .lit (.int .u64 z)) := by kernel_rfl
theorem tab_cells {W : World} {t fuel : Nat} {cs : List Value} {p : List MemPlace} (ht : tk Tryd.prog t = .array 20 27) (hn : Tryd.prog.cellsOf t = 20)
  (h : DataW.trod (fun _ => ()) Tryd.prog W 0 (fun _ => true) false fuel t cs = some (Rows.laid_internal_strconv_uint64pow10, p)) : cs = Lib.pow10Tab.map fun z => Value.int .u64 z := by
 obtain ⟨xs, m, _, hx, hlen, hn', hel⟩ := DataW.trod_array (under_array ht) h
 rw [tabData] at hx
 simp only [Prod.mk.injEq, DataW.agg.injEq] at hx
 have hx1 := hx.1
 rw [hn] at hlen
 have hp := Lib.pow10Tab_length
 apply List.ext_getElem?
 intro i
 rcases Nat.lt_or_ge i 20 with hi | hi
 ·have h1 := hel i hi
  rw [c27, Nat.mul_one] at h1
  have hix : i < xs.length := by omega
  have hip : i < Lib.pow10Tab.length := by omega
  rw [List.getElem?_eq_getElem hix] at h1
  obtain ⟨k, e1, e2, _⟩ := DataW.trod_int (under_int tok27.k) h1
  have h2 : (xs.map (·.1))[i]? = some (.lit (.int .u64 k)) := by rw [List.getElem?_map, List.getElem?_eq_getElem hix, e2]; rfl
  rw [← hx1, List.getElem?_map, List.getElem?_eq_getElem hip] at h2
  simp only [Option.map_some, Option.some.injEq, DataW.lit.injEq, Lit.int.injEq, true_and] at h2
  have h3 : cs[i]? = some (.int .u64 k) := by
   have h4 : ((cs.drop i).take 1)[0]? = some (.int .u64 k) := by rw [e1]; rfl
   rw [List.getElem?_take, if_pos (by omega), List.getElem?_drop] at h4
   simpa using h4
  rw [h3, List.getElem?_map, List.getElem?_eq_getElem hip, ← h2]
  rfl
 ·rw [List.getElem?_eq_none (by omega), List.getElem?_eq_none (by rw [List.length_map]; omega)]
/-- What the row's condition and the world's shape give the walks. -/
theorem globs_of {W : World} (h : laidMetH Tryd.prog laids W) (hs : W.ShapedOpen Tryd.prog) : Globs 0 1 2 3 (G0 W) := by
 rw [MakeChecks.laidMetH_plain _ _ _ (by kernel_rfl)] at h
 obtain ⟨ps, ⟨_, _, _, _, _, _, _, _, _, _, ⟨_, _, _, _, _, _, _, _, _, _, ⟨g2, t2, cs2, f2, p2, q2, hg2, ht2, hv2, hd2, ⟨_, _, _, _, _, _, _, _, _, _, ⟨g3, t3, cs3, f3, p3, q3, hg3, ht3, hv3, hd3, ⟨g4, t4, cs4, f4, p4, q4, hg4, ht4, hv4, hd4, _⟩, _⟩, _⟩, _⟩, _⟩, _⟩, _⟩ := h
 obtain rfl := Option.some.inj (gTab.symm.trans hg2)
 obtain rfl := Option.some.inj (gRng.symm.trans hg3)
 obtain rfl := Option.some.inj (gSyn.symm.trans hg4)
 have k2 := tTab
 have n2 := nTab
 have k3 := tRng
 have k4 := tSyn
 rw [ht2] at k2 n2
 rw [ht3] at k3
 rw [ht4] at k4
 simp only [Option.map_some, Option.some.injEq] at k2 n2 k3 k4
 refine ⟨?_, ?_, ?_, ?_⟩
 ·obtain ⟨t, f, hh⟩ := var_heap hg2 hv2
  have := tab_cells k2 n2 hd2
  refine ⟨t, f, ?_⟩
  show W.heap[0]? = _
  rw [hh, ← this]
 ·obtain ⟨cs, h1, h2, h3⟩ := hs.1 1 _ _ (of_decide_eq_true szG) shMax
  obtain ⟨ts, e1, _, e3⟩ := h3 bMax
  rw [tyMax] at e1
  simp only [Option.some.injEq] at e1
  subst e1
  have hz : 0 < cs.size := by rw [h2]; exact Nat.one_pos
  obtain ⟨v, h0⟩ : ∃ v, cs[0]? = some v := ⟨_, Array.getElem?_eq_getElem hz⟩
  obtain ⟨u, e4, e5⟩ := e3 0 v h0
  simp at e4
  subst e4
  have hc : gcell (G0 W) 1 0 = some v := by
   rw [gcell_G0]
   simp [World.cell?, h1, h0]
  unfold Cell.ok at e5
  rw [under_int tok3.k] at e5
  rw [hc]
  cases v <;> simp at e5
  obtain ⟨rfl, _⟩ := e5
  exact ⟨_, rfl⟩
 ·obtain ⟨ms, hm⟩ := iface_under k4
  obtain ⟨_, u, v, hc, _⟩ := iface_of_trod hm hd4
  refine ⟨.iface u v, ?_, Or.inr ⟨_, _, rfl⟩⟩
  rw [gcell_G0]
  have := World.var?_cell hg4 hv4 0
  rw [Array.eq_one_of_toList hc] at this
  simpa using this
 ·obtain ⟨ms, hm⟩ := iface_under k3
  obtain ⟨_, u, v, hc, _⟩ := iface_of_trod hm hd3
  refine ⟨.iface u v, ?_, Or.inr ⟨_, _, rfl⟩⟩
  rw [gcell_G0]
  have := World.var?_cell hg3 hv3 0
  rw [Array.eq_one_of_toList hc] at this
  simpa using this
end Go.Proofs.YtmmhmcplegpenaaDoor
