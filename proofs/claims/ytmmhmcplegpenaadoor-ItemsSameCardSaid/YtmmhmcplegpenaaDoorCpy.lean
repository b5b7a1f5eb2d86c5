/- Rules: a copy of a whole slice into an owned row; a set of numbers kept as a map. -/
import Derived.Test.YtmmhmcplegpenaaDoorLin
import Derived.Laws.CopyRow
import Derived.MapKept
namespace Go.Y
open Go
set_option linter.unusedSimpArgs false
set_option linter.unusedVariables false
section
variable {P : Program} {ops : Array Oper} {Q : Exit → Act → World → Prop} {w0 w : World} {G : Ghost} {L : List Res} {n d : Nat} {a : Act} {e : Env} {t : TypeId} {p : String} {af : Array Edge} {r : List Oper}
theorem run_copy_rowN (w : World) (dT sT ty elem : TypeId) (g dLen dCap : Nat) (a : Addr) (sLen sCap sz : Nat) (cur : Array Value) (t : TypeId) (cs : List Value)
  (hu : P.underlying dT = some (.slice elem)) (hs : (P.info? elem).map (·.size) = some sz)
  (hg : w.heap[g]? = some (.cells cur t (0, 0))) (hn : cs.length = Nat.min sLen dLen * sz)
  (hsrc : ∀ j v, cs[j]? = some v → w.cell? (a.add j) = some v) (hfit : cs.length ≤ cur.size) (h1 : ∀ v ∈ cs, v.oneCell' = true) :
  (Builtin.copy_ #[dT, sT] ty #[.slice (some ⟨g, 0, none⟩) dLen dCap, .slice (some a) sLen sCap]).run P w =
   .ok (goInt (Nat.min sLen dLen : Nat)) (w.setRow g (cs ++ cur.toList.drop cs.length).toArray) := by
 have hl := run_loadCells_list (P := P) w a cs hsrc
 have hst := run_storeCells_at P g 0 t cs 0 cur w hg (by simpa using hfit) h1
 cases hq : P.info? elem with
 | none => simp [hq] at hs
 | some i =>
  have hi : i.size = sz := by simpa [hq] using hs
  simp only [Nat.zero_add, List.take_zero, List.nil_append] at hst
  simp [Builtin.copy_, run_underlying hu, Builtin.lenOf, Builtin.firstCells, sizeOf, typeInfo, hq, hi, ← hn, hl, hst]
/-- 'copy(new, old)': the row reads as what was copied. -/
theorem rl_copyAll {α : Type} {rd : Rd α} {sz : Nat} {dT sT et : TypeId} {i : TI} {x y : Operand} {k m c c2 b : Nat} {ad : Option Addr} {old : List Value} {xs : List α} (F : Fits n a e) (M : Mem w0 G L w)
  (hk : L[k]? = some (.row (.slice (some ⟨b, 0, none⟩) m c) m old et sz)) (ht : tk P dT = .slice et) (hi : TOK P et i) (hsz : i.size = sz) (hx : ev e x = some (.slice (some ⟨b, 0, none⟩) m c)) (hy : ev e y = some (.slice ad m c2))
  (S : RdSl rd sz G (.slice ad m c2) xs) (hm0 : 0 < m) (hd : Nat.ble (d + 1) n = true)
  (kk : ∀ cs w' a', Els rd sz G cs xs → Mem w0 G (L.set k (.row (.slice (some ⟨b, 0, none⟩) m c) m cs et sz)) w' → Fits n a' ((d, .int .i64 (m : Nat)) :: e) → rl P ops Q r a' w') :
  rl P ops Q (⟨some d, .call ⟨.builtin .copy, #[x, y], #[dT, sT]⟩, t, p, af, none⟩ :: r) a w := by
 subst hsz
 obtain ⟨rfl, _, _, news, hE, h1n, h6⟩ := S.cells
 have hnl : news.length = xs.length * i.size := hE.length
 rcases h6 with ⟨rfl, rfl⟩ | ⟨sb, so, rfl, h6⟩
 ·simp at hm0
 obtain ⟨⟨hl, hr⟩, h1c⟩ := M.row_at hk
 rcases hr with ⟨h, _⟩ | ⟨g, cap, cur, hv, _, hg, hnc, hcm, hcs, htake⟩
 ·cases h
 simp only [Value.slice.injEq, Option.some.injEq, Addr.mk.injEq, and_true, true_and] at hv
 obtain ⟨rfl, rfl⟩ := hv
 obtain ⟨z, hz1, hz2, _⟩ := hi.info
 have hle : xs.length * i.size ≤ c * i.size := Nat.mul_le_mul_right _ hnc
 have hrun := run_copy_rowN (P := P) w dT sT t et b xs.length c ⟨sb, so, none⟩ xs.length c2 i.size cur et news (under_slice ht) (by rw [hz1]; simp [hz2]) hg (by rw [hnl]; simp [Nat.min_def])
  (fun j v hj => by rw [add_plain]; exact M.cell (h6 j v hj)) (by rw [hnl, hcs]; exact hle) h1n
 rw [show Nat.min xs.length xs.length = xs.length from Nat.min_self _] at hrun
 refine rl_run F (w' := _) (v := _) (by simp only [execOp, resolve, Sem.run_bind, Sem.run_pure, Result.andThen_ok, invoke, builtin, List.map_toArray, List.map_cons, List.map_nil, F.ev hx, F.ev hy, hrun]; rfl) hd fun a' F' => kk news _ a' hE ?_ F'
 rw [← Array.length_toList] at hcs
 refine M.grow_at hk (fun z hz => Or.inl hz) ⟨⟨hnl, Or.inr ⟨b, c, _, rfl, Nat.zero_le _, setRow_heap w b cur _ et (0, 0) hg, hnc, hcm, ?_, ?_⟩⟩, h1n⟩ rfl rfl rfl (by simp [World.setRow]) (fun z hz hne => setRow_other w b z _ (fun h => hne (by rw [h]; rfl)))
 ·simp only [List.size_toArray, List.length_append, List.length_drop]; omega
 ·show List.take (xs.length * i.size) (news ++ cur.toList.drop news.length) = news
  rw [← hnl, List.take_left]
/-! ### A map as a set of numbers -/
theorem under_map {t k e : Nat} (h : tk P t = .map k e) : P.underlying t = some (.map k e) := by
 unfold tk at h
 split at h <;> simp_all
/-- The entries are these numbers, each with 'true'. -/
def SetIs (es : Array MapEntry) (ks : List Nat) : Prop := (∀ x ∈ es.toList, ∃ k : Nat, x.key = .int .u64 (k : Int) ∧ x.val = .bool true ∧ k ∈ ks) ∧ ∀ k ∈ ks, ∃ x ∈ es.toList, x.key = .int .u64 ((k : Nat) : Int)
theorem SetIs.nil : SetIs #[] [] := ⟨fun x hx => by simp at hx, fun k hk => by simp at hk⟩
theorem rl_makeSet {mt kt et : TypeId} (F : Fits n a e) (M : Mem w0 G L w) (hd : Nat.ble (d + 1) n = true)
  (k : ∀ b w' a', Mem w0 G (.obj b (.map #[] 0) :: L) w' → Fits n a' ((d, .map (some b)) :: e) → rl P ops Q r a' w') : rl P ops Q (⟨some d, .makeMap mt none, t, p, af, none⟩ :: r) a w := by
 refine rl_run F (w' := _) (v := _) (by simp only [execOp, Instr.makeMap, Option.map_none, Sem.run_bind, newObj, Sem.run, Result.andThen_ok]; rfl) hd fun a' F' => k w.heap.size _ a' (M.new (.map #[] 0)) F'
theorem rl_lookSet {mt kt et : TypeId} {ei : TI} {x y : Operand} {k b z : Nat} {es : Array MapEntry} {cl : Nat} {ks : List Nat} (F : Fits n a e) (M : Mem w0 G L w) (hk : L[k]? = some (.obj b (.map es cl))) (hS : SetIs es ks)
  (hm : tk P mt = .map kt et) (hkt : tk P kt = .int .u64) (hz : TOK P et ei) (hz2 : ei.zero = .bool false) (hx : ev e x = some (.map (some b))) (hy : ev e y = some (.int .u64 (z : Int))) (hd : Nat.ble (d + 1) n = true)
  (kk : ∀ a', Fits n a' ((d, .bool (decide (z ∈ ks))) :: e) → rl P ops Q r a' w) : rl P ops Q (⟨some d, .lookup mt x y false, t, p, af, none⟩ :: r) a w := by
 have hb : w.heap[b]? = some (.map es cl) := M.own _ (List.mem_of_getElem? hk)
 have hd' := under_int hkt
 have hkey : MapKept.IsKey (.int .u64) (.int .u64 (z : Int)) := rfl
 have hks : ∀ x ∈ es.toList, MapKept.IsKey (.int .u64) x.key := fun x hx => by obtain ⟨q, h1, _⟩ := hS.1 x hx; rw [h1]; rfl
 rcases MapKept.findNow_spec hkey es.toList 0 hks with ⟨h1, h2⟩ | ⟨j, ent, h1, h2, h3⟩
 ·have hn : ¬ z ∈ ks := fun hm => by obtain ⟨x, hx, hxk⟩ := hS.2 z hm; exact h2 x hx hxk
  refine rl_run F (v := .bool false) (w' := w) ?_ hd fun a' F' => kk a' (by rw [decide_eq_false hn]; exact F')
  simp only [execOp, Instr.lookup, F.ev hx, F.ev hy, Sem.run_bind, run_under (under_map hm), MapKept.run_getObj_map hb, Result.andThen_ok, Sem.run_pure, MapKept.run_checkKey hd' hkey, MapKept.run_findKey hd' h1, hz.zeroValue, hz2]
  rfl
 ·obtain ⟨q, h4, h5, h6⟩ := hS.1 ent (List.mem_of_getElem? h2)
  rw [h4] at h3
  simp only [Value.int.injEq, true_and] at h3
  have hq : q = z := by omega
  subst hq
  refine rl_run F (v := .bool true) (w' := w) ?_ hd fun a' F' => kk a' (by rw [decide_eq_true h6]; exact F')
  simp only [execOp, Instr.lookup, F.ev hx, F.ev hy, Sem.run_bind, run_under (under_map hm), MapKept.run_getObj_map hb, Result.andThen_ok, Sem.run_pure, MapKept.run_checkKey hd' hkey, MapKept.run_findKey hd' h1, h5]
  rfl
theorem rl_putSet {mt kt et : TypeId} {x y v : Operand} {k b z : Nat} {es : Array MapEntry} {cl : Nat} {ks : List Nat} (F : Fits n a e) (M : Mem w0 G L w) (hk : L[k]? = some (.obj b (.map es cl))) (hS : SetIs es ks)
  (hm : tk P mt = .map kt et) (hkt : tk P kt = .int .u64) (hx : ev e x = some (.map (some b))) (hy : ev e y = some (.int .u64 (z : Int))) (hv : ev e v = some (.bool true)) (hn : ¬ z ∈ ks)
  (kk : ∀ es' cl' w' a', SetIs es' (z :: ks) → Mem w0 G (L.set k (.obj b (.map es' cl'))) w' → Fits n a' e → rl P ops Q r a' w') : rl P ops Q (⟨none, .mapUpdate mt x y v, t, p, af, none⟩ :: r) a w := by
 have hb : w.heap[b]? = some (.map es cl) := M.own _ (List.mem_of_getElem? hk)
 have hd' := under_int hkt
 have hkey : MapKept.IsKey (.int .u64) (.int .u64 (z : Int)) := rfl
 have hks : ∀ x ∈ es.toList, MapKept.IsKey (.int .u64) x.key := fun x hx => by obtain ⟨q, h1, _⟩ := hS.1 x hx; rw [h1]; rfl
 rcases MapKept.findNow_spec hkey es.toList 0 hks with ⟨h1, h2⟩ | ⟨j, ent, h1, h2, h3⟩
 ·have hh := MapKept.heap_set (o' := .map (es.push { key := .int .u64 (z : Int), val := .bool true, born := cl }) (cl + 1)) hb
  refine rl_skip F (w' := { w with heap := w.heap.setIfInBounds b (.map (es.push { key := .int .u64 (z : Int), val := .bool true, born := cl }) (cl + 1)) }) ?_ fun a' F' => kk (es.push { key := .int .u64 (z : Int), val := .bool true, born := cl }) (cl + 1) _ a' ?_ ?_ F'
  ·simp only [execOp, Instr.mapUpdate, F.ev hx, F.ev hy, F.ev hv, Sem.run_bind, run_under (under_map hm), MapKept.run_getObj_map hb, Result.andThen_ok, Sem.run_pure, MapKept.run_checkKey hd' hkey, MapKept.run_findKey hd' h1, MapKept.run_setObj_map _ hb]
  ·refine ⟨fun x hx => ?_, fun q hq => ?_⟩
   ·simp only [Array.toList_push, List.mem_append, List.mem_singleton] at hx
    rcases hx with hx | rfl
    ·obtain ⟨q, h4, h5, h6⟩ := hS.1 x hx; exact ⟨q, h4, h5, List.mem_cons_of_mem _ h6⟩
    ·exact ⟨z, rfl, rfl, by simp⟩
   ·rcases List.mem_cons.1 hq with rfl | hq
    ·exact ⟨_, by simp only [Array.toList_push, List.mem_append, List.mem_singleton]; exact Or.inr rfl, rfl⟩
    ·obtain ⟨x, h4, h5⟩ := hS.2 q hq; exact ⟨x, by simp only [Array.toList_push, List.mem_append]; exact Or.inl h4, h5⟩
  ·exact M.swap_at hk (y := .obj b (.map (es.push { key := .int .u64 (z : Int), val := .bool true, born := cl }) (cl + 1))) rfl hh.1 rfl rfl rfl (by simp) (fun b' hne => hh.2 b' (fun e => hne (by rw [e]; rfl)))
 ·obtain ⟨q, h4, _, h6⟩ := hS.1 ent (List.mem_of_getElem? h2)
  rw [h4] at h3
  simp only [Value.int.injEq, true_and] at h3
  exact absurd (show z ∈ ks by rw [show z = q by omega]; exact h6) hn
end
end Go.Y
