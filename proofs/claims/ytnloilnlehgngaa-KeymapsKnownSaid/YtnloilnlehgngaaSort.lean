/- The sorting of the keys: the library's contract of sort.Slice, at an owned row of 64-bit keys. -/
import Derived.Test.YtnloilnlehgngaaShelf
import Derived.Test.YtnloilnlehgngaaTab
import Derived.Sort.LotA
import Derived.Sort.Row
import Derived.Deep.QuietTactic
import Derived.BigQuiet
namespace Go.Proofs.Ytnloilnlehgngaa
open Go Go.Y Go.Sort

def eu (x : Int) : Value := .int .u64 x

theorem row_rewritten {w0 w : World} {G : Ghost} {L : List Res} (M : Mem w0 G L w) {k b n c : Nat} {cs : List Value} {et : TypeId} (hk : L[k]? = some (.row (.slice (some ⟨b, 0, none⟩) n c) n cs et 1)) {d d' : Array Int} (hn : n = d.size) (hs : d'.size = d.size) (m : Nat) (os : Array Obj) :
    Mem w0 G (L.set k (.row (.slice (some ⟨b, 0, none⟩) n c) n (d'.toList.map eu) et 1)) (grow (putRow eu (Sort.ahead w m) b 0 d') os) := by
  obtain ⟨⟨hl, h2⟩, h1⟩ := M.row_at hk
  rcases h2 with ⟨h3, _⟩ | ⟨g, cap, cur, he, _, hg, hnc, hcm, hcs, htake⟩
  · simp at h3
  · simp only [Value.slice.injEq, Option.some.injEq, Addr.mk.injEq, and_true, true_and] at he
    obtain ⟨rfl, rfl⟩ := he
    have hlt := lt_of_heap hg
    have hh : (grow (putRow eu (Sort.ahead w m) b 0 d') os).heap[b]? = some (.cells (putCells eu 0 d' cur) et (0, 0)) := by
      rw [heap_grow_old _ _ (by simpa using hlt)]
      simp [putRow, mapBlock, Array.getElem?_modify, hg, onCells]
    refine M.grow_at hk ?_ ⟨⟨by simp [hs, hn], Or.inr ⟨b, c, putCells eu 0 d' cur, rfl, Nat.zero_le _, hh, hnc, hcm, by simp [putCells, hcs], ?_⟩⟩, ?_⟩ rfl rfl rfl ?_ ?_
    · intro q hq; left; exact hq
    · apply List.ext_getElem?
      intro j
      rw [List.getElem?_take]
      simp only [Nat.mul_one]
      split
      · rename_i hj
        have hj2 : j < cur.size := by omega
        have hj3 : j < d'.size := by omega
        simp [putCells, hj2, hj3]
      · rename_i hj
        simp [show d'.size ≤ j by omega]
    · intro u hu
      obtain ⟨x, _, rfl⟩ := List.mem_map.1 hu
      rfl
    · simp
    · intro q hq hne
      rw [heap_grow_old _ _ (by simpa using hq)]
      have : q ≠ b := fun e => hne (by simp [Res.foot, Value.ownBlock, e])
      simp [putRow, mapBlock, Array.getElem?_modify, Ne.symm this]

set_option maxHeartbeats 1000000 in
theorem less_keys (blk c Bs size : Nat) (W : World) (K : Nat → Int) (hs : W.cell? ⟨Bs, 0, none⟩ = some (.slice (some ⟨blk, 0, none⟩) size c))
    (hc : ∀ t, t < size → W.cell? ⟨blk, 0 + t, none⟩ = some (.int .u64 (K t))) (i j : Nat) (hi : i < size) (hj : j < size) :
    Calls Try.prog 30 #[.int .i64 i, .int .i64 j, .pointer (some ⟨Bs, 0, none⟩)] W fun e w' => e = .returned (.bool (decide (K i < K j))) ∧ ∃ q, w' = W.drewN q := by
  have ci := hc i hi
  have cj := hc j hj
  simp only [Nat.zero_add] at ci cj
  go_enter Try.func30, Try.ntmps30
  go_wp2
  go_quiet (fail)
  go_wp2
  go_ret
  exact ⟨rfl, nq, rfl⟩

noncomputable def siT : TypeInfo := (Try.prog.info? 51).get (by kernel_rfl)
noncomputable def siE : TypeInfo := (Try.prog.info? 27).get (by kernel_rfl)
theorem siK (n : Nat) (h2 : 2 ≤ n) : Lib.swapperK n siE 11 = 5 := by
  have a : siE.hasPointers = false := by kernel_rfl
  have b : siE.bytes = 8 := by kernel_rfl
  have c : (n == 0) = false := by simp; omega
  have d : (n == 1) = false := by simp; omega
  simp [Lib.swapperK, a, b, c, d]

theorem sort_keys {w0 w : World} {G : Ghost} {L : List Res} (M : Mem w0 G L w) {k kb b n c Bs : Nat} {t1 : TypeId} (d : Array Int) (hn : n = d.size) (hk : L[k]? = some (.row (.slice (some ⟨b, 0, none⟩) n c) n (d.toList.map eu) 27 1)) (hkb : L[kb]? = some (.blk Bs [.slice (some ⟨b, 0, none⟩) n c] t1))
    (h1 : 1 ≤ n) (h2 : n ≤ 4096) :
    Calls Try.prog 29 #[.iface 51 (.slice (some ⟨b, 0, none⟩) n c), .func (.func 30) #[] #[.pointer (some ⟨Bs, 0, none⟩)]] w
      (RetL w0 G fun L' v => v = .tuple #[] ∧ ∃ d' : Array Int, d'.toList.Perm d.toList ∧ d'.toList.Pairwise (· ≤ ·) ∧ L' = L.set k (.row (.slice (some ⟨b, 0, none⟩) n c) n (d'.toList.map eu) 27 1)) := by
  subst hn
  by_cases h3 : d.size ≤ 1
  · have hS := Any.sort_Slice_tiny Try.sa6 51 27 siT siE (by kernel_rfl) (by kernel_rfl) (by kernel_rfl) (by kernel_rfl) 11 (fun _ => by kernel_rfl) (some ⟨b, 0, none⟩) d.size c h3 38
      (by
        have e : d.size = 1 := by omega
        rw [e]
        have h : Try.prog.funcs.findIdx? (·.name == "internal/reflectlite" ++ ".Swapper$" ++ toString (Lib.swapperK 1 siE 11)) = some 38 := by kernel_rfl
        exact h) (.func 30) #[] #[.pointer (some ⟨Bs, 0, none⟩)] w
    change Calls Try.prog 29 _ _ _ at hS
    refine hS.mono fun e w' ⟨he, os, hw⟩ => ?_
    subst he; subst hw
    refine ⟨L, M.same rfl rfl rfl (by simp) (fun q hq => heap_grow_old _ _ hq), rfl, d, List.Perm.refl _, ?_, (set_self hk).symm⟩
    have e : d.size = 1 := by omega
    obtain ⟨x, hx⟩ : ∃ x, d.toList = [x] := List.length_eq_one_iff.1 (by simpa using e)
    rw [hx]; simp
  · have h2' : 2 ≤ d.size := by omega
    obtain ⟨ho, _⟩ := M.row_at hk
    have hH : Holds eu w b 0 d := by
      intro j hj
      refine ⟨?_, ho.frozenAt _⟩
      rw [ho.cellAt (0 + j) (by omega), Nat.zero_add]
      simp [hj]
    have hblk : b < w.heap.size := (ho.lt b rfl).2
    have hBs : w.cell? ⟨Bs, 0, none⟩ = some (.slice (some ⟨b, 0, none⟩) d.size c) := M.cellL hkb rfl
    have hBlt : Bs < w.heap.size := Res.foot_lt (M.own _ (List.mem_of_getElem? hkb)) rfl
    have hne : Bs ≠ b := by
      intro e
      have hrow := ho.2
      rcases hrow with ⟨h4, _⟩ | ⟨g, cap, cur, he, _, hg, _, _, hcs, htake⟩
      · simp at h4
      · simp only [Value.slice.injEq, Option.some.injEq, Addr.mk.injEq, and_true, true_and] at he
        obtain ⟨rfl, rfl⟩ := he
        have h5 := ho.cellAt 0 (by omega)
        rw [e] at hBs
        rw [hBs] at h5
        have h6 : (d.toList.map eu)[0]? = some (eu d[0]) := by simp [show 0 < d.size by omega]
        rw [h6] at h5
        simp [eu] at h5
    have hless : LessReads Try.prog 30 #[.pointer (some ⟨Bs, 0, none⟩)] eu ltInt b 0 d.size w := by
      intro m os dk hs i j hi hj
      have e : sortWorld eu w b 0 m dk os = putRow eu (grow (Sort.ahead w m) os) b 0 dk := by
        unfold sortWorld; rw [putRow_grow _ (Sort.ahead w m) _ b 0 _ hblk]
      have hHg : Holds eu (grow (Sort.ahead w m) os) b 0 d := holds_grow _ _ _ b 0 d hblk (holds_ahead _ _ _ _ _ _ hH)
      refine less_keys b c Bs d.size _ (fun t => dk[t]!) ?_ (fun t ht => ?_) i j hi hj
      · rw [e, cell?_putRow_other _ _ b 0 dk _ (Or.inl hne), cell?_grow _ _ _ hBlt]
        exact hBs
      · rw [e]; exact cell?_putRow _ _ b 0 d dk hHg hs t (by omega)
    have hS := Any.sort_Slice_sorted Try.sa6 51 27 siT siE (by kernel_rfl) (by kernel_rfl) (by kernel_rfl) (by kernel_rfl) 11 (fun _ => by kernel_rfl) (by kernel_rfl) (fun _ => by kernel_rfl) eu (fun _ => rfl) ltInt swo_ltInt 30 _
      (enters_of Try.func30 (by kernel_rfl) rfl) b 0 c d h2' (by omega) 41 (by rw [siK _ h2']; kernel_rfl) true
      (fun args W => run_callFunc_extern Try.func41 (by kernel_rfl) (by kernel_rfl) (by kernel_rfl) (e := Extern.ReflectliteSwapper.swap true) (by kernel_rfl) args W) _ hless hH hblk
    change Calls Try.prog 29 _ _ _ at hS
    refine hS.mono fun e w' ⟨he, d', m, os, hp, hso, hw⟩ => ?_
    subst he; subst hw
    obtain ⟨hsz, _, hperm⟩ := hp
    refine ⟨_, row_rewritten M hk rfl hsz m os, rfl, d', ?_, ?_, rfl⟩
    · have e1 : d'.extract 0 d.size = d' := by rw [← hsz]; exact Array.extract_size
      rw [e1, Array.extract_size] at hperm
      exact hperm
    · rw [List.pairwise_iff_getElem]
      intro i j hi hj hij
      simp only [Array.length_toList] at hi hj
      have := hso i j (Nat.zero_le _) hij (by omega)
      simp only [ltInt, decide_eq_false_iff_not, getElem!_pos d' i hi, getElem!_pos d' j hj] at this
      simp only [Array.getElem_toList]
      omega
end Go.Proofs.Ytnloilnlehgngaa
