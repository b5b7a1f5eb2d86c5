/- The walks, part Y. -/
import Derived.Test.YtmmhmcplegpenaaDoorWalkZ
namespace Go.Proofs.YtmmhmcplegpenaaDoor
open Go Go.Y Go.Proofs
set_option linter.unusedSimpArgs false
set_option linter.unusedVariables false
def ks9 (xs : List ItemD) : List Nat := xs.map fun x => x.marks.length
theorem ks9_len (xs : List ItemD) : (ks9 xs).length = xs.length := by simp [ks9]
/-- A cell row of which no more is known than where its marks are. -/
def rdW (Ls : List Res) : Rd Nat := fun _ cs k => ∃ (u1 u2 u3 : Value) (a : Option Addr) (m : List Value), cs = [u1, u2, u3, .slice a k k] ∧ ROWM a k m ∈ Ls
theorem els_weak {G : Ghost} {Ls : List Res} : ∀ {xs : List ItemD} {cs : List Value}, Els (rdC Ls) 4 G cs xs → Els (rdW Ls) 4 G cs (ks9 xs)
 | [], cs, h => h
 | x :: xs, cs, h => by
  obtain ⟨c, r', h1, h2, ⟨a, m, e1, _, _, _, _, hm, _⟩, h4⟩ := h
  exact ⟨c, r', h1, h2, ⟨_, _, _, a, m, e1, hm⟩, els_weak h4⟩
def Subl (Ls Ls' : List Res) : Prop := ∀ (a : Option Addr) (k : Nat) (m : List Value), ROWM a k m ∈ Ls → ∃ m', ROWM a k m' ∈ Ls'
theorem els_w {G : Ghost} {Ls Ls' : List Res} (h : Subl Ls Ls') : ∀ {xs : List Nat} {cs : List Value}, Els (rdW Ls) 4 G cs xs → Els (rdW Ls') 4 G cs xs
 | [], cs, h => h
 | x :: xs, cs, hh => by
  obtain ⟨c, r', h1, h2, ⟨u1, u2, u3, a, m, e1, hm⟩, h4⟩ := hh
  obtain ⟨m', hm'⟩ := h a x m hm
  exact ⟨c, r', h1, h2, ⟨u1, u2, u3, a, m', e1, hm'⟩, els_w h h4⟩
theorem store_w {w0 w : World} {G : Ghost} {L Ls : List Res} {X : Res} (M : Mem w0 G (X :: (Ls ++ L)) w) {a : Option Addr} {k : Nat} {m : List Value} (hm : ROWM a k m ∈ Ls) {j : Nat} (hj : j < k) :
  ∃ b, a = some ⟨b, 0, none⟩ ∧ Ix a k j 1 b j ∧ (∃ old, w.cell? ⟨b, j, none⟩ = some old) ∧ w.frozen? ⟨b, j, none⟩ = false ∧ ∀ v : Value, v.oneCell' = true → ∃ Ls', Subl Ls Ls' ∧ Mem w0 G (X :: (Ls' ++ L)) (w.setCell ⟨b, j, none⟩ v) := by
 obtain ⟨q, hq⟩ := List.mem_iff_getElem?.1 hm
 have hql := lt_of_get hq
 have hk : (X :: (Ls ++ L))[q + 1]? = some (ROWM a k m) := by
  rw [List.getElem?_cons_succ, List.getElem?_append_left hql, hq]
 obtain ⟨b, rfl⟩ := M.row_some hk (by omega)
 have hlen := (M.row_at hk).1.1
 have hjl : j < m.length := by omega
 refine ⟨b, rfl, ⟨0, rfl, by omega, hj⟩, ⟨_, M.row_cell hk (List.getElem?_eq_getElem hjl)⟩, (M.row_at hk).1.frozenAt _, fun v hv => ⟨Ls.set q (ROWM (some ⟨b, 0, none⟩) k (m.set j v)), ?_, ?_⟩⟩
 ·intro a' k' m' hm'
  obtain ⟨q', hq'⟩ := List.mem_iff_getElem?.1 hm'
  by_cases e : q = q'
  ·subst e
   rw [hq] at hq'
   simp only [Option.some.injEq, ROWM, Res.row.injEq, Value.slice.injEq] at hq'
   obtain ⟨⟨rfl, rfl, _⟩, _, rfl, _⟩ := hq'
   exact ⟨m.set j v, List.mem_iff_getElem?.2 ⟨q, by rw [List.getElem?_set]; simp [hql]⟩⟩
  ·exact ⟨m', List.mem_iff_getElem?.2 ⟨q', by rw [List.getElem?_set_ne e]; exact hq'⟩⟩
 ·have := M.set_row hk j hv
  rw [List.set_cons_succ, List.set_append_left _ _ hql] at this
  exact this
theorem rl_storeW {P : Program} {ops : Array Oper} {Q : Exit → Act → World → Prop} {n : Nat} {a : Act} {w w0 : World} {e : Env} {t : TypeId} {p : String} {af : Array Edge} {r : List Oper} {et : TypeId} {i : TI} {x y : Operand} {v old : Value} {b j : Nat} {G : Ghost} {L Ls : List Res} {X : Res} (F : Fits n a e) (ht : TOK P et i) (h1 : i.size = 1)
  (hx : ev e x = some (.pointer (some ⟨b, j, none⟩))) (hy : ev e y = some v) (hv : v.oneCell' = true) (hc : w.cell? ⟨b, j, none⟩ = some old) (hf : w.frozen? ⟨b, j, none⟩ = false)
  (hM : ∀ v : Value, v.oneCell' = true → ∃ Ls', Subl Ls Ls' ∧ Mem w0 G (X :: (Ls' ++ L)) (w.setCell ⟨b, j, none⟩ v))
  (k : ∀ Ls' w' a', Subl Ls Ls' → Mem w0 G (X :: (Ls' ++ L)) w' → Fits n a' e → rl P ops Q r a' w') : rl P ops Q (⟨none, .store et x y, t, p, af, none⟩ :: r) a w := by
 obtain ⟨Ls', h2, h3⟩ := hM v hv
 refine rl_skip F (run_store1 ht h1 (F.ev hx) (F.ev hy) ?_ ?_ ?_ hc hf) fun a' F' => k Ls' _ a' h2 h3 F'
 ·cases v <;> simp_all [Value.cells, Value.oneCell']
 ·intro c hc; subst hc; simp [Value.oneCell'] at hv
 ·intro c hc; subst hc; simp [Value.oneCell'] at hv
theorem ks9_few {xs : List ItemD} (h : Few xs) {i k : Nat} (hX : (ks9 xs)[i]? = some k) : k ≤ 12 := by
 unfold ks9 at hX
 rw [List.getElem?_map] at hX
 cases hq : xs[i]? with
 | none => rw [hq] at hX; cases hX
 | some x =>
  rw [hq] at hX
  simp only [Option.map_some, Option.some.injEq] at hX
  have := (h.2 x (List.mem_of_getElem? hq)).2.1
  omega
theorem same_eq {P : Prop} [Decidable P] {b : Bool} (h : b = true ↔ P) : (b == decide ((if P then (1 : Int) else 0) = 1)) = true := by
 by_cases q : P
 ·rw [if_pos q, h.2 q]; rfl
 ·rw [if_neg q, Bool.eq_false_iff.2 (fun h_ => q (h.1 h_))]; rfl
/-- Which item is the first one whose key comes twice, as far as one has looked. -/
def DInv (xs : List ItemD) (i : Nat) (wt : Int) (b : Bool) : Prop := (b = false ∧ wt = 0 ∧ Upto xs i) ∨ (b = true ∧ ∃ k : Nat, wt = (k : Int) ∧ TwR xs k true)
theorem DInv.start (xs : List ItemD) : DInv xs 0 0 false := Or.inl ⟨rfl, rfl, fun m y h => by omega⟩
theorem DInv.no {xs : List ItemD} {i : Nat} {wt z : Int} {b : Bool} {x : ItemD} (h : DInv xs i wt b) (hb : b = false) (hx : xs[i]? = some x) (hf : FindR (xs.take i) x.key z) (hz : ¬ 0 ≤ z) : DInv xs (i + 1) wt b := by
 rcases h with ⟨_, h1, h2⟩ | ⟨h1, _⟩
 ·refine Or.inl ⟨hb, h1, h2.step hx fun k y hk hy => ?_⟩
  rcases hf with ⟨_, h3⟩ | ⟨q, _, h3, _⟩
  ·exact h3 y (List.mem_of_getElem? (i := k) (by rw [List.getElem?_take, if_pos hk]; exact hy))
  ·omega
 ·rw [hb] at h1; cases h1
theorem DInv.yes {xs : List ItemD} {i : Nat} {wt z : Int} {b : Bool} {x : ItemD} (h : DInv xs i wt b) (hb : b = false) (hx : xs[i]? = some x) (hf : FindR (xs.take i) x.key z) (hz : 0 ≤ z) : DInv xs (i + 1) (i : Int) true := by
 rcases h with ⟨_, h1, h2⟩ | ⟨h1, _⟩
 ·rcases hf with ⟨h3, _⟩ | ⟨q, y, _, h3, h4, _⟩
  ·omega
  ·have hq : q < i := by have := lt_of_get h3; simp only [List.length_take] at this; omega
   rw [List.getElem?_take, if_pos hq] at h3
   exact Or.inr ⟨rfl, i, rfl, Or.inr ⟨rfl, ⟨x, hx, q, y, hq, h3, h4⟩, h2⟩⟩
 ·rw [hb] at h1; cases h1
theorem DInv.fin {xs : List ItemD} {i : Nat} {wt : Int} {b : Bool} (h : DInv xs i wt b) (hi : xs.length ≤ i ∨ b = true) : ∃ k : Nat, wt = (k : Int) ∧ TwR xs k b := by
 rcases h with ⟨h0, h1, h2⟩ | ⟨rfl, k, h1, h2⟩
 ·rcases hi with hi | hi
  ·exact ⟨0, by simpa using h1, Or.inl ⟨h0, rfl, fun m y hy => h2 m y (by have := lt_of_get hy; omega) hy⟩⟩
  ·rw [hi] at h0; cases h0
 ·exact ⟨k, h1, h2⟩
theorem few2 {xs ys : List ItemD} (h : ¬ ((if Few xs then (1 : Int) else 0) * (if Few ys then (1 : Int) else 0) = 0)) : Few xs ∧ Few ys := by
 by_cases h1 : Few xs
 ·by_cases h2 : Few ys
  ·exact ⟨h1, h2⟩
  ·rw [if_neg h2, Int.mul_zero] at h; exact absurd rfl h
 ·rw [if_neg h1, Int.zero_mul] at h; exact absurd rfl h
theorem same_ret {w0 w : World} {G : Ghost} {L : List Res} (M : Mem w0 G L w) (HG : Globs 0 1 2 3 G) {a1 : Option Addr} {c1 : Nat} {xs : List ItemD} (S : RdSl rdItem 4 G (.slice a1 xs.length c1) xs) {a2 : Option Addr} {c2 : Nat} {ys : List ItemD} (T : RdSl rdItem 4 G (.slice a2 ys.length c2) ys) {k : Nat} : Calls Tryd.prog 6 #[.slice a1 xs.length c1, .slice a2 ys.length c2, .int .u64 ((k : Nat) : Int)] w (Ret w0 G L fun _ v => v = .bool true) := by
 have bS := S.bound
 have bT := T.bound
 refine calls_start (vs := [_, _, _]) Tryd.func6 rfl (n := 170) rfl rfl ?_
 intro a F
 refine wp_seq <| w_reg <| rl_run F (run_assign (F.ev rfl)) rfl ?_; clear F a; intro a F
 refine rl_nil <| q_tn ?_
 iterate 2 (refine wp_seq ?_)
 refine w_reg <| rl_run F (run_move (F.ev rfl)) rfl ?_; clear F a; intro a F
 refine rl_callS F ent7 rfl rfl (few_spec (xs := xs) M S) ?_; clear F M a; rintro _ w a M rfl F
 refine rl_run F (run_move (F.ev rfl)) rfl ?_; clear F a; intro a F
 refine rl_callS F ent7 rfl rfl (few_spec (xs := ys) M T) ?_; clear F M a; rintro _ w a M rfl F
 refine rl_run F (run_muli (F.ev rfl) (F.ev rfl) (in_i64 (by ((repeat' split) <;> omega)) (by ((repeat' split) <;> omega)))) rfl ?_; clear F a; intro a F
 refine rl_run F (run_eqi (F.ev rfl) (F.ev rfl)) rfl ?_; clear F a; intro a F
 refine rl_nil <| q_tn <| w_cond F rfl ?_ ?_
 ·intro hc
  have h1b := hc; clear hc
  have h1 : ((if Few xs then (1 : Int) else 0)) * ((if Few ys then (1 : Int) else 0)) = 0 := of_decide_eq_true h1b
  refine wp_seq <| w_reg <| rl_callS F ent8 rfl rfl (lives_spec M HG) ?_; clear F M a; rintro _ w a M rfl F
  refine rl_run F (run_assign (F.ev rfl)) rfl ?_; clear F a; intro a F
  refine rl_nil <| q_tn <| wp_ret <| q_tr <| fin1 F rfl rfl ?_
  exact ⟨_, (Gle.refl _), M.weaken (List.Sublist.refl _), rfl⟩
 ·intro hc
  have h2b := hc; clear hc
  have h2 : ¬ (((if Few xs then (1 : Int) else 0)) * ((if Few ys then (1 : Int) else 0)) = 0) := of_decide_eq_false h2b
  refine wp_skip <| q_tn ?_
  iterate 2 (refine wp_seq ?_)
  have hFw := few2 (xs := xs) (ys := ys) (by assumption)
  have hF30 := hFw.1.1
  have hG30 := hFw.2.1
  refine w_reg <| rl_run F (run_assign (F.ev rfl)) rfl ?_; clear F a; intro a F
  refine rl_nil <| q_tn <| wp_block <| w_loopN (fun m a' w' => ∃ (u : Nat), m = xs.length - u ∧ Fits 170 a' [(0, .slice (a1) (xs.length) (c1)), (1, .slice (a2) (ys.length) (c2)), (2, .int .u64 (((k : Nat) : Int))), (7, .int .i64 (((u : Nat) : Int)))] ∧ Mem w0 G (L) w' ∧ (u ≤ xs.length)) _ ⟨0, rfl, F.to ⟨rfl, rfl, rfl, rfl, trivial⟩, M, by omega⟩ ?_
  clear F M
  rintro m a w ⟨u, rfl, F, M, hu⟩
  iterate 2 (refine wp_seq ?_)
  refine w_reg ?_
  iterate 2 (refine rl_run F (run_move (F.ev rfl)) rfl ?_; clear F a; intro a F)
  refine rl_run F (run_lenSl tok22.k (F.ev rfl)) rfl ?_; clear F a; intro a F
  refine rl_run F (run_lss (F.ev rfl) (F.ev rfl)) rfl ?_; clear F a; intro a F
  refine rl_run F (run_move (F.ev rfl)) rfl ?_; clear F a; intro a F
  rcases Bool.eq_false_or_eq_true (decide (((u : Nat) : Int) < ((xs.length : Nat) : Int))) with hc | hc
  ·skip
   have h3b := hc; clear hc
   have h3 : ((u : Nat) : Int) < ((xs.length : Nat) : Int) := of_decide_eq_true h3b
   refine rl_guard_t F rfl rfl rfl h3b ?_
   refine rl_run F (run_move (F.ev rfl)) rfl ?_; clear F a; intro a F
   refine rl_guard_t F rfl rfl rfl h3b ?_
   refine rl_run F (run_move (F.ev rfl)) rfl ?_; clear F a; intro a F
   refine rl_guard_t F rfl rfl rfl h3b ?_
   refine rl_run F (run_lenSl tok22.k (F.ev rfl)) rfl ?_; clear F a; intro a F
   refine rl_guard_t F rfl rfl rfl h3b ?_
   refine rl_run F (run_lss (F.ev rfl) (F.ev rfl)) rfl ?_; clear F a; intro a F
   refine rl_run F (run_pick_t (F.ev rfl) h3b (F.ev rfl)) rfl ?_; clear F a; intro a F
   refine rl_nil <| q_tn <| w_cond F rfl ?_ ?_
   ·intro hc
    have h4b := hc; clear hc
    have h4 : ((u : Nat) : Int) < ((ys.length : Nat) : Int) := of_decide_eq_true h4b
    refine wp_skip <| q_tn <| wp_seq <| wp_block <| wp_seq <| w_plan2 [(.free, 0), (.free, 1), (.free, 2), (.pure, 3), (.free, 4), (.free, 5), (.free, 6), (.pure, 7), (.free, 9), (.free, 10), (.free, 11), (.pure, 12), (.free, 13), (.free, 14), (.free, 15), (.pure, 16), (.keep, 8), (.keep, 17), (.free, 18), (.free, 19), (.free, 20), (.free, 21), (.free, 22), (.free, 23), (.pure, 24), (.free, 25), (.free, 26), (.free, 27), (.pure, 28), (.keep, 29), (.free, 30), (.free, 31)] [] (Keep G []) rfl (by kernel_rfl) (fun c a d v w h => by cases d <;> exact h) ((M.drew _).keep (Gle.refl _) (by simp)) ?_
    replace M := M.drew (w.drawn + 1)
    iterate 2 (refine pk_free F (fun w _ => run_move (F.ev rfl)) rfl ?_; clear F a; intro a F)
    obtain ⟨Xe5, hXe5⟩ := get_of_lt (xs := xs) (i := u) (by omega)
    obtain ⟨be5, oe5, _, Ie5, _, Ae5, hTe5⟩ := S.at hXe5
    obtain ⟨mae5, mce5, rfl, hke5, hte5, hxe5, hne5, SMe5⟩ := hTe5
    have hIe5 : (Xe5.key < 18446744073709551616 ∧ Xe5.typ < 256 ∧ Xe5.text.length ≤ 9223372036854775807) := ⟨hke5, hte5, hxe5⟩
    refine pk_free F (fun w _ => run_indexI tok22.k tok30 (F.ev rfl) (F.ev rfl) (by omega) Ie5) rfl ?_; clear F a; intro a F
    refine pk_pure F (fun w M => run_loadA tok30 rfl (F.ev rfl) (cs := [.int .u64 (((Xe5.key : Nat) : Int)), .int .u8 (((Xe5.typ : Nat) : Int)), .string (str (Xe5.text)), .slice (mae5) (Xe5.marks.length) (mce5)]) rfl (M.cellsA Ae5 0 (by omega) rfl)) rfl ?_; clear F a; intro a F
    iterate 2 (refine pk_free F (fun w _ => run_move (F.ev rfl)) rfl ?_; clear F a; intro a F)
    obtain ⟨Xe6, hXe6⟩ := get_of_lt (xs := ys) (i := u) (by omega)
    obtain ⟨be6, oe6, _, Ie6, _, Ae6, hTe6⟩ := T.at hXe6
    obtain ⟨mae6, mce6, rfl, hke6, hte6, hxe6, hne6, SMe6⟩ := hTe6
    have hIe6 : (Xe6.key < 18446744073709551616 ∧ Xe6.typ < 256 ∧ Xe6.text.length ≤ 9223372036854775807) := ⟨hke6, hte6, hxe6⟩
    refine pk_free F (fun w _ => run_indexI tok22.k tok30 (F.ev rfl) (F.ev rfl) (by omega) Ie6) rfl ?_; clear F a; intro a F
    refine pk_pure F (fun w M => run_loadA tok30 rfl (F.ev rfl) (cs := [.int .u64 (((Xe6.key : Nat) : Int)), .int .u8 (((Xe6.typ : Nat) : Int)), .string (str (Xe6.text)), .slice (mae6) (Xe6.marks.length) (mce6)]) rfl (M.cellsA Ae6 0 (by omega) rfl)) rfl ?_; clear F a; intro a F
    iterate 2 (refine pk_free F (fun w _ => run_move (F.ev rfl)) rfl ?_; clear F a; intro a F)
    obtain ⟨be7, oe7, _, Ie7, _, Ae7, hTe7⟩ := S.at hXe5
    obtain ⟨mae7, mce7, rfl, hke7, hte7, hxe7, hne7, SMe7⟩ := hTe7
    have hIe7 : (Xe5.key < 18446744073709551616 ∧ Xe5.typ < 256 ∧ Xe5.text.length ≤ 9223372036854775807) := ⟨hke7, hte7, hxe7⟩
    refine pk_free F (fun w _ => run_indexI tok22.k tok30 (F.ev rfl) (F.ev rfl) (by omega) Ie7) rfl ?_; clear F a; intro a F
    refine pk_pure F (fun w M => run_loadA tok30 rfl (F.ev rfl) (cs := [.int .u64 (((Xe5.key : Nat) : Int)), .int .u8 (((Xe5.typ : Nat) : Int)), .string (str (Xe5.text)), .slice (mae7) (Xe5.marks.length) (mce7)]) rfl (M.cellsA Ae7 0 (by omega) rfl)) rfl ?_; clear F a; intro a F
    iterate 2 (refine pk_free F (fun w _ => run_move (F.ev rfl)) rfl ?_; clear F a; intro a F)
    obtain ⟨be8, oe8, _, Ie8, _, Ae8, hTe8⟩ := T.at hXe6
    obtain ⟨mae8, mce8, rfl, hke8, hte8, hxe8, hne8, SMe8⟩ := hTe8
    have hIe8 : (Xe6.key < 18446744073709551616 ∧ Xe6.typ < 256 ∧ Xe6.text.length ≤ 9223372036854775807) := ⟨hke8, hte8, hxe8⟩
    refine pk_free F (fun w _ => run_indexI tok22.k tok30 (F.ev rfl) (F.ev rfl) (by omega) Ie8) rfl ?_; clear F a; intro a F
    refine pk_pure F (fun w M => run_loadA tok30 rfl (F.ev rfl) (cs := [.int .u64 (((Xe6.key : Nat) : Int)), .int .u8 (((Xe6.typ : Nat) : Int)), .string (str (Xe6.text)), .slice (mae8) (Xe6.marks.length) (mce8)]) rfl (M.cellsA Ae8 0 (by omega) rfl)) rfl ?_; clear F a; intro a F
    refine pk_keep ?_ rfl
    refine rl_callS F ent16 rfl rfl (same_spec (x := Xe5) (y := Xe6) M hIe5 SMe5 hIe6 SMe6) ?_; clear F M a; rintro _ w a M ⟨b9, rfl, hb9⟩ F
    refine rl_nil <| ⟨Keep G [], M.keep (Gle.refl _) (by simp), fun w h => h.mono (Gle.refl _) (by simp), ?_⟩
    refine pk_keep ?_ rfl
    refine rl_callS F ent17 rfl rfl (rsame_spec (x := Xe5) (y := Xe6) M hIe7 SMe7 hIe8 SMe8) ?_; clear F M a; rintro _ w a M rfl F
    refine rl_nil <| ⟨Keep G [], M.keep (Gle.refl _) (by simp), fun w h => h.mono (Gle.refl _) (by simp), ?_⟩
    refine pk_free F (fun w _ => run_eqi (F.ev rfl) (F.ev rfl)) rfl ?_; clear F a; intro a F
    refine pk_free F (fun w _ => run_neb tok4.k (F.ev rfl) (F.ev rfl)) rfl ?_; clear F a; intro a F
    refine pk_free F (fun w _ => run_move (F.ev rfl)) rfl ?_; clear F a; intro a F
    have hg10 : (!((b9) == (decide ((if Xe5 = Xe6 then (1 : Int) else 0) = 1)))) = false := (not_f (by exact same_eq hb9))
    iterate 2 (refine pk_free_g F rfl rfl hg10 (fun w _ => run_move (F.ev rfl)) rfl ?_; clear F a; intro a F)
    obtain ⟨be11, oe11, _, Ie11, _, Ae11, hTe11⟩ := S.at hXe5
    obtain ⟨mae11, mce11, rfl, hke11, hte11, hxe11, hne11, SMe11⟩ := hTe11
    have hIe11 : (Xe5.key < 18446744073709551616 ∧ Xe5.typ < 256 ∧ Xe5.text.length ≤ 9223372036854775807) := ⟨hke11, hte11, hxe11⟩
    refine pk_free_g F rfl rfl hg10 (fun w _ => run_indexI tok22.k tok30 (F.ev rfl) (F.ev rfl) (by omega) Ie11) rfl ?_; clear F a; intro a F
    refine pk_pure_g F rfl rfl hg10 (fun w M => run_loadA tok30 rfl (F.ev rfl) (cs := [.int .u64 (((Xe5.key : Nat) : Int)), .int .u8 (((Xe5.typ : Nat) : Int)), .string (str (Xe5.text)), .slice (mae11) (Xe5.marks.length) (mce11)]) rfl (M.cellsA Ae11 0 (by omega) rfl)) rfl ?_; clear F a; intro a F
    iterate 2 (refine pk_free_g F rfl rfl hg10 (fun w _ => run_move (F.ev rfl)) rfl ?_; clear F a; intro a F)
    obtain ⟨be12, oe12, _, Ie12, _, Ae12, hTe12⟩ := S.at hXe5
    obtain ⟨mae12, mce12, rfl, hke12, hte12, hxe12, hne12, SMe12⟩ := hTe12
    have hIe12 : (Xe5.key < 18446744073709551616 ∧ Xe5.typ < 256 ∧ Xe5.text.length ≤ 9223372036854775807) := ⟨hke12, hte12, hxe12⟩
    refine pk_free_g F rfl rfl hg10 (fun w _ => run_indexI tok22.k tok30 (F.ev rfl) (F.ev rfl) (by omega) Ie12) rfl ?_; clear F a; intro a F
    refine pk_pure_g F rfl rfl hg10 (fun w M => run_loadA tok30 rfl (F.ev rfl) (cs := [.int .u64 (((Xe5.key : Nat) : Int)), .int .u8 (((Xe5.typ : Nat) : Int)), .string (str (Xe5.text)), .slice (mae12) (Xe5.marks.length) (mce12)]) rfl (M.cellsA Ae12 0 (by omega) rfl)) rfl ?_; clear F a; intro a F
    refine pk_keep_g F rfl rfl hg10 ?_
    refine rl_guard_t F rfl rfl rfl hg10 ?_
    refine rl_callS F ent16 rfl rfl (same_spec (x := Xe5) (y := Xe5) M hIe11 SMe11 hIe12 SMe12) ?_; clear F M a; rintro _ w a M ⟨b13, rfl, hb13⟩ F
    refine rl_nil <| ⟨Keep G [], M.keep (Gle.refl _) (by simp), fun w h => h.mono (Gle.refl _) (by simp), ?_⟩
    refine pk_free_g F rfl rfl hg10 (fun w _ => run_not (F.ev rfl)) rfl ?_; clear F a; intro a F
    refine pk_free F (fun w _ => run_pick_f (F.ev rfl) hg10 (F.ev rfl)) rfl ?_; clear F a; intro a F
    refine pk_nil <| q_tn <| w_cond_f F rfl (not_f (by exact hb13.2 rfl)) ?_
    refine wp_skip <| q_bn <| q_tn <| w_reg <| rl_run F (run_move (F.ev rfl)) rfl ?_; clear F a; intro a F
    refine rl_run F (run_addi (F.ev rfl) (F.ev rfl) (in_i64 (by omega) (by omega))) rfl ?_; clear F a; intro a F
    refine rl_run F (run_assign (F.ev rfl)) rfl ?_; clear F a; intro a F
    refine rl_nil <| q_tn ?_
    exact ⟨_, by omega, u + 1, rfl, F.to ⟨rfl, rfl, rfl, rfl, trivial⟩, M, by omega⟩
   ·intro hc
    have h14b := hc; clear hc
    have h14 : ¬ (((u : Nat) : Int) < ((ys.length : Nat) : Int)) := of_decide_eq_false h14b
    refine wp_exit ?_
    iterate 2 (refine q_te ?_)
    refine q_bh <| q_tn <| wp_seq <| w_reg ?_
    iterate 2 (refine rl_run F (run_move (F.ev rfl)) rfl ?_; clear F a; intro a F)
    refine rl_callS F ent18 rfl rfl (find_spec (xs := xs) (k := k) M S) ?_; clear F M a; rintro _ w a M ⟨z15, rfl, hz15⟩ F
    refine rl_run F (run_move (F.ev rfl)) rfl ?_; clear F a; intro a F
    refine rl_run F (run_extract (v := .int .i64 (max z15 0)) (F.ev rfl) rfl) rfl ?_; clear F a; intro a F
    refine rl_run F (run_extract (v := .bool (decide (0 ≤ z15))) (F.ev rfl) rfl) rfl ?_; clear F a; intro a F
    iterate 2 (refine rl_run F (run_assign (F.ev rfl)) rfl ?_; clear F a; intro a F)
    refine rl_nil <| q_tn <| wp_seq <| w_reg ?_
    iterate 2 (refine rl_run F (run_move (F.ev rfl)) rfl ?_; clear F a; intro a F)
    refine rl_callS F ent19 rfl rfl (rfind_spec (xs := xs) (k := k) M S) ?_; clear F M a; rintro _ w a M ⟨z16, rfl, hz16⟩ F
    refine rl_run F (run_assign (F.ev rfl)) rfl ?_; clear F a; intro a F
    refine rl_nil <| q_tn ?_
    iterate 2 (refine wp_seq ?_)
    have hzz := hz15.uniq hz16
    refine w_reg ?_
    iterate 2 (refine rl_run F (run_move (F.ev rfl)) rfl ?_; clear F a; intro a F)
    refine rl_run F (run_geq (F.ev rfl) (F.ev rfl)) rfl ?_; clear F a; intro a F
    refine rl_run F (run_neb tok4.k (F.ev rfl) (F.ev rfl)) rfl ?_; clear F a; intro a F
    refine rl_run F (run_move (F.ev rfl)) rfl ?_; clear F a; intro a F
    have hg17 : (!((decide (0 ≤ z15)) == (decide (0 ≤ z16)))) = false := (not_f (by rw [hzz]; exact beq_self_eq_true _))
    refine rl_guard_t F rfl rfl rfl hg17 ?_
    refine rl_run F (run_move (F.ev rfl)) rfl ?_; clear F a; intro a F
    refine rl_guard_t F rfl rfl rfl hg17 ?_
    refine rl_run F (run_move (F.ev rfl)) rfl ?_; clear F a; intro a F
    refine rl_guard_t F rfl rfl rfl hg17 ?_
    refine rl_run F (run_max2 (F.ev rfl) (F.ev rfl)) rfl ?_; clear F a; intro a F
    refine rl_guard_t F rfl rfl rfl hg17 ?_
    refine rl_run F (run_nei (F.ev rfl) (F.ev rfl)) rfl ?_; clear F a; intro a F
    refine rl_run F (run_pick_f (F.ev rfl) hg17 (F.ev rfl)) rfl ?_; clear F a; intro a F
    refine rl_nil <| q_tn <| w_cond_f F rfl (not_f (decide_eq_true (by rw [hzz]))) ?_
    refine wp_skip <| q_tn <| wp_seq <| w_reg <| rl_run F (run_assign (F.ev rfl)) rfl ?_; clear F a; intro a F
    refine rl_nil <| q_tn <| wp_seq <| w_reg <| rl_run F (run_assign (F.ev rfl)) rfl ?_; clear F a; intro a F
    refine rl_nil <| q_tn ?_
    iterate 2 (refine wp_seq ?_)
    refine w_reg <| rl_run F (run_assign (F.ev rfl)) rfl ?_; clear F a; intro a F
    refine rl_nil <| q_tn <| wp_block <| w_loopN (fun m a' w' => ∃ (i : Nat), ∃ (wt : Int), ∃ (isb : Bool), m = xs.length - i ∧ Fits 170 a' [(0, .slice (a1) (xs.length) (c1)), (1, .slice (a2) (ys.length) (c2)), (2, .int .u64 (((k : Nat) : Int))), (10, .int .i64 (wt)), (11, .bool (isb)), (12, .int .i64 (((i : Nat) : Int)))] ∧ Mem w0 G (L) w' ∧ (i ≤ xs.length) ∧ (DInv xs i wt isb)) _ ⟨0, 0, false, rfl, F.to ⟨rfl, rfl, rfl, rfl, rfl, rfl, trivial⟩, M, by omega, DInv.start xs⟩ ?_
    clear F M
    rintro m a w ⟨i, wt, isb, rfl, F, M, hi, hD⟩
    iterate 2 (refine wp_seq ?_)
    refine w_reg ?_
    iterate 2 (refine rl_run F (run_move (F.ev rfl)) rfl ?_; clear F a; intro a F)
    refine rl_run F (run_lenSl tok22.k (F.ev rfl)) rfl ?_; clear F a; intro a F
    refine rl_run F (run_lss (F.ev rfl) (F.ev rfl)) rfl ?_; clear F a; intro a F
    refine rl_run F (run_move (F.ev rfl)) rfl ?_; clear F a; intro a F
    rcases Bool.eq_false_or_eq_true (decide (((i : Nat) : Int) < ((xs.length : Nat) : Int))) with hc | hc
    ·skip
     have h18b := hc; clear hc
     have h18 : ((i : Nat) : Int) < ((xs.length : Nat) : Int) := of_decide_eq_true h18b
     refine rl_guard_t F rfl rfl rfl h18b ?_
     refine rl_run F (run_move (F.ev rfl)) rfl ?_; clear F a; intro a F
     refine rl_guard_t F rfl rfl rfl h18b ?_
     refine rl_run F (run_not (F.ev rfl)) rfl ?_; clear F a; intro a F
     refine rl_run F (run_pick_t (F.ev rfl) h18b (F.ev rfl)) rfl ?_; clear F a; intro a F
     refine rl_nil <| q_tn <| w_cond F rfl ?_ ?_
     ·intro hc
      have h19b := hc; clear hc
      have h19 : (isb) = false := (of_not_t h19b)
      have h19c : (isb) = false := (of_not_t h19b)
      refine wp_skip <| q_tn <| wp_seq <| wp_block <| wp_seq <| w_plan [(true, 0), (true, 1), (true, 2), (true, 3), (true, 4), (true, 5), (true, 6), (true, 7), (false, 8), (true, 9)] (Keep G []) rfl (by kernel_rfl) (fun c a d v w h => by cases d <;> exact h) ((M.drew _).keep (Gle.refl _) (by simp)) ?_
      replace M := M.drew (w.drawn + 1)
      iterate 2 (refine pl_run F (fun w M => run_move (F.ev rfl)) rfl ?_; clear F a; intro a F)
      obtain ⟨as20, cs20, Is20, hms20, hcs20, Ss20⟩ := S.partT (i) (by omega)
      refine pl_run F (fun w M => run_sliceI tok22.k tok30 Is20 (F.ev rfl) (h := i) (kl := .i64) (zl := 0) rfl ⟨(F.ev rfl), by omega⟩ (by omega) (by omega)) rfl ?_; clear F a; intro a F
      iterate 2 (refine pl_run F (fun w M => run_move (F.ev rfl)) rfl ?_; clear F a; intro a F)
      obtain ⟨Xe21, hXe21⟩ := get_of_lt (xs := xs) (i := i) (by omega)
      obtain ⟨be21, oe21, _, Ie21, _, Ae21, hTe21⟩ := S.at hXe21
      obtain ⟨mae21, mce21, rfl, hke21, hte21, hxe21, hne21, SMe21⟩ := hTe21
      have hIe21 : (Xe21.key < 18446744073709551616 ∧ Xe21.typ < 256 ∧ Xe21.text.length ≤ 9223372036854775807) := ⟨hke21, hte21, hxe21⟩
      refine pl_run F (fun w M => run_indexI tok22.k tok30 (F.ev rfl) (F.ev rfl) (by omega) Ie21) rfl ?_; clear F a; intro a F
      refine pl_run F (fun w M => run_fieldAddr tok30.k rfl rfl (F.ev rfl)) rfl ?_; clear F a; intro a F
      refine pl_run F (fun w M => run_load1 (agf tok27 rfl) (F.ev rfl) (M.cellA Ae21 0 rfl rfl)) rfl ?_; clear F a; intro a F
      refine pl_act ?_ rfl
      have hl9 : i - 0 = (xs.take i).length := by rw [List.length_take]; omega
      rw [hl9] at F Ss20
      refine rl_callS F ent19 rfl rfl (rfind_spec (xs := xs.take (i)) (k := Xe21.key) M Ss20) ?_; clear F M a; rintro _ w a M ⟨z22, rfl, hz22⟩ F
      refine rl_nil <| ⟨Keep G [], M.keep (Gle.refl _) (by simp), fun w h => h.mono (Gle.refl _) (by simp), ?_⟩
      refine pl_run F (fun w M => run_geq (F.ev rfl) (F.ev rfl)) rfl ?_; clear F a; intro a F
      refine pl_nil <| q_tn <| w_cond F rfl ?_ ?_
      ·intro hc
       have h23b := hc; clear hc
       have h23 : 0 ≤ z22 := of_decide_eq_true h23b
       refine wp_seq <| w_reg <| rl_run F (run_move (F.ev rfl)) rfl ?_; clear F a; intro a F
       refine rl_run F (run_assign (F.ev rfl)) rfl ?_; clear F a; intro a F
       refine rl_nil <| q_tn <| w_reg <| rl_run F (run_assign (F.ev rfl)) rfl ?_; clear F a; intro a F
       refine rl_nil <| q_bn <| q_tn <| w_reg <| rl_run F (run_move (F.ev rfl)) rfl ?_; clear F a; intro a F
       refine rl_run F (run_addi (F.ev rfl) (F.ev rfl) (in_i64 (by omega) (by omega))) rfl ?_; clear F a; intro a F
       refine rl_run F (run_assign (F.ev rfl)) rfl ?_; clear F a; intro a F
       refine rl_nil <| q_tn ?_
       exact ⟨_, by omega, i + 1, ((i : Nat) : Int), true, rfl, F.to ⟨rfl, rfl, rfl, rfl, rfl, rfl, trivial⟩, M, by omega, by first | exact hD.no (by assumption) hXe21 hz22 (by omega) | exact hD.yes (by assumption) hXe21 hz22 (by omega)⟩
      ·intro hc
       have h24b := hc; clear hc
       have h24 : ¬ (0 ≤ z22) := of_decide_eq_false h24b
       refine wp_skip <| q_bn <| q_tn <| w_reg <| rl_run F (run_move (F.ev rfl)) rfl ?_; clear F a; intro a F
       refine rl_run F (run_addi (F.ev rfl) (F.ev rfl) (in_i64 (by omega) (by omega))) rfl ?_; clear F a; intro a F
       refine rl_run F (run_assign (F.ev rfl)) rfl ?_; clear F a; intro a F
       refine rl_nil <| q_tn ?_
       exact ⟨_, by omega, i + 1, wt, (isb), rfl, F.to ⟨rfl, rfl, rfl, rfl, rfl, rfl, trivial⟩, M, by omega, by first | exact hD.no (by assumption) hXe21 hz22 (by omega) | exact hD.yes (by assumption) hXe21 hz22 (by omega)⟩
     ·intro hc
      have h25b := hc; clear hc
      have h25 : (isb) = true := (of_not_f h25b)
      have h25c : (isb) = true := (of_not_f h25b)
      refine wp_exit ?_
      iterate 2 (refine q_te ?_)
      refine q_bh <| q_tn <| wp_seq ?_
      obtain ⟨k9, hk9, hT9⟩ := hD.fin (by first | exact Or.inl (by omega) | exact Or.inr (by assumption))
      refine w_reg <| rl_run F (run_move (F.ev rfl)) rfl ?_; clear F a; intro a F
      refine rl_callS F ent20 rfl rfl (twice_spec (xs := xs) M S) ?_; clear F M a; rintro _ w a M ⟨t26, bt26, rfl, ht26⟩ F
      refine rl_run F (run_move (F.ev rfl)) rfl ?_; clear F a; intro a F
      refine rl_run F (run_extract (v := .int .i64 (((t26 : Nat) : Int))) (F.ev rfl) rfl) rfl ?_; clear F a; intro a F
      refine rl_run F (run_extract (v := .bool (bt26)) (F.ev rfl) rfl) rfl ?_; clear F a; intro a F
      iterate 2 (refine rl_run F (run_assign (F.ev rfl)) rfl ?_; clear F a; intro a F)
      refine rl_nil <| q_tn ?_
      iterate 2 (refine wp_seq ?_)
      obtain ⟨q1, q2⟩ := ht26.uniq hT9
      refine w_reg ?_
      iterate 2 (refine rl_run F (run_move (F.ev rfl)) rfl ?_; clear F a; intro a F)
      refine rl_run F (run_nei (F.ev rfl) (F.ev rfl)) rfl ?_; clear F a; intro a F
      refine rl_run F (run_move (F.ev rfl)) rfl ?_; clear F a; intro a F
      have hg27 : (!(decide (((t26 : Nat) : Int) = wt))) = false := (not_f (decide_eq_true (by omega)))
      refine rl_guard_t F rfl rfl rfl hg27 ?_
      refine rl_run F (run_move (F.ev rfl)) rfl ?_; clear F a; intro a F
      refine rl_guard_t F rfl rfl rfl hg27 ?_
      refine rl_run F (run_move (F.ev rfl)) rfl ?_; clear F a; intro a F
      refine rl_guard_t F rfl rfl rfl hg27 ?_
      refine rl_run F (run_neb tok4.k (F.ev rfl) (F.ev rfl)) rfl ?_; clear F a; intro a F
      refine rl_run F (run_pick_f (F.ev rfl) hg27 (F.ev rfl)) rfl ?_; clear F a; intro a F
      refine rl_nil <| q_tn <| w_cond_f F rfl (not_f (by rw [q2]; exact beq_self_eq_true _)) ?_
      refine wp_skip <| q_tn <| wp_seq <| w_reg <| rl_run F (run_move (F.ev rfl)) rfl ?_; clear F a; intro a F
      refine rl_callL F ent21 rfl rfl (copy_own (xs := xs) M S (by omega) (fun x hx => by have h_ := (hFw.1.2 x hx).2.1; omega)) ?_; clear F M a; rintro _ _ w a M ⟨ac, csc, Ls, rfl, rfl, Ec⟩ F
      refine rl_run F (run_move (F.ev rfl)) rfl ?_; clear F a; intro a F
      refine rl_call F ent21 rfl rfl (copy_spec (xs := xs) M S (by omega) (fun x hx => by have h_ := (hFw.1.2 x hx).2.1; omega)) ?_; clear F M a; rintro _ Gq28 w a hGq28 M ⟨aq28, rfl, Sq28⟩ F
      replace S := S.mono mono_rdItem hGq28
      replace T := T.mono mono_rdItem hGq28
      replace HG := HG.mono hGq28
      replace Ec := Ec.mono mono_rdC hGq28
      iterate 2 (refine rl_run F (run_assign (F.ev rfl)) rfl ?_; clear F a; intro a F)
      refine rl_nil <| q_tn ?_
      iterate 2 (refine wp_seq ?_)
      refine w_reg ?_
      iterate 2 (refine rl_run F (run_move (F.ev rfl)) rfl ?_; clear F a; intro a F)
      refine rl_callS F ent14 rfl rfl (rsameall_own (Ls := Ls) M Ec S) ?_; clear F M a; rintro _ w a M rfl F
      refine rl_run F (run_eqi (F.ev rfl) (F.ev rfl)) rfl ?_; clear F a; intro a F
      refine rl_run F (run_move (F.ev rfl)) rfl ?_; clear F a; intro a F
      have hg29 : (decide ((if xs = xs then (1 : Int) else 0) = 0)) = false := (decide_eq_false (by (rw [if_pos rfl]; decide)))
      refine rl_guard_t F rfl rfl rfl hg29 ?_
      refine rl_run F (run_move (F.ev rfl)) rfl ?_; clear F a; intro a F
      refine rl_guard_t F rfl rfl rfl hg29 ?_
      refine rl_run F (run_capSl tok22.k (F.ev rfl)) rfl ?_; clear F a; intro a F
      refine rl_guard_t F rfl rfl rfl hg29 ?_
      refine rl_run F (run_move (F.ev rfl)) rfl ?_; clear F a; intro a F
      refine rl_guard_t F rfl rfl rfl hg29 ?_
      refine rl_run F (run_lenSl tok22.k (F.ev rfl)) rfl ?_; clear F a; intro a F
      refine rl_guard_t F rfl rfl rfl hg29 ?_
      refine rl_run F (run_nei (F.ev rfl) (F.ev rfl)) rfl ?_; clear F a; intro a F
      refine rl_run F (run_pick_f (F.ev rfl) hg29 (F.ev rfl)) rfl ?_; clear F a; intro a F
      refine rl_nil <| q_tn <| w_cond_f F rfl (not_f (decide_eq_true rfl)) ?_
      refine wp_skip <| q_tn ?_
      iterate 2 (refine wp_seq ?_)
      refine w_reg <| rl_run F (run_assign (F.ev rfl)) rfl ?_; clear F a; intro a F
      refine rl_nil <| q_tn <| wp_block ?_
      have Ew0 := els_weak Ec
      have hks := ks9_len xs
      refine w_loopN (fun m a' w' => ∃ (q : Nat), ∃ (Lw : List Res), ∃ (csw : List Value), m = xs.length - q ∧ Fits 170 a' [(0, .slice (a1) (xs.length) (c1)), (13, .slice (ac) (xs.length) (xs.length)), (14, .slice (aq28) (xs.length) (xs.length)), (15, .int .i64 (((q : Nat) : Int)))] ∧ Mem w0 Gq28 (.row (.slice (ac) (xs.length) (xs.length)) (xs.length) (csw) 30 4 :: (Lw ++ L)) w' ∧ (q ≤ xs.length) ∧ (Els (rdW Lw) 4 Gq28 csw (ks9 xs))) _ ⟨0, Ls, csc, rfl, F.to ⟨rfl, rfl, rfl, rfl, trivial⟩, M, by omega, Ew0⟩ ?_
      clear F M
      rintro m a w ⟨q, Lw, csw, rfl, F, M, hq, Ew⟩
      iterate 2 (refine wp_seq ?_)
      refine w_reg ?_
      iterate 2 (refine rl_run F (run_move (F.ev rfl)) rfl ?_; clear F a; intro a F)
      refine rl_run F (run_lenSl tok22.k (F.ev rfl)) rfl ?_; clear F a; intro a F
      refine rl_run F (run_lss (F.ev rfl) (F.ev rfl)) rfl ?_; clear F a; intro a F
      refine rl_nil <| q_tn <| w_cond F rfl ?_ ?_
      ·intro hc
       have h30b := hc; clear hc
       have h30 : ((q : Nat) : Int) < ((xs.length : Nat) : Int) := of_decide_eq_true h30b
       refine wp_skip <| q_tn <| wp_seq <| wp_block ?_
       iterate 2 (refine wp_seq ?_)
       obtain ⟨Xi, hXi⟩ := get_of_lt (xs := ks9 xs) (i := q) (by omega)
       have hX12 := ks9_few hFw.1 hXi
       refine w_reg <| rl_run F (run_assign (F.ev rfl)) rfl ?_; clear F a; intro a F
       refine rl_nil <| q_tn <| wp_block <| w_loopN (fun m a' w' => ∃ (j : Nat), ∃ (Lv : List Res), ∃ (csv : List Value), m = Xi - j ∧ Fits 170 a' [(0, .slice (a1) (xs.length) (c1)), (13, .slice (ac) (xs.length) (xs.length)), (14, .slice (aq28) (xs.length) (xs.length)), (15, .int .i64 (((q : Nat) : Int))), (16, .int .i64 (((j : Nat) : Int)))] ∧ Mem w0 Gq28 (.row (.slice (ac) (xs.length) (xs.length)) (xs.length) (csv) 30 4 :: (Lv ++ L)) w' ∧ (j ≤ Xi) ∧ (Els (rdW Lv) 4 Gq28 csv (ks9 xs))) _ ⟨0, Lw, csw, rfl, F.to ⟨rfl, rfl, rfl, rfl, rfl, trivial⟩, M, by omega, Ew⟩ ?_
       clear F M
       rintro m a w ⟨j, Lv, csv, rfl, F, M, hj, Ev⟩
       iterate 2 (refine wp_seq ?_)
       refine w_reg ?_
       iterate 3 (refine rl_run F (run_move (F.ev rfl)) rfl ?_; clear F a; intro a F)
       obtain ⟨be31, _, Ie31, hme31, _, Ae31, ⟨u1e31, u2e31, u3e31, awe31, mwe31, rfl, hme31⟩⟩ := M.atRow (k := 0) rfl (by decide) Ev hXi
       refine rl_run F (run_indexI tok22.k tok30 (F.ev rfl) (F.ev rfl) (by omega) Ie31) rfl ?_; clear F a; intro a F
       refine rl_run F (run_fieldAddr tok30.k rfl rfl (F.ev rfl)) rfl ?_; clear F a; intro a F
       refine rl_run F (run_load1 (agf tok28 rfl) (F.ev rfl) (cellE Ae31 3 rfl rfl)) rfl ?_; clear F a; intro a F
       refine rl_run F (run_lenSl tok28.k (F.ev rfl)) rfl ?_; clear F a; intro a F
       refine rl_run F (run_lss (F.ev rfl) (F.ev rfl)) rfl ?_; clear F a; intro a F
       refine rl_nil <| q_tn <| w_cond F rfl ?_ ?_
       ·intro hc
        have h32b := hc; clear hc
        have h32 : ((j : Nat) : Int) < ((Xi : Nat) : Int) := of_decide_eq_true h32b
        refine wp_skip <| q_tn <| wp_seq <| wp_block <| w_reg ?_
        iterate 2 (refine rl_run F (run_move (F.ev rfl)) rfl ?_; clear F a; intro a F)
        obtain ⟨be33, _, Ie33, hme33, _, Ae33, ⟨u1e33, u2e33, u3e33, awe33, mwe33, rfl, hme33⟩⟩ := M.atRow (k := 0) rfl (by decide) Ev hXi
        refine rl_run F (run_indexI tok22.k tok30 (F.ev rfl) (F.ev rfl) (by omega) Ie33) rfl ?_; clear F a; intro a F
        refine rl_run F (run_fieldAddr tok30.k rfl rfl (F.ev rfl)) rfl ?_; clear F a; intro a F
        refine rl_run F (run_load1 (agf tok28 rfl) (F.ev rfl) (cellE Ae33 3 rfl rfl)) rfl ?_; clear F a; intro a F
        refine rl_run F (run_move (F.ev rfl)) rfl ?_; clear F a; intro a F
        obtain ⟨b9, hb9, I9, ⟨old9, hc9⟩, hf9, hM9⟩ := store_w M hme33 (j := j) (by omega)
        refine rl_run F (run_indexI tok28.k tok9 (F.ev rfl) (F.ev rfl) (by omega) I9) rfl ?_; clear F a; intro a F
        refine rl_storeW F tok9 rfl rfl rfl rfl hc9 hf9 hM9 ?_; clear F M hc9 hf9 hM9 a; intro Lx w a hs9 M F
        refine rl_nil <| q_bn <| q_tn <| w_reg <| rl_run F (run_move (F.ev rfl)) rfl ?_; clear F a; intro a F
        refine rl_run F (run_addi (F.ev rfl) (F.ev rfl) (in_i64 (by omega) (by omega))) rfl ?_; clear F a; intro a F
        refine rl_run F (run_assign (F.ev rfl)) rfl ?_; clear F a; intro a F
        refine rl_nil <| q_tn ?_
        exact ⟨_, by omega, j + 1, Lx, csv, rfl, F.to ⟨rfl, rfl, rfl, rfl, rfl, trivial⟩, M, by omega, els_w hs9 Ev⟩
       ·intro hc
        have h34b := hc; clear hc
        have h34 : ¬ (((j : Nat) : Int) < ((Xi : Nat) : Int)) := of_decide_eq_false h34b
        refine wp_exit ?_
        iterate 2 (refine q_te ?_)
        refine q_bh <| q_tn <| w_reg ?_
        iterate 2 (refine rl_run F (run_move (F.ev rfl)) rfl ?_; clear F a; intro a F)
        obtain ⟨be35, _, Ie35, hme35, _, Ae35, ⟨u1e35, u2e35, u3e35, awe35, mwe35, rfl, hme35⟩⟩ := M.atRow (k := 0) rfl (by decide) Ev hXi
        refine rl_run F (run_indexI tok22.k tok30 (F.ev rfl) (F.ev rfl) (by omega) Ie35) rfl ?_; clear F a; intro a F
        refine rl_run F (run_fieldAddr tok30.k rfl rfl (F.ev rfl)) rfl ?_; clear F a; intro a F
        refine rl_storeElF F M tok27 rfl (k := 0) rfl Ev Ie35 hXi (f := 0) (by decide) rfl rfl rfl rfl (X' := Xi) (fun ch _ h => by obtain ⟨u1_, u2_, u3_, a_, m_, rfl, h9⟩ := h; exact ⟨_, u2_, u3_, a_, m_, rfl, h9⟩) ?_; clear F M a; intro csu36 w a M Eu36 F
        refine rl_nil <| q_bn <| q_tn <| w_reg <| rl_run F (run_move (F.ev rfl)) rfl ?_; clear F a; intro a F
        refine rl_run F (run_addi (F.ev rfl) (F.ev rfl) (in_i64 (by omega) (by omega))) rfl ?_; clear F a; intro a F
        refine rl_run F (run_assign (F.ev rfl)) rfl ?_; clear F a; intro a F
        refine rl_nil <| q_tn ?_
        exact ⟨_, by omega, q + 1, Lv, csu36, rfl, F.to ⟨rfl, rfl, rfl, rfl, trivial⟩, M, by omega, by have h_ := Eu36; rwa [set_same hXi] at h_⟩
      ·intro hc
       have h37b := hc; clear hc
       have h37 : ¬ (((q : Nat) : Int) < ((xs.length : Nat) : Int)) := of_decide_eq_false h37b
       refine wp_exit ?_
       iterate 2 (refine q_te ?_)
       refine q_bh <| q_tn <| wp_seq <| w_reg ?_
       iterate 2 (refine rl_run F (run_move (F.ev rfl)) rfl ?_; clear F a; intro a F)
       refine rl_callS F ent14 rfl rfl (rsameall_spec (xs := xs) (ys := xs) M Sq28 S) ?_; clear F M a; rintro _ w a M rfl F
       refine rl_run F (run_eqi (F.ev rfl) (F.ev rfl)) rfl ?_; clear F a; intro a F
       refine rl_run F (run_move (F.ev rfl)) rfl ?_; clear F a; intro a F
       have hg38 : (decide ((if xs = xs then (1 : Int) else 0) = 1)) = true := (decide_eq_true (by (rw [if_pos rfl])))
       refine rl_guard_t F rfl rfl rfl hg38 ?_
       refine rl_callS F ent8 rfl rfl (lives_spec M HG) ?_; clear F M a; rintro _ w a M rfl F
       refine rl_run F (run_pick_t (F.ev rfl) hg38 (F.ev rfl)) rfl ?_; clear F a; intro a F
       refine rl_run F (run_assign (F.ev rfl)) rfl ?_; clear F a; intro a F
       refine rl_nil <| q_tn <| wp_ret <| fin1 F rfl rfl ?_
       exact ⟨_, hGq28, M.weaken (.cons _ (List.sublist_append_right _ _)), rfl⟩
    ·skip
     have h39b := hc; clear hc
     have h39 : ¬ (((i : Nat) : Int) < ((xs.length : Nat) : Int)) := of_decide_eq_false h39b
     iterate 2 (refine rl_guard_f F rfl rfl rfl h39b ?_; clear F a; intro a F)
     refine rl_run F (run_pick_f (F.ev rfl) h39b (F.ev rfl)) rfl ?_; clear F a; intro a F
     refine rl_nil <| q_tn <| w_cond_f F rfl rfl ?_
     refine wp_exit ?_
     iterate 2 (refine q_te ?_)
     refine q_bh <| q_tn <| wp_seq ?_
     obtain ⟨k9, hk9, hT9⟩ := hD.fin (by first | exact Or.inl (by omega) | exact Or.inr (by assumption))
     refine w_reg <| rl_run F (run_move (F.ev rfl)) rfl ?_; clear F a; intro a F
     refine rl_callS F ent20 rfl rfl (twice_spec (xs := xs) M S) ?_; clear F M a; rintro _ w a M ⟨t40, bt40, rfl, ht40⟩ F
     refine rl_run F (run_move (F.ev rfl)) rfl ?_; clear F a; intro a F
     refine rl_run F (run_extract (v := .int .i64 (((t40 : Nat) : Int))) (F.ev rfl) rfl) rfl ?_; clear F a; intro a F
     refine rl_run F (run_extract (v := .bool (bt40)) (F.ev rfl) rfl) rfl ?_; clear F a; intro a F
     iterate 2 (refine rl_run F (run_assign (F.ev rfl)) rfl ?_; clear F a; intro a F)
     refine rl_nil <| q_tn ?_
     iterate 2 (refine wp_seq ?_)
     obtain ⟨q1, q2⟩ := ht40.uniq hT9
     refine w_reg ?_
     iterate 2 (refine rl_run F (run_move (F.ev rfl)) rfl ?_; clear F a; intro a F)
     refine rl_run F (run_nei (F.ev rfl) (F.ev rfl)) rfl ?_; clear F a; intro a F
     refine rl_run F (run_move (F.ev rfl)) rfl ?_; clear F a; intro a F
     have hg41 : (!(decide (((t40 : Nat) : Int) = wt))) = false := (not_f (decide_eq_true (by omega)))
     refine rl_guard_t F rfl rfl rfl hg41 ?_
     refine rl_run F (run_move (F.ev rfl)) rfl ?_; clear F a; intro a F
     refine rl_guard_t F rfl rfl rfl hg41 ?_
     refine rl_run F (run_move (F.ev rfl)) rfl ?_; clear F a; intro a F
     refine rl_guard_t F rfl rfl rfl hg41 ?_
     refine rl_run F (run_neb tok4.k (F.ev rfl) (F.ev rfl)) rfl ?_; clear F a; intro a F
     refine rl_run F (run_pick_f (F.ev rfl) hg41 (F.ev rfl)) rfl ?_; clear F a; intro a F
     refine rl_nil <| q_tn <| w_cond_f F rfl (not_f (by rw [q2]; exact beq_self_eq_true _)) ?_
     refine wp_skip <| q_tn <| wp_seq <| w_reg <| rl_run F (run_move (F.ev rfl)) rfl ?_; clear F a; intro a F
     refine rl_callL F ent21 rfl rfl (copy_own (xs := xs) M S (by omega) (fun x hx => by have h_ := (hFw.1.2 x hx).2.1; omega)) ?_; clear F M a; rintro _ _ w a M ⟨ac, csc, Ls, rfl, rfl, Ec⟩ F
     refine rl_run F (run_move (F.ev rfl)) rfl ?_; clear F a; intro a F
     refine rl_call F ent21 rfl rfl (copy_spec (xs := xs) M S (by omega) (fun x hx => by have h_ := (hFw.1.2 x hx).2.1; omega)) ?_; clear F M a; rintro _ Gq42 w a hGq42 M ⟨aq42, rfl, Sq42⟩ F
     replace S := S.mono mono_rdItem hGq42
     replace T := T.mono mono_rdItem hGq42
     replace HG := HG.mono hGq42
     replace Ec := Ec.mono mono_rdC hGq42
     iterate 2 (refine rl_run F (run_assign (F.ev rfl)) rfl ?_; clear F a; intro a F)
     refine rl_nil <| q_tn ?_
     iterate 2 (refine wp_seq ?_)
     refine w_reg ?_
     iterate 2 (refine rl_run F (run_move (F.ev rfl)) rfl ?_; clear F a; intro a F)
     refine rl_callS F ent14 rfl rfl (rsameall_own (Ls := Ls) M Ec S) ?_; clear F M a; rintro _ w a M rfl F
     refine rl_run F (run_eqi (F.ev rfl) (F.ev rfl)) rfl ?_; clear F a; intro a F
     refine rl_run F (run_move (F.ev rfl)) rfl ?_; clear F a; intro a F
     have hg43 : (decide ((if xs = xs then (1 : Int) else 0) = 0)) = false := (decide_eq_false (by (rw [if_pos rfl]; decide)))
     refine rl_guard_t F rfl rfl rfl hg43 ?_
     refine rl_run F (run_move (F.ev rfl)) rfl ?_; clear F a; intro a F
     refine rl_guard_t F rfl rfl rfl hg43 ?_
     refine rl_run F (run_capSl tok22.k (F.ev rfl)) rfl ?_; clear F a; intro a F
     refine rl_guard_t F rfl rfl rfl hg43 ?_
     refine rl_run F (run_move (F.ev rfl)) rfl ?_; clear F a; intro a F
     refine rl_guard_t F rfl rfl rfl hg43 ?_
     refine rl_run F (run_lenSl tok22.k (F.ev rfl)) rfl ?_; clear F a; intro a F
     refine rl_guard_t F rfl rfl rfl hg43 ?_
     refine rl_run F (run_nei (F.ev rfl) (F.ev rfl)) rfl ?_; clear F a; intro a F
     refine rl_run F (run_pick_f (F.ev rfl) hg43 (F.ev rfl)) rfl ?_; clear F a; intro a F
     refine rl_nil <| q_tn <| w_cond_f F rfl (not_f (decide_eq_true rfl)) ?_
     refine wp_skip <| q_tn ?_
     iterate 2 (refine wp_seq ?_)
     refine w_reg <| rl_run F (run_assign (F.ev rfl)) rfl ?_; clear F a; intro a F
     refine rl_nil <| q_tn <| wp_block ?_
     have Ew0 := els_weak Ec
     have hks := ks9_len xs
     refine w_loopN (fun m a' w' => ∃ (q : Nat), ∃ (Lw : List Res), ∃ (csw : List Value), m = xs.length - q ∧ Fits 170 a' [(0, .slice (a1) (xs.length) (c1)), (13, .slice (ac) (xs.length) (xs.length)), (14, .slice (aq42) (xs.length) (xs.length)), (15, .int .i64 (((q : Nat) : Int)))] ∧ Mem w0 Gq42 (.row (.slice (ac) (xs.length) (xs.length)) (xs.length) (csw) 30 4 :: (Lw ++ L)) w' ∧ (q ≤ xs.length) ∧ (Els (rdW Lw) 4 Gq42 csw (ks9 xs))) _ ⟨0, Ls, csc, rfl, F.to ⟨rfl, rfl, rfl, rfl, trivial⟩, M, by omega, Ew0⟩ ?_
     clear F M
     rintro m a w ⟨q, Lw, csw, rfl, F, M, hq, Ew⟩
     iterate 2 (refine wp_seq ?_)
     refine w_reg ?_
     iterate 2 (refine rl_run F (run_move (F.ev rfl)) rfl ?_; clear F a; intro a F)
     refine rl_run F (run_lenSl tok22.k (F.ev rfl)) rfl ?_; clear F a; intro a F
     refine rl_run F (run_lss (F.ev rfl) (F.ev rfl)) rfl ?_; clear F a; intro a F
     refine rl_nil <| q_tn <| w_cond F rfl ?_ ?_
     ·intro hc
      have h44b := hc; clear hc
      have h44 : ((q : Nat) : Int) < ((xs.length : Nat) : Int) := of_decide_eq_true h44b
      refine wp_skip <| q_tn <| wp_seq <| wp_block ?_
      iterate 2 (refine wp_seq ?_)
      obtain ⟨Xi, hXi⟩ := get_of_lt (xs := ks9 xs) (i := q) (by omega)
      have hX12 := ks9_few hFw.1 hXi
      refine w_reg <| rl_run F (run_assign (F.ev rfl)) rfl ?_; clear F a; intro a F
      refine rl_nil <| q_tn <| wp_block <| w_loopN (fun m a' w' => ∃ (j : Nat), ∃ (Lv : List Res), ∃ (csv : List Value), m = Xi - j ∧ Fits 170 a' [(0, .slice (a1) (xs.length) (c1)), (13, .slice (ac) (xs.length) (xs.length)), (14, .slice (aq42) (xs.length) (xs.length)), (15, .int .i64 (((q : Nat) : Int))), (16, .int .i64 (((j : Nat) : Int)))] ∧ Mem w0 Gq42 (.row (.slice (ac) (xs.length) (xs.length)) (xs.length) (csv) 30 4 :: (Lv ++ L)) w' ∧ (j ≤ Xi) ∧ (Els (rdW Lv) 4 Gq42 csv (ks9 xs))) _ ⟨0, Lw, csw, rfl, F.to ⟨rfl, rfl, rfl, rfl, rfl, trivial⟩, M, by omega, Ew⟩ ?_
      clear F M
      rintro m a w ⟨j, Lv, csv, rfl, F, M, hj, Ev⟩
      iterate 2 (refine wp_seq ?_)
      refine w_reg ?_
      iterate 3 (refine rl_run F (run_move (F.ev rfl)) rfl ?_; clear F a; intro a F)
      obtain ⟨be45, _, Ie45, hme45, _, Ae45, ⟨u1e45, u2e45, u3e45, awe45, mwe45, rfl, hme45⟩⟩ := M.atRow (k := 0) rfl (by decide) Ev hXi
      refine rl_run F (run_indexI tok22.k tok30 (F.ev rfl) (F.ev rfl) (by omega) Ie45) rfl ?_; clear F a; intro a F
      refine rl_run F (run_fieldAddr tok30.k rfl rfl (F.ev rfl)) rfl ?_; clear F a; intro a F
      refine rl_run F (run_load1 (agf tok28 rfl) (F.ev rfl) (cellE Ae45 3 rfl rfl)) rfl ?_; clear F a; intro a F
      refine rl_run F (run_lenSl tok28.k (F.ev rfl)) rfl ?_; clear F a; intro a F
      refine rl_run F (run_lss (F.ev rfl) (F.ev rfl)) rfl ?_; clear F a; intro a F
      refine rl_nil <| q_tn <| w_cond F rfl ?_ ?_
      ·intro hc
       have h46b := hc; clear hc
       have h46 : ((j : Nat) : Int) < ((Xi : Nat) : Int) := of_decide_eq_true h46b
       refine wp_skip <| q_tn <| wp_seq <| wp_block <| w_reg ?_
       iterate 2 (refine rl_run F (run_move (F.ev rfl)) rfl ?_; clear F a; intro a F)
       obtain ⟨be47, _, Ie47, hme47, _, Ae47, ⟨u1e47, u2e47, u3e47, awe47, mwe47, rfl, hme47⟩⟩ := M.atRow (k := 0) rfl (by decide) Ev hXi
       refine rl_run F (run_indexI tok22.k tok30 (F.ev rfl) (F.ev rfl) (by omega) Ie47) rfl ?_; clear F a; intro a F
       refine rl_run F (run_fieldAddr tok30.k rfl rfl (F.ev rfl)) rfl ?_; clear F a; intro a F
       refine rl_run F (run_load1 (agf tok28 rfl) (F.ev rfl) (cellE Ae47 3 rfl rfl)) rfl ?_; clear F a; intro a F
       refine rl_run F (run_move (F.ev rfl)) rfl ?_; clear F a; intro a F
       obtain ⟨b9, hb9, I9, ⟨old9, hc9⟩, hf9, hM9⟩ := store_w M hme47 (j := j) (by omega)
       refine rl_run F (run_indexI tok28.k tok9 (F.ev rfl) (F.ev rfl) (by omega) I9) rfl ?_; clear F a; intro a F
       refine rl_storeW F tok9 rfl rfl rfl rfl hc9 hf9 hM9 ?_; clear F M hc9 hf9 hM9 a; intro Lx w a hs9 M F
       refine rl_nil <| q_bn <| q_tn <| w_reg <| rl_run F (run_move (F.ev rfl)) rfl ?_; clear F a; intro a F
       refine rl_run F (run_addi (F.ev rfl) (F.ev rfl) (in_i64 (by omega) (by omega))) rfl ?_; clear F a; intro a F
       refine rl_run F (run_assign (F.ev rfl)) rfl ?_; clear F a; intro a F
       refine rl_nil <| q_tn ?_
       exact ⟨_, by omega, j + 1, Lx, csv, rfl, F.to ⟨rfl, rfl, rfl, rfl, rfl, trivial⟩, M, by omega, els_w hs9 Ev⟩
      ·intro hc
       have h48b := hc; clear hc
       have h48 : ¬ (((j : Nat) : Int) < ((Xi : Nat) : Int)) := of_decide_eq_false h48b
       refine wp_exit ?_
       iterate 2 (refine q_te ?_)
       refine q_bh <| q_tn <| w_reg ?_
       iterate 2 (refine rl_run F (run_move (F.ev rfl)) rfl ?_; clear F a; intro a F)
       obtain ⟨be49, _, Ie49, hme49, _, Ae49, ⟨u1e49, u2e49, u3e49, awe49, mwe49, rfl, hme49⟩⟩ := M.atRow (k := 0) rfl (by decide) Ev hXi
       refine rl_run F (run_indexI tok22.k tok30 (F.ev rfl) (F.ev rfl) (by omega) Ie49) rfl ?_; clear F a; intro a F
       refine rl_run F (run_fieldAddr tok30.k rfl rfl (F.ev rfl)) rfl ?_; clear F a; intro a F
       refine rl_storeElF F M tok27 rfl (k := 0) rfl Ev Ie49 hXi (f := 0) (by decide) rfl rfl rfl rfl (X' := Xi) (fun ch _ h => by obtain ⟨u1_, u2_, u3_, a_, m_, rfl, h9⟩ := h; exact ⟨_, u2_, u3_, a_, m_, rfl, h9⟩) ?_; clear F M a; intro csu50 w a M Eu50 F
       refine rl_nil <| q_bn <| q_tn <| w_reg <| rl_run F (run_move (F.ev rfl)) rfl ?_; clear F a; intro a F
       refine rl_run F (run_addi (F.ev rfl) (F.ev rfl) (in_i64 (by omega) (by omega))) rfl ?_; clear F a; intro a F
       refine rl_run F (run_assign (F.ev rfl)) rfl ?_; clear F a; intro a F
       refine rl_nil <| q_tn ?_
       exact ⟨_, by omega, q + 1, Lv, csu50, rfl, F.to ⟨rfl, rfl, rfl, rfl, trivial⟩, M, by omega, by have h_ := Eu50; rwa [set_same hXi] at h_⟩
     ·intro hc
      have h51b := hc; clear hc
      have h51 : ¬ (((q : Nat) : Int) < ((xs.length : Nat) : Int)) := of_decide_eq_false h51b
      refine wp_exit ?_
      iterate 2 (refine q_te ?_)
      refine q_bh <| q_tn <| wp_seq <| w_reg ?_
      iterate 2 (refine rl_run F (run_move (F.ev rfl)) rfl ?_; clear F a; intro a F)
      refine rl_callS F ent14 rfl rfl (rsameall_spec (xs := xs) (ys := xs) M Sq42 S) ?_; clear F M a; rintro _ w a M rfl F
      refine rl_run F (run_eqi (F.ev rfl) (F.ev rfl)) rfl ?_; clear F a; intro a F
      refine rl_run F (run_move (F.ev rfl)) rfl ?_; clear F a; intro a F
      have hg52 : (decide ((if xs = xs then (1 : Int) else 0) = 1)) = true := (decide_eq_true (by (rw [if_pos rfl])))
      refine rl_guard_t F rfl rfl rfl hg52 ?_
      refine rl_callS F ent8 rfl rfl (lives_spec M HG) ?_; clear F M a; rintro _ w a M rfl F
      refine rl_run F (run_pick_t (F.ev rfl) hg52 (F.ev rfl)) rfl ?_; clear F a; intro a F
      refine rl_run F (run_assign (F.ev rfl)) rfl ?_; clear F a; intro a F
      refine rl_nil <| q_tn <| wp_ret <| fin1 F rfl rfl ?_
      exact ⟨_, hGq42, M.weaken (.cons _ (List.sublist_append_right _ _)), rfl⟩
  ·skip
   have h53b := hc; clear hc
   have h53 : ¬ (((u : Nat) : Int) < ((xs.length : Nat) : Int)) := of_decide_eq_false h53b
   iterate 4 (refine rl_guard_f F rfl rfl rfl h53b ?_; clear F a; intro a F)
   refine rl_run F (run_pick_f (F.ev rfl) h53b (F.ev rfl)) rfl ?_; clear F a; intro a F
   refine rl_nil <| q_tn <| w_cond_f F rfl rfl ?_
   refine wp_exit ?_
   iterate 2 (refine q_te ?_)
   refine q_bh <| q_tn <| wp_seq <| w_reg ?_
   iterate 2 (refine rl_run F (run_move (F.ev rfl)) rfl ?_; clear F a; intro a F)
   refine rl_callS F ent18 rfl rfl (find_spec (xs := xs) (k := k) M S) ?_; clear F M a; rintro _ w a M ⟨z54, rfl, hz54⟩ F
   refine rl_run F (run_move (F.ev rfl)) rfl ?_; clear F a; intro a F
   refine rl_run F (run_extract (v := .int .i64 (max z54 0)) (F.ev rfl) rfl) rfl ?_; clear F a; intro a F
   refine rl_run F (run_extract (v := .bool (decide (0 ≤ z54))) (F.ev rfl) rfl) rfl ?_; clear F a; intro a F
   iterate 2 (refine rl_run F (run_assign (F.ev rfl)) rfl ?_; clear F a; intro a F)
   refine rl_nil <| q_tn <| wp_seq <| w_reg ?_
   iterate 2 (refine rl_run F (run_move (F.ev rfl)) rfl ?_; clear F a; intro a F)
   refine rl_callS F ent19 rfl rfl (rfind_spec (xs := xs) (k := k) M S) ?_; clear F M a; rintro _ w a M ⟨z55, rfl, hz55⟩ F
   refine rl_run F (run_assign (F.ev rfl)) rfl ?_; clear F a; intro a F
   refine rl_nil <| q_tn ?_
   iterate 2 (refine wp_seq ?_)
   have hzz := hz54.uniq hz55
   refine w_reg ?_
   iterate 2 (refine rl_run F (run_move (F.ev rfl)) rfl ?_; clear F a; intro a F)
   refine rl_run F (run_geq (F.ev rfl) (F.ev rfl)) rfl ?_; clear F a; intro a F
   refine rl_run F (run_neb tok4.k (F.ev rfl) (F.ev rfl)) rfl ?_; clear F a; intro a F
   refine rl_run F (run_move (F.ev rfl)) rfl ?_; clear F a; intro a F
   have hg56 : (!((decide (0 ≤ z54)) == (decide (0 ≤ z55)))) = false := (not_f (by rw [hzz]; exact beq_self_eq_true _))
   refine rl_guard_t F rfl rfl rfl hg56 ?_
   refine rl_run F (run_move (F.ev rfl)) rfl ?_; clear F a; intro a F
   refine rl_guard_t F rfl rfl rfl hg56 ?_
   refine rl_run F (run_move (F.ev rfl)) rfl ?_; clear F a; intro a F
   refine rl_guard_t F rfl rfl rfl hg56 ?_
   refine rl_run F (run_max2 (F.ev rfl) (F.ev rfl)) rfl ?_; clear F a; intro a F
   refine rl_guard_t F rfl rfl rfl hg56 ?_
   refine rl_run F (run_nei (F.ev rfl) (F.ev rfl)) rfl ?_; clear F a; intro a F
   refine rl_run F (run_pick_f (F.ev rfl) hg56 (F.ev rfl)) rfl ?_; clear F a; intro a F
   refine rl_nil <| q_tn <| w_cond_f F rfl (not_f (decide_eq_true (by rw [hzz]))) ?_
   refine wp_skip <| q_tn <| wp_seq <| w_reg <| rl_run F (run_assign (F.ev rfl)) rfl ?_; clear F a; intro a F
   refine rl_nil <| q_tn <| wp_seq <| w_reg <| rl_run F (run_assign (F.ev rfl)) rfl ?_; clear F a; intro a F
   refine rl_nil <| q_tn ?_
   iterate 2 (refine wp_seq ?_)
   refine w_reg <| rl_run F (run_assign (F.ev rfl)) rfl ?_; clear F a; intro a F
   refine rl_nil <| q_tn <| wp_block <| w_loopN (fun m a' w' => ∃ (i : Nat), ∃ (wt : Int), ∃ (isb : Bool), m = xs.length - i ∧ Fits 170 a' [(0, .slice (a1) (xs.length) (c1)), (1, .slice (a2) (ys.length) (c2)), (2, .int .u64 (((k : Nat) : Int))), (10, .int .i64 (wt)), (11, .bool (isb)), (12, .int .i64 (((i : Nat) : Int)))] ∧ Mem w0 G (L) w' ∧ (i ≤ xs.length) ∧ (DInv xs i wt isb)) _ ⟨0, 0, false, rfl, F.to ⟨rfl, rfl, rfl, rfl, rfl, rfl, trivial⟩, M, by omega, DInv.start xs⟩ ?_
   clear F M
   rintro m a w ⟨i, wt, isb, rfl, F, M, hi, hD⟩
   iterate 2 (refine wp_seq ?_)
   refine w_reg ?_
   iterate 2 (refine rl_run F (run_move (F.ev rfl)) rfl ?_; clear F a; intro a F)
   refine rl_run F (run_lenSl tok22.k (F.ev rfl)) rfl ?_; clear F a; intro a F
   refine rl_run F (run_lss (F.ev rfl) (F.ev rfl)) rfl ?_; clear F a; intro a F
   refine rl_run F (run_move (F.ev rfl)) rfl ?_; clear F a; intro a F
   rcases Bool.eq_false_or_eq_true (decide (((i : Nat) : Int) < ((xs.length : Nat) : Int))) with hc | hc
   ·skip
    have h57b := hc; clear hc
    have h57 : ((i : Nat) : Int) < ((xs.length : Nat) : Int) := of_decide_eq_true h57b
    refine rl_guard_t F rfl rfl rfl h57b ?_
    refine rl_run F (run_move (F.ev rfl)) rfl ?_; clear F a; intro a F
    refine rl_guard_t F rfl rfl rfl h57b ?_
    refine rl_run F (run_not (F.ev rfl)) rfl ?_; clear F a; intro a F
    refine rl_run F (run_pick_t (F.ev rfl) h57b (F.ev rfl)) rfl ?_; clear F a; intro a F
    refine rl_nil <| q_tn <| w_cond F rfl ?_ ?_
    ·intro hc
     have h58b := hc; clear hc
     have h58 : (isb) = false := (of_not_t h58b)
     have h58c : (isb) = false := (of_not_t h58b)
     refine wp_skip <| q_tn <| wp_seq <| wp_block <| wp_seq <| w_plan [(true, 0), (true, 1), (true, 2), (true, 3), (true, 4), (true, 5), (true, 6), (true, 7), (false, 8), (true, 9)] (Keep G []) rfl (by kernel_rfl) (fun c a d v w h => by cases d <;> exact h) ((M.drew _).keep (Gle.refl _) (by simp)) ?_
     replace M := M.drew (w.drawn + 1)
     iterate 2 (refine pl_run F (fun w M => run_move (F.ev rfl)) rfl ?_; clear F a; intro a F)
     obtain ⟨as59, cs59, Is59, hms59, hcs59, Ss59⟩ := S.partT (i) (by omega)
     refine pl_run F (fun w M => run_sliceI tok22.k tok30 Is59 (F.ev rfl) (h := i) (kl := .i64) (zl := 0) rfl ⟨(F.ev rfl), by omega⟩ (by omega) (by omega)) rfl ?_; clear F a; intro a F
     iterate 2 (refine pl_run F (fun w M => run_move (F.ev rfl)) rfl ?_; clear F a; intro a F)
     obtain ⟨Xe60, hXe60⟩ := get_of_lt (xs := xs) (i := i) (by omega)
     obtain ⟨be60, oe60, _, Ie60, _, Ae60, hTe60⟩ := S.at hXe60
     obtain ⟨mae60, mce60, rfl, hke60, hte60, hxe60, hne60, SMe60⟩ := hTe60
     have hIe60 : (Xe60.key < 18446744073709551616 ∧ Xe60.typ < 256 ∧ Xe60.text.length ≤ 9223372036854775807) := ⟨hke60, hte60, hxe60⟩
     refine pl_run F (fun w M => run_indexI tok22.k tok30 (F.ev rfl) (F.ev rfl) (by omega) Ie60) rfl ?_; clear F a; intro a F
     refine pl_run F (fun w M => run_fieldAddr tok30.k rfl rfl (F.ev rfl)) rfl ?_; clear F a; intro a F
     refine pl_run F (fun w M => run_load1 (agf tok27 rfl) (F.ev rfl) (M.cellA Ae60 0 rfl rfl)) rfl ?_; clear F a; intro a F
     refine pl_act ?_ rfl
     have hl9 : i - 0 = (xs.take i).length := by rw [List.length_take]; omega
     rw [hl9] at F Ss59
     refine rl_callS F ent19 rfl rfl (rfind_spec (xs := xs.take (i)) (k := Xe60.key) M Ss59) ?_; clear F M a; rintro _ w a M ⟨z61, rfl, hz61⟩ F
     refine rl_nil <| ⟨Keep G [], M.keep (Gle.refl _) (by simp), fun w h => h.mono (Gle.refl _) (by simp), ?_⟩
     refine pl_run F (fun w M => run_geq (F.ev rfl) (F.ev rfl)) rfl ?_; clear F a; intro a F
     refine pl_nil <| q_tn <| w_cond F rfl ?_ ?_
     ·intro hc
      have h62b := hc; clear hc
      have h62 : 0 ≤ z61 := of_decide_eq_true h62b
      refine wp_seq <| w_reg <| rl_run F (run_move (F.ev rfl)) rfl ?_; clear F a; intro a F
      refine rl_run F (run_assign (F.ev rfl)) rfl ?_; clear F a; intro a F
      refine rl_nil <| q_tn <| w_reg <| rl_run F (run_assign (F.ev rfl)) rfl ?_; clear F a; intro a F
      refine rl_nil <| q_bn <| q_tn <| w_reg <| rl_run F (run_move (F.ev rfl)) rfl ?_; clear F a; intro a F
      refine rl_run F (run_addi (F.ev rfl) (F.ev rfl) (in_i64 (by omega) (by omega))) rfl ?_; clear F a; intro a F
      refine rl_run F (run_assign (F.ev rfl)) rfl ?_; clear F a; intro a F
      refine rl_nil <| q_tn ?_
      exact ⟨_, by omega, i + 1, ((i : Nat) : Int), true, rfl, F.to ⟨rfl, rfl, rfl, rfl, rfl, rfl, trivial⟩, M, by omega, by first | exact hD.no (by assumption) hXe60 hz61 (by omega) | exact hD.yes (by assumption) hXe60 hz61 (by omega)⟩
     ·intro hc
      have h63b := hc; clear hc
      have h63 : ¬ (0 ≤ z61) := of_decide_eq_false h63b
      refine wp_skip <| q_bn <| q_tn <| w_reg <| rl_run F (run_move (F.ev rfl)) rfl ?_; clear F a; intro a F
      refine rl_run F (run_addi (F.ev rfl) (F.ev rfl) (in_i64 (by omega) (by omega))) rfl ?_; clear F a; intro a F
      refine rl_run F (run_assign (F.ev rfl)) rfl ?_; clear F a; intro a F
      refine rl_nil <| q_tn ?_
      exact ⟨_, by omega, i + 1, wt, (isb), rfl, F.to ⟨rfl, rfl, rfl, rfl, rfl, rfl, trivial⟩, M, by omega, by first | exact hD.no (by assumption) hXe60 hz61 (by omega) | exact hD.yes (by assumption) hXe60 hz61 (by omega)⟩
    ·intro hc
     have h64b := hc; clear hc
     have h64 : (isb) = true := (of_not_f h64b)
     have h64c : (isb) = true := (of_not_f h64b)
     refine wp_exit ?_
     iterate 2 (refine q_te ?_)
     refine q_bh <| q_tn <| wp_seq ?_
     obtain ⟨k9, hk9, hT9⟩ := hD.fin (by first | exact Or.inl (by omega) | exact Or.inr (by assumption))
     refine w_reg <| rl_run F (run_move (F.ev rfl)) rfl ?_; clear F a; intro a F
     refine rl_callS F ent20 rfl rfl (twice_spec (xs := xs) M S) ?_; clear F M a; rintro _ w a M ⟨t65, bt65, rfl, ht65⟩ F
     refine rl_run F (run_move (F.ev rfl)) rfl ?_; clear F a; intro a F
     refine rl_run F (run_extract (v := .int .i64 (((t65 : Nat) : Int))) (F.ev rfl) rfl) rfl ?_; clear F a; intro a F
     refine rl_run F (run_extract (v := .bool (bt65)) (F.ev rfl) rfl) rfl ?_; clear F a; intro a F
     iterate 2 (refine rl_run F (run_assign (F.ev rfl)) rfl ?_; clear F a; intro a F)
     refine rl_nil <| q_tn ?_
     iterate 2 (refine wp_seq ?_)
     obtain ⟨q1, q2⟩ := ht65.uniq hT9
     refine w_reg ?_
     iterate 2 (refine rl_run F (run_move (F.ev rfl)) rfl ?_; clear F a; intro a F)
     refine rl_run F (run_nei (F.ev rfl) (F.ev rfl)) rfl ?_; clear F a; intro a F
     refine rl_run F (run_move (F.ev rfl)) rfl ?_; clear F a; intro a F
     have hg66 : (!(decide (((t65 : Nat) : Int) = wt))) = false := (not_f (decide_eq_true (by omega)))
     refine rl_guard_t F rfl rfl rfl hg66 ?_
     refine rl_run F (run_move (F.ev rfl)) rfl ?_; clear F a; intro a F
     refine rl_guard_t F rfl rfl rfl hg66 ?_
     refine rl_run F (run_move (F.ev rfl)) rfl ?_; clear F a; intro a F
     refine rl_guard_t F rfl rfl rfl hg66 ?_
     refine rl_run F (run_neb tok4.k (F.ev rfl) (F.ev rfl)) rfl ?_; clear F a; intro a F
     refine rl_run F (run_pick_f (F.ev rfl) hg66 (F.ev rfl)) rfl ?_; clear F a; intro a F
     refine rl_nil <| q_tn <| w_cond_f F rfl (not_f (by rw [q2]; exact beq_self_eq_true _)) ?_
     refine wp_skip <| q_tn <| wp_seq <| w_reg <| rl_run F (run_move (F.ev rfl)) rfl ?_; clear F a; intro a F
     refine rl_callL F ent21 rfl rfl (copy_own (xs := xs) M S (by omega) (fun x hx => by have h_ := (hFw.1.2 x hx).2.1; omega)) ?_; clear F M a; rintro _ _ w a M ⟨ac, csc, Ls, rfl, rfl, Ec⟩ F
     refine rl_run F (run_move (F.ev rfl)) rfl ?_; clear F a; intro a F
     refine rl_call F ent21 rfl rfl (copy_spec (xs := xs) M S (by omega) (fun x hx => by have h_ := (hFw.1.2 x hx).2.1; omega)) ?_; clear F M a; rintro _ Gq67 w a hGq67 M ⟨aq67, rfl, Sq67⟩ F
     replace S := S.mono mono_rdItem hGq67
     replace T := T.mono mono_rdItem hGq67
     replace HG := HG.mono hGq67
     replace Ec := Ec.mono mono_rdC hGq67
     iterate 2 (refine rl_run F (run_assign (F.ev rfl)) rfl ?_; clear F a; intro a F)
     refine rl_nil <| q_tn ?_
     iterate 2 (refine wp_seq ?_)
     refine w_reg ?_
     iterate 2 (refine rl_run F (run_move (F.ev rfl)) rfl ?_; clear F a; intro a F)
     refine rl_callS F ent14 rfl rfl (rsameall_own (Ls := Ls) M Ec S) ?_; clear F M a; rintro _ w a M rfl F
     refine rl_run F (run_eqi (F.ev rfl) (F.ev rfl)) rfl ?_; clear F a; intro a F
     refine rl_run F (run_move (F.ev rfl)) rfl ?_; clear F a; intro a F
     have hg68 : (decide ((if xs = xs then (1 : Int) else 0) = 0)) = false := (decide_eq_false (by (rw [if_pos rfl]; decide)))
     refine rl_guard_t F rfl rfl rfl hg68 ?_
     refine rl_run F (run_move (F.ev rfl)) rfl ?_; clear F a; intro a F
     refine rl_guard_t F rfl rfl rfl hg68 ?_
     refine rl_run F (run_capSl tok22.k (F.ev rfl)) rfl ?_; clear F a; intro a F
     refine rl_guard_t F rfl rfl rfl hg68 ?_
     refine rl_run F (run_move (F.ev rfl)) rfl ?_; clear F a; intro a F
     refine rl_guard_t F rfl rfl rfl hg68 ?_
     refine rl_run F (run_lenSl tok22.k (F.ev rfl)) rfl ?_; clear F a; intro a F
     refine rl_guard_t F rfl rfl rfl hg68 ?_
     refine rl_run F (run_nei (F.ev rfl) (F.ev rfl)) rfl ?_; clear F a; intro a F
     refine rl_run F (run_pick_f (F.ev rfl) hg68 (F.ev rfl)) rfl ?_; clear F a; intro a F
     refine rl_nil <| q_tn <| w_cond_f F rfl (not_f (decide_eq_true rfl)) ?_
     refine wp_skip <| q_tn ?_
     iterate 2 (refine wp_seq ?_)
     refine w_reg <| rl_run F (run_assign (F.ev rfl)) rfl ?_; clear F a; intro a F
     refine rl_nil <| q_tn <| wp_block ?_
     have Ew0 := els_weak Ec
     have hks := ks9_len xs
     refine w_loopN (fun m a' w' => ∃ (q : Nat), ∃ (Lw : List Res), ∃ (csw : List Value), m = xs.length - q ∧ Fits 170 a' [(0, .slice (a1) (xs.length) (c1)), (13, .slice (ac) (xs.length) (xs.length)), (14, .slice (aq67) (xs.length) (xs.length)), (15, .int .i64 (((q : Nat) : Int)))] ∧ Mem w0 Gq67 (.row (.slice (ac) (xs.length) (xs.length)) (xs.length) (csw) 30 4 :: (Lw ++ L)) w' ∧ (q ≤ xs.length) ∧ (Els (rdW Lw) 4 Gq67 csw (ks9 xs))) _ ⟨0, Ls, csc, rfl, F.to ⟨rfl, rfl, rfl, rfl, trivial⟩, M, by omega, Ew0⟩ ?_
     clear F M
     rintro m a w ⟨q, Lw, csw, rfl, F, M, hq, Ew⟩
     iterate 2 (refine wp_seq ?_)
     refine w_reg ?_
     iterate 2 (refine rl_run F (run_move (F.ev rfl)) rfl ?_; clear F a; intro a F)
     refine rl_run F (run_lenSl tok22.k (F.ev rfl)) rfl ?_; clear F a; intro a F
     refine rl_run F (run_lss (F.ev rfl) (F.ev rfl)) rfl ?_; clear F a; intro a F
     refine rl_nil <| q_tn <| w_cond F rfl ?_ ?_
     ·intro hc
      have h69b := hc; clear hc
      have h69 : ((q : Nat) : Int) < ((xs.length : Nat) : Int) := of_decide_eq_true h69b
      refine wp_skip <| q_tn <| wp_seq <| wp_block ?_
      iterate 2 (refine wp_seq ?_)
      obtain ⟨Xi, hXi⟩ := get_of_lt (xs := ks9 xs) (i := q) (by omega)
      have hX12 := ks9_few hFw.1 hXi
      refine w_reg <| rl_run F (run_assign (F.ev rfl)) rfl ?_; clear F a; intro a F
      refine rl_nil <| q_tn <| wp_block <| w_loopN (fun m a' w' => ∃ (j : Nat), ∃ (Lv : List Res), ∃ (csv : List Value), m = Xi - j ∧ Fits 170 a' [(0, .slice (a1) (xs.length) (c1)), (13, .slice (ac) (xs.length) (xs.length)), (14, .slice (aq67) (xs.length) (xs.length)), (15, .int .i64 (((q : Nat) : Int))), (16, .int .i64 (((j : Nat) : Int)))] ∧ Mem w0 Gq67 (.row (.slice (ac) (xs.length) (xs.length)) (xs.length) (csv) 30 4 :: (Lv ++ L)) w' ∧ (j ≤ Xi) ∧ (Els (rdW Lv) 4 Gq67 csv (ks9 xs))) _ ⟨0, Lw, csw, rfl, F.to ⟨rfl, rfl, rfl, rfl, rfl, trivial⟩, M, by omega, Ew⟩ ?_
      clear F M
      rintro m a w ⟨j, Lv, csv, rfl, F, M, hj, Ev⟩
      iterate 2 (refine wp_seq ?_)
      refine w_reg ?_
      iterate 3 (refine rl_run F (run_move (F.ev rfl)) rfl ?_; clear F a; intro a F)
      obtain ⟨be70, _, Ie70, hme70, _, Ae70, ⟨u1e70, u2e70, u3e70, awe70, mwe70, rfl, hme70⟩⟩ := M.atRow (k := 0) rfl (by decide) Ev hXi
      refine rl_run F (run_indexI tok22.k tok30 (F.ev rfl) (F.ev rfl) (by omega) Ie70) rfl ?_; clear F a; intro a F
      refine rl_run F (run_fieldAddr tok30.k rfl rfl (F.ev rfl)) rfl ?_; clear F a; intro a F
      refine rl_run F (run_load1 (agf tok28 rfl) (F.ev rfl) (cellE Ae70 3 rfl rfl)) rfl ?_; clear F a; intro a F
      refine rl_run F (run_lenSl tok28.k (F.ev rfl)) rfl ?_; clear F a; intro a F
      refine rl_run F (run_lss (F.ev rfl) (F.ev rfl)) rfl ?_; clear F a; intro a F
      refine rl_nil <| q_tn <| w_cond F rfl ?_ ?_
      ·intro hc
       have h71b := hc; clear hc
       have h71 : ((j : Nat) : Int) < ((Xi : Nat) : Int) := of_decide_eq_true h71b
       refine wp_skip <| q_tn <| wp_seq <| wp_block <| w_reg ?_
       iterate 2 (refine rl_run F (run_move (F.ev rfl)) rfl ?_; clear F a; intro a F)
       obtain ⟨be72, _, Ie72, hme72, _, Ae72, ⟨u1e72, u2e72, u3e72, awe72, mwe72, rfl, hme72⟩⟩ := M.atRow (k := 0) rfl (by decide) Ev hXi
       refine rl_run F (run_indexI tok22.k tok30 (F.ev rfl) (F.ev rfl) (by omega) Ie72) rfl ?_; clear F a; intro a F
       refine rl_run F (run_fieldAddr tok30.k rfl rfl (F.ev rfl)) rfl ?_; clear F a; intro a F
       refine rl_run F (run_load1 (agf tok28 rfl) (F.ev rfl) (cellE Ae72 3 rfl rfl)) rfl ?_; clear F a; intro a F
       refine rl_run F (run_move (F.ev rfl)) rfl ?_; clear F a; intro a F
       obtain ⟨b9, hb9, I9, ⟨old9, hc9⟩, hf9, hM9⟩ := store_w M hme72 (j := j) (by omega)
       refine rl_run F (run_indexI tok28.k tok9 (F.ev rfl) (F.ev rfl) (by omega) I9) rfl ?_; clear F a; intro a F
       refine rl_storeW F tok9 rfl rfl rfl rfl hc9 hf9 hM9 ?_; clear F M hc9 hf9 hM9 a; intro Lx w a hs9 M F
       refine rl_nil <| q_bn <| q_tn <| w_reg <| rl_run F (run_move (F.ev rfl)) rfl ?_; clear F a; intro a F
       refine rl_run F (run_addi (F.ev rfl) (F.ev rfl) (in_i64 (by omega) (by omega))) rfl ?_; clear F a; intro a F
       refine rl_run F (run_assign (F.ev rfl)) rfl ?_; clear F a; intro a F
       refine rl_nil <| q_tn ?_
       exact ⟨_, by omega, j + 1, Lx, csv, rfl, F.to ⟨rfl, rfl, rfl, rfl, rfl, trivial⟩, M, by omega, els_w hs9 Ev⟩
      ·intro hc
       have h73b := hc; clear hc
       have h73 : ¬ (((j : Nat) : Int) < ((Xi : Nat) : Int)) := of_decide_eq_false h73b
       refine wp_exit ?_
       iterate 2 (refine q_te ?_)
       refine q_bh <| q_tn <| w_reg ?_
       iterate 2 (refine rl_run F (run_move (F.ev rfl)) rfl ?_; clear F a; intro a F)
       obtain ⟨be74, _, Ie74, hme74, _, Ae74, ⟨u1e74, u2e74, u3e74, awe74, mwe74, rfl, hme74⟩⟩ := M.atRow (k := 0) rfl (by decide) Ev hXi
       refine rl_run F (run_indexI tok22.k tok30 (F.ev rfl) (F.ev rfl) (by omega) Ie74) rfl ?_; clear F a; intro a F
       refine rl_run F (run_fieldAddr tok30.k rfl rfl (F.ev rfl)) rfl ?_; clear F a; intro a F
       refine rl_storeElF F M tok27 rfl (k := 0) rfl Ev Ie74 hXi (f := 0) (by decide) rfl rfl rfl rfl (X' := Xi) (fun ch _ h => by obtain ⟨u1_, u2_, u3_, a_, m_, rfl, h9⟩ := h; exact ⟨_, u2_, u3_, a_, m_, rfl, h9⟩) ?_; clear F M a; intro csu75 w a M Eu75 F
       refine rl_nil <| q_bn <| q_tn <| w_reg <| rl_run F (run_move (F.ev rfl)) rfl ?_; clear F a; intro a F
       refine rl_run F (run_addi (F.ev rfl) (F.ev rfl) (in_i64 (by omega) (by omega))) rfl ?_; clear F a; intro a F
       refine rl_run F (run_assign (F.ev rfl)) rfl ?_; clear F a; intro a F
       refine rl_nil <| q_tn ?_
       exact ⟨_, by omega, q + 1, Lv, csu75, rfl, F.to ⟨rfl, rfl, rfl, rfl, trivial⟩, M, by omega, by have h_ := Eu75; rwa [set_same hXi] at h_⟩
     ·intro hc
      have h76b := hc; clear hc
      have h76 : ¬ (((q : Nat) : Int) < ((xs.length : Nat) : Int)) := of_decide_eq_false h76b
      refine wp_exit ?_
      iterate 2 (refine q_te ?_)
      refine q_bh <| q_tn <| wp_seq <| w_reg ?_
      iterate 2 (refine rl_run F (run_move (F.ev rfl)) rfl ?_; clear F a; intro a F)
      refine rl_callS F ent14 rfl rfl (rsameall_spec (xs := xs) (ys := xs) M Sq67 S) ?_; clear F M a; rintro _ w a M rfl F
      refine rl_run F (run_eqi (F.ev rfl) (F.ev rfl)) rfl ?_; clear F a; intro a F
      refine rl_run F (run_move (F.ev rfl)) rfl ?_; clear F a; intro a F
      have hg77 : (decide ((if xs = xs then (1 : Int) else 0) = 1)) = true := (decide_eq_true (by (rw [if_pos rfl])))
      refine rl_guard_t F rfl rfl rfl hg77 ?_
      refine rl_callS F ent8 rfl rfl (lives_spec M HG) ?_; clear F M a; rintro _ w a M rfl F
      refine rl_run F (run_pick_t (F.ev rfl) hg77 (F.ev rfl)) rfl ?_; clear F a; intro a F
      refine rl_run F (run_assign (F.ev rfl)) rfl ?_; clear F a; intro a F
      refine rl_nil <| q_tn <| wp_ret <| fin1 F rfl rfl ?_
      exact ⟨_, hGq67, M.weaken (.cons _ (List.sublist_append_right _ _)), rfl⟩
   ·skip
    have h78b := hc; clear hc
    have h78 : ¬ (((i : Nat) : Int) < ((xs.length : Nat) : Int)) := of_decide_eq_false h78b
    iterate 2 (refine rl_guard_f F rfl rfl rfl h78b ?_; clear F a; intro a F)
    refine rl_run F (run_pick_f (F.ev rfl) h78b (F.ev rfl)) rfl ?_; clear F a; intro a F
    refine rl_nil <| q_tn <| w_cond_f F rfl rfl ?_
    refine wp_exit ?_
    iterate 2 (refine q_te ?_)
    refine q_bh <| q_tn <| wp_seq ?_
    obtain ⟨k9, hk9, hT9⟩ := hD.fin (by first | exact Or.inl (by omega) | exact Or.inr (by assumption))
    refine w_reg <| rl_run F (run_move (F.ev rfl)) rfl ?_; clear F a; intro a F
    refine rl_callS F ent20 rfl rfl (twice_spec (xs := xs) M S) ?_; clear F M a; rintro _ w a M ⟨t79, bt79, rfl, ht79⟩ F
    refine rl_run F (run_move (F.ev rfl)) rfl ?_; clear F a; intro a F
    refine rl_run F (run_extract (v := .int .i64 (((t79 : Nat) : Int))) (F.ev rfl) rfl) rfl ?_; clear F a; intro a F
    refine rl_run F (run_extract (v := .bool (bt79)) (F.ev rfl) rfl) rfl ?_; clear F a; intro a F
    iterate 2 (refine rl_run F (run_assign (F.ev rfl)) rfl ?_; clear F a; intro a F)
    refine rl_nil <| q_tn ?_
    iterate 2 (refine wp_seq ?_)
    obtain ⟨q1, q2⟩ := ht79.uniq hT9
    refine w_reg ?_
    iterate 2 (refine rl_run F (run_move (F.ev rfl)) rfl ?_; clear F a; intro a F)
    refine rl_run F (run_nei (F.ev rfl) (F.ev rfl)) rfl ?_; clear F a; intro a F
    refine rl_run F (run_move (F.ev rfl)) rfl ?_; clear F a; intro a F
    have hg80 : (!(decide (((t79 : Nat) : Int) = wt))) = false := (not_f (decide_eq_true (by omega)))
    refine rl_guard_t F rfl rfl rfl hg80 ?_
    refine rl_run F (run_move (F.ev rfl)) rfl ?_; clear F a; intro a F
    refine rl_guard_t F rfl rfl rfl hg80 ?_
    refine rl_run F (run_move (F.ev rfl)) rfl ?_; clear F a; intro a F
    refine rl_guard_t F rfl rfl rfl hg80 ?_
    refine rl_run F (run_neb tok4.k (F.ev rfl) (F.ev rfl)) rfl ?_; clear F a; intro a F
    refine rl_run F (run_pick_f (F.ev rfl) hg80 (F.ev rfl)) rfl ?_; clear F a; intro a F
    refine rl_nil <| q_tn <| w_cond_f F rfl (not_f (by rw [q2]; exact beq_self_eq_true _)) ?_
    refine wp_skip <| q_tn <| wp_seq <| w_reg <| rl_run F (run_move (F.ev rfl)) rfl ?_; clear F a; intro a F
    refine rl_callL F ent21 rfl rfl (copy_own (xs := xs) M S (by omega) (fun x hx => by have h_ := (hFw.1.2 x hx).2.1; omega)) ?_; clear F M a; rintro _ _ w a M ⟨ac, csc, Ls, rfl, rfl, Ec⟩ F
    refine rl_run F (run_move (F.ev rfl)) rfl ?_; clear F a; intro a F
    refine rl_call F ent21 rfl rfl (copy_spec (xs := xs) M S (by omega) (fun x hx => by have h_ := (hFw.1.2 x hx).2.1; omega)) ?_; clear F M a; rintro _ Gq81 w a hGq81 M ⟨aq81, rfl, Sq81⟩ F
    replace S := S.mono mono_rdItem hGq81
    replace T := T.mono mono_rdItem hGq81
    replace HG := HG.mono hGq81
    replace Ec := Ec.mono mono_rdC hGq81
    iterate 2 (refine rl_run F (run_assign (F.ev rfl)) rfl ?_; clear F a; intro a F)
    refine rl_nil <| q_tn ?_
    iterate 2 (refine wp_seq ?_)
    refine w_reg ?_
    iterate 2 (refine rl_run F (run_move (F.ev rfl)) rfl ?_; clear F a; intro a F)
    refine rl_callS F ent14 rfl rfl (rsameall_own (Ls := Ls) M Ec S) ?_; clear F M a; rintro _ w a M rfl F
    refine rl_run F (run_eqi (F.ev rfl) (F.ev rfl)) rfl ?_; clear F a; intro a F
    refine rl_run F (run_move (F.ev rfl)) rfl ?_; clear F a; intro a F
    have hg82 : (decide ((if xs = xs then (1 : Int) else 0) = 0)) = false := (decide_eq_false (by (rw [if_pos rfl]; decide)))
    refine rl_guard_t F rfl rfl rfl hg82 ?_
    refine rl_run F (run_move (F.ev rfl)) rfl ?_; clear F a; intro a F
    refine rl_guard_t F rfl rfl rfl hg82 ?_
    refine rl_run F (run_capSl tok22.k (F.ev rfl)) rfl ?_; clear F a; intro a F
    refine rl_guard_t F rfl rfl rfl hg82 ?_
    refine rl_run F (run_move (F.ev rfl)) rfl ?_; clear F a; intro a F
    refine rl_guard_t F rfl rfl rfl hg82 ?_
    refine rl_run F (run_lenSl tok22.k (F.ev rfl)) rfl ?_; clear F a; intro a F
    refine rl_guard_t F rfl rfl rfl hg82 ?_
    refine rl_run F (run_nei (F.ev rfl) (F.ev rfl)) rfl ?_; clear F a; intro a F
    refine rl_run F (run_pick_f (F.ev rfl) hg82 (F.ev rfl)) rfl ?_; clear F a; intro a F
    refine rl_nil <| q_tn <| w_cond_f F rfl (not_f (decide_eq_true rfl)) ?_
    refine wp_skip <| q_tn ?_
    iterate 2 (refine wp_seq ?_)
    refine w_reg <| rl_run F (run_assign (F.ev rfl)) rfl ?_; clear F a; intro a F
    refine rl_nil <| q_tn <| wp_block ?_
    have Ew0 := els_weak Ec
    have hks := ks9_len xs
    refine w_loopN (fun m a' w' => ∃ (q : Nat), ∃ (Lw : List Res), ∃ (csw : List Value), m = xs.length - q ∧ Fits 170 a' [(0, .slice (a1) (xs.length) (c1)), (13, .slice (ac) (xs.length) (xs.length)), (14, .slice (aq81) (xs.length) (xs.length)), (15, .int .i64 (((q : Nat) : Int)))] ∧ Mem w0 Gq81 (.row (.slice (ac) (xs.length) (xs.length)) (xs.length) (csw) 30 4 :: (Lw ++ L)) w' ∧ (q ≤ xs.length) ∧ (Els (rdW Lw) 4 Gq81 csw (ks9 xs))) _ ⟨0, Ls, csc, rfl, F.to ⟨rfl, rfl, rfl, rfl, trivial⟩, M, by omega, Ew0⟩ ?_
    clear F M
    rintro m a w ⟨q, Lw, csw, rfl, F, M, hq, Ew⟩
    iterate 2 (refine wp_seq ?_)
    refine w_reg ?_
    iterate 2 (refine rl_run F (run_move (F.ev rfl)) rfl ?_; clear F a; intro a F)
    refine rl_run F (run_lenSl tok22.k (F.ev rfl)) rfl ?_; clear F a; intro a F
    refine rl_run F (run_lss (F.ev rfl) (F.ev rfl)) rfl ?_; clear F a; intro a F
    refine rl_nil <| q_tn <| w_cond F rfl ?_ ?_
    ·intro hc
     have h83b := hc; clear hc
     have h83 : ((q : Nat) : Int) < ((xs.length : Nat) : Int) := of_decide_eq_true h83b
     refine wp_skip <| q_tn <| wp_seq <| wp_block ?_
     iterate 2 (refine wp_seq ?_)
     obtain ⟨Xi, hXi⟩ := get_of_lt (xs := ks9 xs) (i := q) (by omega)
     have hX12 := ks9_few hFw.1 hXi
     refine w_reg <| rl_run F (run_assign (F.ev rfl)) rfl ?_; clear F a; intro a F
     refine rl_nil <| q_tn <| wp_block <| w_loopN (fun m a' w' => ∃ (j : Nat), ∃ (Lv : List Res), ∃ (csv : List Value), m = Xi - j ∧ Fits 170 a' [(0, .slice (a1) (xs.length) (c1)), (13, .slice (ac) (xs.length) (xs.length)), (14, .slice (aq81) (xs.length) (xs.length)), (15, .int .i64 (((q : Nat) : Int))), (16, .int .i64 (((j : Nat) : Int)))] ∧ Mem w0 Gq81 (.row (.slice (ac) (xs.length) (xs.length)) (xs.length) (csv) 30 4 :: (Lv ++ L)) w' ∧ (j ≤ Xi) ∧ (Els (rdW Lv) 4 Gq81 csv (ks9 xs))) _ ⟨0, Lw, csw, rfl, F.to ⟨rfl, rfl, rfl, rfl, rfl, trivial⟩, M, by omega, Ew⟩ ?_
     clear F M
     rintro m a w ⟨j, Lv, csv, rfl, F, M, hj, Ev⟩
     iterate 2 (refine wp_seq ?_)
     refine w_reg ?_
     iterate 3 (refine rl_run F (run_move (F.ev rfl)) rfl ?_; clear F a; intro a F)
     obtain ⟨be84, _, Ie84, hme84, _, Ae84, ⟨u1e84, u2e84, u3e84, awe84, mwe84, rfl, hme84⟩⟩ := M.atRow (k := 0) rfl (by decide) Ev hXi
     refine rl_run F (run_indexI tok22.k tok30 (F.ev rfl) (F.ev rfl) (by omega) Ie84) rfl ?_; clear F a; intro a F
     refine rl_run F (run_fieldAddr tok30.k rfl rfl (F.ev rfl)) rfl ?_; clear F a; intro a F
     refine rl_run F (run_load1 (agf tok28 rfl) (F.ev rfl) (cellE Ae84 3 rfl rfl)) rfl ?_; clear F a; intro a F
     refine rl_run F (run_lenSl tok28.k (F.ev rfl)) rfl ?_; clear F a; intro a F
     refine rl_run F (run_lss (F.ev rfl) (F.ev rfl)) rfl ?_; clear F a; intro a F
     refine rl_nil <| q_tn <| w_cond F rfl ?_ ?_
     ·intro hc
      have h85b := hc; clear hc
      have h85 : ((j : Nat) : Int) < ((Xi : Nat) : Int) := of_decide_eq_true h85b
      refine wp_skip <| q_tn <| wp_seq <| wp_block <| w_reg ?_
      iterate 2 (refine rl_run F (run_move (F.ev rfl)) rfl ?_; clear F a; intro a F)
      obtain ⟨be86, _, Ie86, hme86, _, Ae86, ⟨u1e86, u2e86, u3e86, awe86, mwe86, rfl, hme86⟩⟩ := M.atRow (k := 0) rfl (by decide) Ev hXi
      refine rl_run F (run_indexI tok22.k tok30 (F.ev rfl) (F.ev rfl) (by omega) Ie86) rfl ?_; clear F a; intro a F
      refine rl_run F (run_fieldAddr tok30.k rfl rfl (F.ev rfl)) rfl ?_; clear F a; intro a F
      refine rl_run F (run_load1 (agf tok28 rfl) (F.ev rfl) (cellE Ae86 3 rfl rfl)) rfl ?_; clear F a; intro a F
      refine rl_run F (run_move (F.ev rfl)) rfl ?_; clear F a; intro a F
      obtain ⟨b9, hb9, I9, ⟨old9, hc9⟩, hf9, hM9⟩ := store_w M hme86 (j := j) (by omega)
      refine rl_run F (run_indexI tok28.k tok9 (F.ev rfl) (F.ev rfl) (by omega) I9) rfl ?_; clear F a; intro a F
      refine rl_storeW F tok9 rfl rfl rfl rfl hc9 hf9 hM9 ?_; clear F M hc9 hf9 hM9 a; intro Lx w a hs9 M F
      refine rl_nil <| q_bn <| q_tn <| w_reg <| rl_run F (run_move (F.ev rfl)) rfl ?_; clear F a; intro a F
      refine rl_run F (run_addi (F.ev rfl) (F.ev rfl) (in_i64 (by omega) (by omega))) rfl ?_; clear F a; intro a F
      refine rl_run F (run_assign (F.ev rfl)) rfl ?_; clear F a; intro a F
      refine rl_nil <| q_tn ?_
      exact ⟨_, by omega, j + 1, Lx, csv, rfl, F.to ⟨rfl, rfl, rfl, rfl, rfl, trivial⟩, M, by omega, els_w hs9 Ev⟩
     ·intro hc
      have h87b := hc; clear hc
      have h87 : ¬ (((j : Nat) : Int) < ((Xi : Nat) : Int)) := of_decide_eq_false h87b
      refine wp_exit ?_
      iterate 2 (refine q_te ?_)
      refine q_bh <| q_tn <| w_reg ?_
      iterate 2 (refine rl_run F (run_move (F.ev rfl)) rfl ?_; clear F a; intro a F)
      obtain ⟨be88, _, Ie88, hme88, _, Ae88, ⟨u1e88, u2e88, u3e88, awe88, mwe88, rfl, hme88⟩⟩ := M.atRow (k := 0) rfl (by decide) Ev hXi
      refine rl_run F (run_indexI tok22.k tok30 (F.ev rfl) (F.ev rfl) (by omega) Ie88) rfl ?_; clear F a; intro a F
      refine rl_run F (run_fieldAddr tok30.k rfl rfl (F.ev rfl)) rfl ?_; clear F a; intro a F
      refine rl_storeElF F M tok27 rfl (k := 0) rfl Ev Ie88 hXi (f := 0) (by decide) rfl rfl rfl rfl (X' := Xi) (fun ch _ h => by obtain ⟨u1_, u2_, u3_, a_, m_, rfl, h9⟩ := h; exact ⟨_, u2_, u3_, a_, m_, rfl, h9⟩) ?_; clear F M a; intro csu89 w a M Eu89 F
      refine rl_nil <| q_bn <| q_tn <| w_reg <| rl_run F (run_move (F.ev rfl)) rfl ?_; clear F a; intro a F
      refine rl_run F (run_addi (F.ev rfl) (F.ev rfl) (in_i64 (by omega) (by omega))) rfl ?_; clear F a; intro a F
      refine rl_run F (run_assign (F.ev rfl)) rfl ?_; clear F a; intro a F
      refine rl_nil <| q_tn ?_
      exact ⟨_, by omega, q + 1, Lv, csu89, rfl, F.to ⟨rfl, rfl, rfl, rfl, trivial⟩, M, by omega, by have h_ := Eu89; rwa [set_same hXi] at h_⟩
    ·intro hc
     have h90b := hc; clear hc
     have h90 : ¬ (((q : Nat) : Int) < ((xs.length : Nat) : Int)) := of_decide_eq_false h90b
     refine wp_exit ?_
     iterate 2 (refine q_te ?_)
     refine q_bh <| q_tn <| wp_seq <| w_reg ?_
     iterate 2 (refine rl_run F (run_move (F.ev rfl)) rfl ?_; clear F a; intro a F)
     refine rl_callS F ent14 rfl rfl (rsameall_spec (xs := xs) (ys := xs) M Sq81 S) ?_; clear F M a; rintro _ w a M rfl F
     refine rl_run F (run_eqi (F.ev rfl) (F.ev rfl)) rfl ?_; clear F a; intro a F
     refine rl_run F (run_move (F.ev rfl)) rfl ?_; clear F a; intro a F
     have hg91 : (decide ((if xs = xs then (1 : Int) else 0) = 1)) = true := (decide_eq_true (by (rw [if_pos rfl])))
     refine rl_guard_t F rfl rfl rfl hg91 ?_
     refine rl_callS F ent8 rfl rfl (lives_spec M HG) ?_; clear F M a; rintro _ w a M rfl F
     refine rl_run F (run_pick_t (F.ev rfl) hg91 (F.ev rfl)) rfl ?_; clear F a; intro a F
     refine rl_run F (run_assign (F.ev rfl)) rfl ?_; clear F a; intro a F
     refine rl_nil <| q_tn <| wp_ret <| fin1 F rfl rfl ?_
     exact ⟨_, hGq81, M.weaken (.cons _ (List.sublist_append_right _ _)), rfl⟩
theorem same_law {w0 w : World} {G : Ghost} {L : List Res} (M : Mem w0 G L w) (HG : Globs 0 1 2 3 G) {a1 : Option Addr} {c1 : Nat} {xs : List ItemD} (S : RdSl rdItem 4 G (.slice a1 xs.length c1) xs) {a2 : Option Addr} {c2 : Nat} {ys : List ItemD} (T : RdSl rdItem 4 G (.slice a2 ys.length c2) ys) {k : Nat} : Calls Tryd.prog 6 #[.slice a1 xs.length c1, .slice a2 ys.length c2, .int .u64 ((k : Nat) : Int)] w (RetS w0 G L fun v => v = .bool true) := Ret.plain M (same_ret M HG S T)
theorem same_lawI {w0 w : World} {G : Ghost} {L : List Res} (M : Mem w0 G L w) (HG : Globs 0 1 2 3 G) {a1 : Option Addr} {c1 : Nat} {xs : List ItemD} (S : RdSl rdItem 4 G (.slice a1 xs.length c1) xs) {a2 : Option Addr} {c2 : Nat} {ys : List ItemD} (T : RdSl rdItem 4 G (.slice a2 ys.length c2) ys) {k : Int} (hk : 0 ≤ k) : Calls Tryd.prog 6 #[.slice a1 xs.length c1, .slice a2 ys.length c2, .int .u64 k] w (RetS w0 G L fun v => v = .bool true) := by
 obtain ⟨n, rfl⟩ := Int.eq_ofNat_of_zero_le hk
 exact same_law M HG S T
end Go.Proofs.YtmmhmcplegpenaaDoor
