/- The walks, part P. -/
import Derived.Test.YtmmhmcplegpenaaDoorWalkN
namespace Go.Proofs.YtmmhmcplegpenaaDoor
open Go Go.Y Go.Proofs
set_option linter.unusedSimpArgs false
set_option linter.unusedVariables false
theorem itoa_nn {n : Int} (h : 0 ≤ n) : Lib.itoa n = Lib.decDigits n.toNat := by unfold Lib.itoa; rw [if_neg (by omega)]
theorem pub8_le {s : List UInt8} {u : Nat} (h : Lib.parseUintB 8 s = .ok u) : u ≤ 255 := by
 have key : ∀ (l : List UInt8) (acc : Nat), acc ≤ 255 → Lib.parseUintM (2 ^ 8 - 1) acc l = .ok u → u ≤ 255 := by
  intro l
  induction l with
  | nil => intro acc h1 h2; simp only [Lib.parseUintM, Lib.NumEnd.ok.injEq] at h2; omega
  | cons c r ih =>
   intro acc h1 h2
   unfold Lib.parseUintM at h2
   split at h2
   ·split at h2
    ·cases h2
    ·split at h2
     ·cases h2
     ·exact ih _ (by omega) h2
   ·cases h2
 unfold Lib.parseUintB at h
 split at h
 ·cases h
 ·exact key s 0 (by omega) h
theorem iitoa_spec {w0 w : World} {G : Ghost} {L : List Res} (M : Mem w0 G L w) (HG : Globs 0 1 2 3 G) {u : Nat} (hu : u < 9223372036854775808) : Calls Tryd.prog 61 #[.int .i64 ((u : Nat) : Int)] w (RetS w0 G L fun v => v = .string (str (Lib.decDigits u))) := by
 refine calls_start (vs := [_]) Tryd.func61 rfl (n := 5) rfl rfl ?_
 intro a F
 refine wp_seq <| w_reg <| rl_run F (run_assign (F.ev rfl)) rfl ?_; clear F a; intro a F
 refine rl_nil <| q_tn <| wp_seq <| w_reg <| rl_run F (run_move (F.ev rfl)) rfl ?_; clear F a; intro a F
 refine rl_callS F ent71 rfl rfl (ifi_spec (n := ((u : Nat) : Int)) M HG (by first | assumption | exact ⟨by decide, by decide⟩ | exact wrap_ink _ _ | exact in_i64 (by omega) (by omega))) ?_; clear F M a; rintro _ w a M rfl F
 refine rl_run F (run_assign (F.ev rfl)) rfl ?_; clear F a; intro a F
 refine rl_nil <| q_tn <| wp_ret <| fin1 F rfl rfl ?_
 exact ⟨M, by rw [itoa_nn (by omega), Int.toNat_natCast]⟩
theorem itoa_spec {w0 w : World} {G : Ghost} {L : List Res} (M : Mem w0 G L w) (HG : Globs 0 1 2 3 G) {u : Nat} (hu : u < 9223372036854775808) : Calls Tryd.prog 51 #[.int .i64 ((u : Nat) : Int)] w (RetS w0 G L fun v => v = .string (str (Lib.decDigits u))) := by
 refine calls_start (vs := [_]) Tryd.func51 rfl (n := 5) rfl rfl ?_
 intro a F
 refine wp_seq <| w_reg <| rl_run F (run_assign (F.ev rfl)) rfl ?_; clear F a; intro a F
 refine rl_nil <| q_tn <| wp_seq <| w_reg <| rl_run F (run_move (F.ev rfl)) rfl ?_; clear F a; intro a F
 refine rl_callS F ent61 rfl rfl (iitoa_spec (u := u) M HG (by omega)) ?_; clear F M a; rintro _ w a M rfl F
 refine rl_run F (run_assign (F.ev rfl)) rfl ?_; clear F a; intro a F
 refine rl_nil <| q_tn <| wp_ret <| fin1 F rfl rfl ?_
 exact ⟨M, rfl⟩
theorem pu64_spec {w0 w : World} {G : Ghost} {L : List Res} (M : Mem w0 G L w) (HG : Globs 0 1 2 3 G) {s : List UInt8} (hs : s.length ≤ 281474976710656) :
  Calls Tryd.prog 54 #[.string (str s), .int .i64 10, .int .i64 64] w (RetS w0 G L fun v => ∃ (u : Nat) (er : Value), v = .tuple #[.int .u64 (u : Int), er] ∧ (er = .nilIface ∨ ∃ te pe, er = .iface te pe) ∧ NumR 18446744073709551616 s u (isNilI er)) := by
 refine (puint_spec M HG hs).mono ?_
 rintro e w' h
 cases e with
 | returned v =>
  obtain ⟨M', u, er, h1, h2, h3, h4⟩ := h
  refine ⟨M', u, er, h1, h3, by omega, fun m hm he => ?_⟩
  subst he
  have h5 := pub_dec (B := 64) (by decide) (u := m) hm
  rcases h4 with ⟨h6, h7⟩ | ⟨h6, _⟩
  ·rw [h5] at h6; simp only [Lib.NumEnd.ok.injEq] at h6; exact ⟨h7, h6.symm⟩
  ·exact absurd h5 (h6 m)
 | panicked c => exact h.elim
 | outgrown => exact h.elim
theorem pu8_spec {w0 w : World} {G : Ghost} {L : List Res} (M : Mem w0 G L w) (HG : Globs 0 1 2 3 G) {s : List UInt8} (hs : s.length ≤ 281474976710656) :
  Calls Tryd.prog 54 #[.string (str s), .int .i64 10, .int .i64 8] w (RetS w0 G L fun v => ∃ (u : Nat) (er : Value), v = .tuple #[.int .u64 (u : Int), er] ∧ (er = .nilIface ∨ ∃ te pe, er = .iface te pe) ∧ NumR 256 s u (isNilI er)) := by
 have hd : (str s).data.toList = s := str_data s
 have no : ∀ {b : Bool} {u : Nat}, u < 256 → (∀ m, m < 256 → Lib.parseUintB 8 s ≠ .ok m) → NumR 256 s u b := fun hu h => ⟨hu, fun m hm he => absurd (by rw [he]; exact pub_dec (B := 8) (by decide) hm) (h m hm)⟩
 cases h : Lib.parseUintB 8 s with
 | ok u =>
  refine (Any.strconv_ParseUint_10_at8_ok Tryd.laysPu14 (str s) (by rw [str_size]; omega) u (by rw [hd]; exact h) w).mono ?_
  rintro e w' ⟨rfl, hw⟩
  refine ⟨?_, u, _, rfl, Or.inl rfl, by have := pub8_le h; omega, fun m hm he => ?_⟩
  ·rcases hw with rfl | rfl
   ·exact M
   ·exact M.bytesWorld _ _
  ·subst he
   rw [pub_dec (B := 8) (by decide) hm] at h
   simp only [Lib.NumEnd.ok.injEq] at h
   exact ⟨rfl, h.symm⟩
 | range =>
  obtain ⟨ev, h1, h2⟩ := HG.rng
  refine (Any.strconv_ParseUint_10_at8_range Tryd.laysPu14 (str s) (by rw [str_size]; omega) (by rw [hd]; exact h) ev w (M.cell h1) h2).mono ?_
  rintro e w' ⟨N, rfl, _, _, hb⟩
  exact ⟨M.below' hb, 255, _, rfl, Or.inr ⟨_, _, rfl⟩, no (by omega) (fun m _ hx => by rw [h] at hx; cases hx)⟩
 | _ =>
  obtain ⟨ev, h1, h2⟩ := HG.syn
  refine (Any.strconv_ParseUint_10_at8_syntax Tryd.laysPu14 (str s) (by rw [str_size]; omega) (by rw [hd]; exact h) ev w (M.cell h1) h2).mono ?_
  rintro e w' ⟨N, rfl, _, _, hb⟩
  exact ⟨M.below' hb, 0, _, rfl, Or.inr ⟨_, _, rfl⟩, no (by omega) (fun m _ hx => by rw [h] at hx; cases hx)⟩
theorem join_spec {w0 w : World} {G : Ghost} {L : List Res} (M : Mem w0 G L w) {ad : Option Addr} {cd : Nat} {xs : List (List UInt8)} (S : RdSl rdStr 1 G (.slice ad xs.length cd) xs) (hN : xs.length ≤ 140737488355328) (hlen : (Lib.join xs [44]).length ≤ 140737488355328) :
  Calls Tryd.prog 49 #[.slice ad xs.length cd, .string (str [44])] w (RetS w0 G L fun v => v = .string (str (Lib.join xs [44]))) := by
 by_cases h0 : xs = []
 ·subst h0
  refine (Any.strings_Join_none Tryd.lays156 Tryd.Builder_Extra_156 ad cd (str [44]) w).mono ?_
  rintro e w' ⟨rfl, rfl⟩
  exact ⟨M, rfl⟩
 ·obtain ⟨x0, hx0⟩ := get_of_lt (xs := xs) (i := 0) (List.length_pos_iff.2 h0)
  obtain ⟨b, o, _, rfl, _, _, _, _⟩ := S.index hx0
  obtain ⟨_, _, he, hcap, _⟩ := S.shape
  simp only [Value.slice.injEq] at he
  obtain ⟨_, _, rfl⟩ := he
  have hcell : ∀ (j : Nat) (x : List UInt8), xs[j]? = some x → w.cell? ⟨b, o + j, none⟩ = some (.string (str x)) := by
   intro j x hx
   obtain ⟨b', o', cs, h1, _, _, hA, hr, _⟩ := S.index hx
   simp only [Option.some.injEq, Addr.mk.injEq, and_true] at h1
   obtain ⟨rfl, rfl⟩ := h1
   subst hr
   have := hA 0 _ rfl
   rw [Nat.mul_one, Nat.add_zero] at this
   exact M.cell this
  have hm : (xs.map str).map (·.data.toList) = xs := by
   rw [List.map_map]
   conv => rhs; rw [← List.map_id xs]
   exact List.map_congr_left fun x _ => str_data x
  have := Any.strings_Join Tryd.lays156 Tryd.Builder_Extra_156 b o cd (xs.map str) (str [44]) w (by
   intro j x hx
   rw [List.getElem?_map] at hx
   cases hq : xs[j]? with
   | none => rw [hq] at hx; cases hx
   | some y => rw [hq] at hx; simp only [Option.map_some, Option.some.injEq] at hx; subst hx; exact hcell j y hq)
   (World.block_lt_of_cell? _ _ (hcell 0 x0 hx0)) (by rw [List.length_map]; exact hN) (by rw [List.length_map]; exact hcap) (by rw [hm, str_data]; exact hlen)
  rw [List.length_map, hm, str_data] at this
  refine this.mono ?_
  rintro e w' ⟨rfl, hb⟩
  exact ⟨M.below' hb, rfl⟩
theorem els_strs {G : Ghost} : ∀ (xs : List (List UInt8)), (∀ x ∈ xs, x.length ≤ 9223372036854775807) → Els rdStr 1 G (xs.map fun x => Value.string (str x)) xs
 | [], _ => rfl
 | x :: xs, h => ⟨[.string (str x)], _, rfl, rfl, ⟨rfl, h x (by simp)⟩, els_strs xs (fun y hy => h y (by simp [hy]))⟩
theorem splitB_F (s : List UInt8) : (Lib.splitB (str [44]) 0 (Lib.countB (str s) (str [44])) (str s)).map Value.string = (splitF s).map (fun x => Value.string (str x)) := by
 have h := Lib.splitB_data (str [44]) 0 (Lib.countB (str s) (str [44])) (str s)
 rw [str_data, str_data] at h
 have h2 : Lib.countB (str s) (str [44]) = Lib.count s [44] := by
  show Lib.count (str s).data.toList (str [44]).data.toList = _
  rw [str_data, str_data]
 rw [h2] at h ⊢
 show _ = (Lib.splitK [44] 0 (Lib.count s [44]) s).map _
 rw [← h, List.map_map]
 exact List.map_congr_left fun x _ => rfl
theorem split_spec {w0 w : World} {G : Ghost} {L : List Res} (M : Mem w0 G L w) (HG : Globs 0 1 2 3 G) {s : List UInt8} (hs : s.length < 4294967281) :
  Calls Tryd.prog 55 #[.string (str s), .string (str [44])] w (Ret w0 G L fun G' v => ∃ a : Option Addr, v = .slice a (splitF s).length (splitF s).length ∧ RdSl rdStr 1 G' (.slice a (splitF s).length (splitF s).length) (splitF s)) := by
 obtain ⟨m, hm⟩ := HG.max
 refine (Any.strings_Split Tryd.lays146 (by kernel_rfl) (str s) (str [44]) m w (by rw [str_size]; exact hs) (M.cell hm) (by rw [str_size]; decide)).mono ?_
 rintro e w' ⟨rfl, rfl⟩
 have hl : (splitF s).length = Lib.countB (str s) (str [44]) + 1 := by
  have h1 := Lib.splitB_all (str [44]) (by rw [str_size]; decide) 0 _ (str s) rfl
  rw [← h1, ← List.length_map (f := Value.string), splitB_F, List.length_map]
 rw [splitB_F, ← hl]
 have hcb := Lib.countB_le (str [44]) (by rw [str_size]; decide) (str s).size (str s) (Nat.le_refl _)
 rw [str_size] at hcb
 have hle : (splitF s).length ≤ 4294967281 := by omega
 have M1 := M.newrow (t := Tryd.lays146_ren.t 9) (sz := 1) (n := (splitF s).length) (c := (splitF s).length) (cs := (splitF s).map fun x => Value.string (str x)) (spare := [])
  (by intro u hu; obtain ⟨x, _, rfl⟩ := List.mem_map.1 hu; rfl) (by simp) (by simp) (Nat.le_refl _) (by unfold maxLen; omega)
 rw [List.append_nil] at M1
 obtain ⟨_, G', a, c, hG, he, S, M2⟩ := M1.freeze_row mono_rdStr (k := 0) rfl (els_strs (splitF s) (fun x hx => by have := splitF_len hx; omega)) (by decide)
 exact ⟨G', hG, M2, _, rfl, S⟩
end Go.Proofs.YtmmhmcplegpenaaDoor
