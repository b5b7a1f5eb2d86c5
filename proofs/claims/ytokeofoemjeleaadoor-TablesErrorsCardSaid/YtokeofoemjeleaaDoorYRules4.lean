/- The proof core, rules: slices against nil, interfaces, append that fits, function values called, integers shifted. -/
import Derived.Test.YtokeofoemjeleaaDoorYPlan
namespace Go.Y
open Go Go.RowKit

section
variable {P : Program} {ops : Array Oper} {Q : Exit → Act → World → Prop} {n : Nat} {a : Act} {w w0 : World} {e : Env} {G : Ghost} {L : List Res}
  {d : Nat} {t : TypeId} {p : String} {af : Array Edge} {r : List Oper} {ρ : Operand → Value} {dd : Option Tmp} {g : Option (Nat × Bool)}

theorem run_equalIn_nilS (n : Nat) {ty e : TypeId} {ad : Option Addr} {m c : Nat} (ht : tk P ty = .slice e) : (Op.equalIn (n + 1) ty (.slice ad m c) (.slice none 0 0)).run P w = .ok ad.isNone w := by
  cases ad <;> simp only [Op.equalIn, Sem.run_bind, run_under (under_slice ht), Result.andThen_ok, Sem.run_pure] <;> rfl
theorem run_equal_nilS {ty e : TypeId} {ad : Option Addr} {m c : Nat} (ht : tk P ty = .slice e) : (Op.equal ty (.slice ad m c) (.slice none 0 0)).run P w = .ok ad.isNone w := run_equalIn_nilS 9999 ht
theorem run_eqnilS {x y : Operand} {ty yt : TypeId} {e : TypeId} {ad : Option Addr} {n c : Nat} (ht : tk P ty = .slice e) (hx : ρ x = .slice ad n c) (hy : ρ y = .slice none 0 0) :
    (execOp ρ ⟨dd, .binOp .eql ty x y yt, t, p, af, g⟩).run P w = .ok (.value (.bool ad.isNone)) w := by
  simp [execOp, hx, hy, eqGuard, binOp, run_equal_nilS ht]
theorem run_nenilS {x y : Operand} {ty yt : TypeId} {e : TypeId} {ad : Option Addr} {n c : Nat} (ht : tk P ty = .slice e) (hx : ρ x = .slice ad n c) (hy : ρ y = .slice none 0 0) :
    (execOp ρ ⟨dd, .binOp .neq ty x y yt, t, p, af, g⟩).run P w = .ok (.value (.bool (!ad.isNone))) w := by
  simp [execOp, hx, hy, eqGuard, binOp, run_equal_nilS ht]

theorem run_ifaceS {x : Operand} {ty : TypeId} {e : TypeId} {v : Value} (ht : tk P ty = .slice e) (hx : ρ x = v) :
    (execOp ρ ⟨dd, .makeInterface ty x, t, p, af, g⟩).run P w = .ok (.value (.iface ty v)) w := by
  simp [execOp, hx, Instr.makeInterface, run_under (under_slice ht)]

theorem run_max2N {ats : Array TypeId} {x y : Operand} {k : IntKind} {b c : Nat} (hx : ρ x = .int k (b : Int)) (hy : ρ y = .int k (c : Int)) :
    (execOp ρ ⟨dd, .call ⟨.builtin .max, #[x, y], ats⟩, t, p, af, g⟩).run P w = .ok (.value (.int k ((max b c : Nat) : Int))) w := by
  rw [run_max2 hx hy, show ((max b c : Nat) : Int) = max (b : Int) (c : Int) by omega]
theorem run_min2N {ats : Array TypeId} {x y : Operand} {k : IntKind} {b c : Nat} (hx : ρ x = .int k (b : Int)) (hy : ρ y = .int k (c : Int)) :
    (execOp ρ ⟨dd, .call ⟨.builtin .min, #[x, y], ats⟩, t, p, af, g⟩).run P w = .ok (.value (.int k ((min b c : Nat) : Int))) w := by
  rw [run_min2 hx hy, show ((min b c : Nat) : Int) = min (b : Int) (c : Int) by omega]

theorem Mem.row_none (M : Mem w0 G L w) {k n c : Nat} {ad : Option Addr} {cs : List Value} {t : TypeId} {sz : Nat} (hk : L[k]? = some (.row (.slice ad n c) n cs t sz)) (h : ad.isNone = true) :
    ad = none ∧ n = 0 ∧ c = 0 ∧ cs = [] := by
  obtain ⟨⟨hl, h2⟩, _⟩ := M.row_at hk
  rcases h2 with ⟨h3, h0⟩ | ⟨g, cap, cur, he, _⟩
  · simp only [Value.slice.injEq] at h3
    refine ⟨h3.1, h0, h3.2.2, ?_⟩
    rw [h0, Nat.zero_mul] at hl
    exact List.eq_nil_of_length_eq_zero hl
  · simp only [Value.slice.injEq] at he
    rw [he.1] at h; simp at h

/-- append of an owned row to another that has room. -/
theorem rl_append_fits {s et : TypeId} {i : TI} {x y : Operand} {u : Value} {k k2 m m2 c b sz : Nat} {cs cs2 : List Value}
    (F : Fits n a e) (M : Mem w0 G L w) (hk : L[k]? = some (.row (.slice (some ⟨b, 0, none⟩) m c) m cs et sz)) (hk2 : L[k2]? = some (.row u m2 cs2 et sz)) (hs : tk P s = .slice et) (ht : TOK P et i) (hsz : i.size = sz)
    (hx : ev e x = some (.slice (some ⟨b, 0, none⟩) m c)) (hy : ev e y = some u) (hroom : m + m2 ≤ c) (hd : Nat.ble (d + 1) n = true)
    (kk : ∀ w' a', Mem w0 G (L.set k (.row (.slice (some ⟨b, 0, none⟩) (m + m2) c) (m + m2) (cs ++ cs2) et sz)) w' → Fits n a' ((d, .slice (some ⟨b, 0, none⟩) (m + m2) c) :: e) → rl P ops Q r a' w') :
    rl P ops Q (⟨some d, .call ⟨.builtin .append, #[x, y], #[s, s]⟩, t, p, af, none⟩ :: r) a w := by
  subst hsz
  obtain ⟨ho, h1⟩ := M.row_at hk2
  obtain ⟨hi, h1'⟩ := M.row_at hk
  rcases ho.2 with ⟨rfl, rfl⟩ | ⟨g, cap, cur, rfl, hbg, hgg, hnc, hcm, hcs, htake⟩
  · have h0 : cs2 = [] := List.eq_nil_of_length_eq_zero (by simpa using ho.1)
    subst h0
    have hr := M.append_none (P := P) (t := s) (ty := t) hk hs ht
    refine rl_run F (run_append_op (F.ev hx) (F.ev hy) hr) hd fun a' F' => kk w a' ?_ F'
    have hset : L.set k (.row (.slice (some ⟨b, 0, none⟩) (m + 0) c) (m + 0) (cs ++ []) et i.size) = L := by
      simp only [Nat.add_zero, List.append_nil]
      exact set_self hk
    rw [hset]; exact M
  · obtain ⟨y1, hy1, hy2, hy3, hy4⟩ := ht.info
    obtain ⟨w', hr, ho', hg⟩ := run_append_fits (P := P) w 0 s t et y1 i.size (under_slice hs) hy1 hy2 b m c cs hi ⟨g, 0, none⟩ m2 cap cs2 ho.1 (ho.cells (g := g) rfl) h1 hroom
    refine rl_run F (run_append_op (F.ev hx) (F.ev hy) hr) hd fun a' F' => kk w' a' ?_ F'
    refine M.grow_at hk (fun q hq => Or.inl hq) ⟨ho', fun v hv => ?_⟩ hg.os hg.tape hg.output hg.size (fun q hq hne => hg.block q hq (fun e => hne e.symm))
    rcases List.mem_append.1 hv with hv | hv
    · exact h1' v hv
    · exact h1 v hv

theorem rl_callvL {f : FuncId} {cal : Operand} {args : List Operand} {ats : Array TypeId} {vs caps : List Value} {Φ : List Res → Value → Prop}
    (F : Fits n a e) (hE : Ent P f) (hc : ev e cal = some (.func (.func f) #[] caps.toArray)) (hv : evs e args = some vs) (hd : Nat.ble (d + 1) n = true) (hs : Calls P f (vs ++ caps).toArray w (RetL w0 G Φ))
    (k : ∀ v L' w' a', Mem w0 G L' w' → Φ L' v → Fits n a' ((d, v) :: e) → rl P ops Q r a' w') :
    rl P ops Q (⟨some d, .call ⟨.value cal, args.toArray, ats⟩, t, p, af, none⟩ :: r) a w := by
  refine rl_callv F hE hc hv hd hs fun x w' hx => ?_
  cases x with
  | returned v => obtain ⟨L', h1, h2⟩ := hx; exact ⟨v, rfl, fun a' F' => k v L' w' a' h1 h2 F'⟩
  | panicked c => exact hx.elim
  | outgrown => exact hx.elim
end

/-- Two sorted lists of the same elements are one. -/
theorem sorted_eq : ∀ (l l' : List Int), l.Perm l' → l.Pairwise (· ≤ ·) → l'.Pairwise (· ≤ ·) → l = l'
  | [], l', h, _, _ => by rw [List.nil_perm.1 h]
  | x :: l, [], h, _, _ => by simp at h
  | x :: l, y :: l', h, h1, h2 => by
    have e : x = y := by
      have hx : x ∈ y :: l' := h.subset (by simp)
      have hy : y ∈ x :: l := h.symm.subset (by simp)
      rcases List.mem_cons.1 hx with e | hx
      · exact e
      · rcases List.mem_cons.1 hy with e | hy
        · exact e.symm
        · have a := (List.pairwise_cons.1 h1).1 y hy
          have b := (List.pairwise_cons.1 h2).1 x hx
          omega
    subst e
    rw [sorted_eq l l' (List.Perm.cons_inv h) (List.pairwise_cons.1 h1).2 (List.pairwise_cons.1 h2).2]
end Go.Y
