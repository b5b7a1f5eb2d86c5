/- The walks, part R. -/
import Derived.Test.YtlnehkjmmegkhaaGreatWalkQ
import Derived.Test.YtlnehkjmmegkhaaGreatDcd
namespace Go.Proofs.YtlnehkjmmegkhaaGreat
open Go Go.Y Go.Proofs
set_option linter.unusedSimpArgs false
set_option linter.unusedVariables false
section
variable {P : Program} {w : World} {ρ : Operand → Value} {dd : Option Tmp} {t : TypeId} {p : String} {af : Array Edge} {g : Option (Nat × Bool)}
theorem run_equal3b {ty tb : TypeId} {a1 a2 a3 b1 b2 b3 : Bool} (hst : P.stoodInHeld ty = false) (hty : P.underlying ty = some (.struct (P.fieldsOf ty)))
    (hf : (P.fieldsOf ty).toList.map (fun f => (f.name == "_", f.type, f.offset)) = [(false, tb, 0), (false, tb, 1), (false, tb, 2)]) (h1 : tk P tb = .bool) :
    (Op.equalIn 10000 ty (.agg #[.bool a1, .bool a2, .bool a3]) (.agg #[.bool b1, .bool b2, .bool b3])).run P w = .ok (a1 == b1 && (a2 == b2 && a3 == b3)) w := by
  rw [run_equalIn_struct w 9999 ty _ _ hty hst]
  generalize hfs : (P.fieldsOf ty).toList = fs at hf
  obtain ⟨f, f', f'', rfl⟩ : ∃ f f' f'', fs = [f, f', f''] := by
    have hl := congrArg List.length hf
    simp only [List.length_map, List.length_cons, List.length_nil] at hl
    match fs, hl with
    | [f, f', f''], _ => exact ⟨f, f', f'', rfl⟩
  simp only [List.map_cons, List.map_nil, List.cons.injEq, Prod.mk.injEq, and_true] at hf
  obtain ⟨⟨hn, ht, ho⟩, ⟨hn', ht', ho'⟩, hn'', ht'', ho''⟩ := hf
  have e1 : f.name ≠ "_" := by simpa using hn
  have e2 : f'.name ≠ "_" := by simpa using hn'
  have e3 : f''.name ≠ "_" := by simpa using hn''
  have p1 : ∀ (w : World) (x y z : Bool), (part f.type #[.bool x, .bool y, .bool z] f.offset).run P w = .ok (.bool x) w := fun w x y z => run_part1 (by rw [ht, h1]; rfl) (by rw [ho]; rfl)
  have p2 : ∀ (w : World) (x y z : Bool), (part f'.type #[.bool x, .bool y, .bool z] f'.offset).run P w = .ok (.bool y) w := fun w x y z => run_part1 (by rw [ht', h1]; rfl) (by rw [ho']; rfl)
  have p3 : ∀ (w : World) (x y z : Bool), (part f''.type #[.bool x, .bool y, .bool z] f''.offset).run P w = .ok (.bool z) w := fun w x y z => run_part1 (by rw [ht'', h1]; rfl) (by rw [ho'']; rfl)
  have q1 : (Op.equalIn 9999 f.type (.bool a1) (.bool b1)).run P w = .ok (a1 == b1) w := Go.Y.run_equalIn_bool 9998 (by rw [ht, h1])
  have q2 : (Op.equalIn 9999 f'.type (.bool a2) (.bool b2)).run P w = .ok (a2 == b2) w := Go.Y.run_equalIn_bool 9998 (by rw [ht', h1])
  have q3 : (Op.equalIn 9999 f''.type (.bool a3) (.bool b3)).run P w = .ok (a3 == b3) w := Go.Y.run_equalIn_bool 9998 (by rw [ht'', h1])
  generalize (a1 == b1) = c1 at q1 ⊢
  generalize (a2 == b2) = c2 at q2 ⊢
  generalize (a3 == b3) = c3 at q3 ⊢
  cases c1 <;> cases c2 <;> cases c3 <;>
    simp only [Op.eqFields, ne_eq, e1, e2, e3, not_false_eq_true, if_true, Sem.run_bind, p1, p2, p3, Result.andThen_ok, q1, q2, q3, Bool.not_true, Bool.not_false, Bool.false_eq_true, if_false, Sem.run_pure, Bool.and_true, Bool.and_false, Bool.true_and, Bool.false_and]
theorem run_ne3b {ty yt tb : TypeId} {x y : Operand} {a1 a2 a3 b1 b2 b3 : Bool} (hg : P.eqGuardType P.depth ty = false) (hst : P.stoodInHeld ty = false) (hty : P.underlying ty = some (.struct (P.fieldsOf ty)))
    (hf : (P.fieldsOf ty).toList.map (fun f => (f.name == "_", f.type, f.offset)) = [(false, tb, 0), (false, tb, 1), (false, tb, 2)]) (h1 : tk P tb = .bool)
    (hx : ρ x = .agg #[.bool a1, .bool a2, .bool a3]) (hy : ρ y = .agg #[.bool b1, .bool b2, .bool b3]) :
    (execOp ρ ⟨dd, .binOp .neq ty x y yt, t, p, af, g⟩).run P w = .ok (.value (.bool (!(a1 == b1 && (a2 == b2 && a3 == b3))))) w := by
  have h0 := run_eqGuard_agg (P := P) w .neq ty x y #[.bool a1, .bool a2, .bool a3] #[.bool b1, .bool b2, .bool b3] hg
  have h3 := run_neq_struct (P := P) w ty #[.bool a1, .bool a2, .bool a3] #[.bool b1, .bool b2, .bool b3]
  rw [run_equal3b hst hty hf h1] at h3
  simp only [execOp, hx, hy, Sem.run_bind, h0, Result.andThen_ok, h3, Sem.run_pure]
end
theorem trender_at {w0 w : World} {G : Ghost} {L : List Res} (M : Mem w0 G L w) {p : PT} {tap : Option Addr} {tcp : Nat} {kap : Option Addr} {kcp : Nat} (hkp : inKind .u8 p.kind) (hlp : (p.tag.length ≤ 9223372036854775807 ∧ p.key.length ≤ 9223372036854775807 ∧ p.text.length ≤ 9223372036854775807)) (SAp : RdSl rdSlot 3 G (.slice tap p.as.length tcp) p.as) (SKp : RdSl rdP 6 G (.slice kap p.kids.length kcp) p.kids) {x : ItemD} {ma : Option Addr} {mc : Nat} (ht : x.text.length ≤ 9223372036854775807) (SM : RdSl rdStr 1 G (.slice ma x.marks.length mc) x.marks) (hik : inKind .u64 x.key) {most e : Int} {nn : NT} (hE : rendE p x most = e) (hN : rendN p x most = nn) : Calls Tryz.prog 22 #[.agg #[.int .u8 (p.kind), .string (str (p.tag)), .string (str (p.key)), .slice (tap) (p.as.length) (tcp), .string (str (p.text)), .slice (kap) (p.kids.length) (kcp)], .agg #[.int .u64 (x.key), .int .u8 (x.typ), .string (str (x.text)), .slice (ma) (x.marks.length) (mc)], .int .i64 most] w (Ret w0 G L fun G' v => ∃ a1 c1 a2 c2, v = .tuple #[.agg #[.int .u8 nn.kind, .string (str nn.tag), .string (str nn.key), .slice a1 nn.as.length c1, .string (str nn.text), .slice a2 nn.kids.length c2], .int .i64 e] ∧ inKind .u8 nn.kind ∧ (nn.tag.length ≤ 9223372036854775807 ∧ nn.key.length ≤ 9223372036854775807 ∧ nn.text.length ≤ 9223372036854775807) ∧ RdSl rdAttr 2 G' (.slice a1 nn.as.length c1) nn.as ∧ RdSl rdN 6 G' (.slice a2 nn.kids.length c2) nn.kids) := by
  subst hE hN
  refine (trender_spec M hkp hlp SAp SKp ht SM hik (most := most)).mono fun q w' h => ?_
  cases q with
  | returned v => obtain ⟨G', h1, h2, a1, a2, rfl, h3, h4⟩ := h; exact ⟨G', h1, h2, a1, _, a2, _, rfl, rendN_kind hkp, rendN_len hlp, h3, weakN h4⟩
  | panicked c => exact h.elim
  | outgrown => exact h.elim
theorem ex_spec {w0 w : World} {G : Ghost} {L : List Res} (M : Mem w0 G L w) : Calls Tryz.prog 70 #[] w (Ret w0 G L fun G' v => ∃ (ta ka : Option Addr) (tc kc : Nat), v = .agg #[.int .u8 (exT.kind), .string (str (exT.tag)), .string (str (exT.key)), .slice (ta) (exT.as.length) (tc), .string (str (exT.text)), .slice (ka) (exT.kids.length) (kc)] ∧ RdSl rdSlot 3 G' (.slice ta exT.as.length tc) exT.as ∧ RdSl rdP 6 G' (.slice ka exT.kids.length kc) exT.kids) := by
  refine calls_start (vs := []) Tryz.func70 rfl (n := 9) rfl rfl ?_
  intro a F
  refine wp_seq <| w_reg <| rl_alloc F M tok46 rfl rfl ?_; clear F M a; intro b1 w a M F
  refine rl_nil <| q_tn <| wp_seq <| w_reg <| rl_run F (run_buildS (cs := [.string (str ([105, 100] : List UInt8)), .int .u8 (2), .string (str ([] : List UInt8))]) (ps := [(0, .string (str ([105, 100] : List UInt8))), (1, .int .u8 (2))]) tok76.k rfl tok76 (F.evp rfl) rfl) rfl ?_; clear F a; intro a F
  refine rl_buildSlice1 F M tok43.k tok76 rfl rfl (cs := [.string (str ([105, 100] : List UInt8)), .int .u8 (2), .string (str ([] : List UInt8))]) rfl rfl (by simp [Value.oneCell']) (by decide) rfl ?_; clear F M a; intro v3 w a M F
  obtain ⟨av3, cv3, rfl, hlev3, hcmv3, hlv3⟩ := M.row_shape (k := 0) rfl
  have E4 : Els rdSlot 3 G [.string (str ([105, 100] : List UInt8)), .int .u8 (2), .string (str ([] : List UInt8))] [(⟨[105, 100], 2, []⟩ : SlotD)] := Els.one ⟨rfl, by decide, ⟨by decide, by decide⟩, by decide⟩ rfl
  obtain ⟨hnz5, Gz5, az5, cz5, hGz5, hez5, Sz5, M⟩ := M.freeze_row mono_rdSlot (k := 0) rfl E4 (by decide)
  clear hez5 az5 cz5
  clear hnz5
  refine rl_run F (run_buildS (cs := [.int .u8 (3), .string (str ([] : List UInt8)), .string (str ([] : List UInt8)), .slice none (0) (0), .string (str ([] : List UInt8)), .slice none (0) (0)]) (ps := [(0, .int .u8 (3))]) tok46.k rfl tok46 (F.evp rfl) rfl) rfl ?_; clear F a; intro a F
  refine rl_run F (run_buildS (cs := [.string (str ([110] : List UInt8)), .int .u8 (3), .string (str ([] : List UInt8))]) (ps := [(0, .string (str ([110] : List UInt8))), (1, .int .u8 (3))]) tok76.k rfl tok76 (F.evp rfl) rfl) rfl ?_; clear F a; intro a F
  refine rl_buildSlice1 F M tok43.k tok76 rfl rfl (cs := [.string (str ([110] : List UInt8)), .int .u8 (3), .string (str ([] : List UInt8))]) rfl rfl (by simp [Value.oneCell']) (by decide) rfl ?_; clear F M a; intro v6 w a M F
  obtain ⟨av6, cv6, rfl, hlev6, hcmv6, hlv6⟩ := M.row_shape (k := 0) rfl
  have E7 : Els rdSlot 3 Gz5 [.string (str ([110] : List UInt8)), .int .u8 (3), .string (str ([] : List UInt8))] [(⟨[110], 3, []⟩ : SlotD)] := Els.one ⟨rfl, by decide, ⟨by decide, by decide⟩, by decide⟩ rfl
  obtain ⟨hnz8, Gz8, az8, cz8, hGz8, hez8, Sz8, M⟩ := M.freeze_row mono_rdSlot (k := 0) rfl E7 (by decide)
  clear hez8 az8 cz8
  replace Sz5 := Sz5.mono mono_rdSlot hGz8
  clear hnz8
  refine rl_run F (run_buildS (cs := [.int .u8 (5), .string (str ([98] : List UInt8)), .string (str ([] : List UInt8)), .slice (av6) (1) (cv6), .string (str ([] : List UInt8)), .slice none (0) (0)]) (ps := [(0, .int .u8 (5)), (1, .string (str ([98] : List UInt8))), (3, .slice (av6) (1) (cv6))]) tok46.k rfl tok46 (F.evp rfl) rfl) rfl ?_; clear F a; intro a F
  refine rl_buildSliceN F M tok44.k tok46 (ps := [(0, .agg #[.int .u8 (3), .string (str ([] : List UInt8)), .string (str ([] : List UInt8)), .slice none (0) (0), .string (str ([] : List UInt8)), .slice none (0) (0)]), (1, .agg #[.int .u8 (5), .string (str ([98] : List UInt8)), .string (str ([] : List UInt8)), .slice (av6) (1) (cv6), .string (str ([] : List UInt8)), .slice none (0) (0)])]) (cs := [[.int .u8 (3), .string (str ([] : List UInt8)), .string (str ([] : List UInt8)), .slice none (0) (0), .string (str ([] : List UInt8)), .slice none (0) (0)], [.int .u8 (5), .string (str ([98] : List UInt8)), .string (str ([] : List UInt8)), .slice (av6) (1) (cv6), .string (str ([] : List UInt8)), .slice none (0) (0)]]) (fl := [.int .u8 (3), .string (str ([] : List UInt8)), .string (str ([] : List UInt8)), .slice none (0) (0), .string (str ([] : List UInt8)), .slice none (0) (0), .int .u8 (5), .string (str ([98] : List UInt8)), .string (str ([] : List UInt8)), .slice (av6) (1) (cv6), .string (str ([] : List UInt8)), .slice none (0) (0)]) rfl rfl (by simp [Parts, Value.cells]) (by simp [ti46]) rfl (by simp [Value.oneCell']) (by decide) (by decide) rfl ?_; clear F M a; intro v9 w a M F
  obtain ⟨av9, cv9, rfl, hlev9, hcmv9, hlv9⟩ := M.row_shape (k := 0) rfl
  have EX : Els rdP 6 Gz8 [.int .u8 (3), .string (str ([] : List UInt8)), .string (str ([] : List UInt8)), .slice none (0) (0), .string (str ([] : List UInt8)), .slice none (0) (0), .int .u8 (5), .string (str ([98] : List UInt8)), .string (str ([] : List UInt8)), .slice (av6) (1) (cv6), .string (str ([] : List UInt8)), .slice none (0) (0)] exT.kids := Els.cons (c := [_, _, _, _, _, _]) (rdT_close (x := (.mk 3 [] [] [] [] [] : PT)) ⟨by decide, by decide⟩ ⟨by decide, by decide, by decide⟩ RdSl.nil RdSl.nil) rfl (Els.one (rdT_close (x := (.mk 5 [98] [] [(⟨[110], 3, []⟩ : SlotD)] [] [] : PT)) ⟨by decide, by decide⟩ ⟨by decide, by decide, by decide⟩ Sz8 RdSl.nil) rfl)
  obtain ⟨hnz10, Gz10, az10, cz10, hGz10, hez10, Sz10, M⟩ := M.freeze_row mono_rdP (k := 0) rfl EX (by decide)
  clear hez10 az10 cz10
  replace Sz5 := Sz5.mono mono_rdSlot hGz10
  replace Sz8 := Sz8.mono mono_rdSlot hGz10
  clear hnz10
  refine rl_run F (run_buildS (cs := [.int .u8 (1), .string (str ([108, 105] : List UInt8)), .string (str ([] : List UInt8)), .slice (av3) (1) (cv3), .string (str ([] : List UInt8)), .slice (av9) (2) (cv9)]) (ps := [(0, .int .u8 (1)), (1, .string (str ([108, 105] : List UInt8))), (3, .slice (av3) (1) (cv3)), (5, .slice (av9) (2) (cv9))]) tok46.k rfl tok46 (F.evp rfl) rfl) rfl ?_; clear F a; intro a F
  refine rl_storeA F M tok46 (k := 0) rfl rfl rfl (us := [.int .u8 (1), .string (str ([108, 105] : List UInt8)), .string (str ([] : List UInt8)), .slice (av3) (1) (cv3), .string (str ([] : List UInt8)), .slice (av9) (2) (cv9)]) rfl rfl (by simp [Value.oneCell']) (by simp) ?_; clear F M a; intro w a M F
  change Mem w0 Gz10 (.blk b1 [.int .u8 (1), .string (str ([108, 105] : List UInt8)), .string (str ([] : List UInt8)), .slice (av3) (1) (cv3), .string (str ([] : List UInt8)), .slice (av9) (2) (cv9)] 46 :: L) _ at M
  refine rl_nil <| q_tn <| wp_ret <| fin_c F M (k := 0) rfl rfl tok46 rfl rfl rfl ?_
  exact ⟨_, ((hGz5.trans hGz8).trans hGz10), M.weaken (.cons _ (List.Sublist.refl _)), _, _, _, _, rfl, Sz5, Sz10⟩
theorem exT_k : inKind .u8 exT.kind := ⟨by decide, by decide⟩
theorem exT_l : (exT.tag.length ≤ 9223372036854775807 ∧ exT.key.length ≤ 9223372036854775807 ∧ exT.text.length ≤ 9223372036854775807) := ⟨by decide, by decide, by decide⟩
end Go.Proofs.YtlnehkjmmegkhaaGreat
