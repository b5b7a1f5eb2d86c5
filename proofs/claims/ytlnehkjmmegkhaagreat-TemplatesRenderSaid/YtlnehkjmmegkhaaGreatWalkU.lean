/- The walks, part U. -/
import Derived.Test.YtlnehkjmmegkhaaGreatWalkS
import Derived.Test.YtlnehkjmmegkhaaGreatPar
namespace Go.Proofs.YtlnehkjmmegkhaaGreat
open Go Go.Y Go.Proofs
set_option linter.unusedSimpArgs false
set_option linter.unusedVariables false
def GoodP : Ghost → List Value → Prop := fun G' cs => ∃ (x : PT) (ta ka : Option Addr) (tc kc : Nat), cs = [.int .u8 (x.kind), .string (str (x.tag)), .string (str (x.key)), .slice (ta) (x.as.length) (tc), .string (str (x.text)), .slice (ka) (x.kids.length) (kc)] ∧ ValidP x ∧ (x.tag.length ≤ 9223372036854775807 ∧ x.key.length ≤ 9223372036854775807 ∧ x.text.length ≤ 9223372036854775807) ∧ RdSl rdSlot 3 G' (.slice ta x.as.length tc) x.as ∧ RdSl rdP 6 G' (.slice ka x.kids.length kc) x.kids
def GoodI : Ghost → List Value → Prop := fun G' cs => ∃ (x : ItemD) (ma : Option Addr) (mc : Nat), cs = [.int .u64 (x.key), .int .u8 (x.typ), .string (str (x.text)), .slice (ma) (x.marks.length) (mc)] ∧ ItemOk x ∧ inKind .u64 x.key ∧ RdSl rdStr 1 G' (.slice ma x.marks.length mc) x.marks
theorem does_pof {w0 : World} {G : Ghost} {ca : Option Addr} {cc : Nat} {cs : List UInt8} (S : RdSl rdB 1 G (.slice ca cs.length cc) cs) {pt psl : Nat} (hpt : pt < 256) (hps : psl < 256) {ld cl al st sp sl sc sa pb : Nat} : Thr.Does Tryz.prog w0 G ⟨ld, cl, al, st, sp, sl, sc, sa, pb, 39, 46, 20, [.int .u8 (((pt : Nat) : Int)), .int .u8 (((psl : Nat) : Int)), .slice (ca) (cs.length) (cc)], [.int .u8 (0), .string (str ([] : List UInt8)), .string (str ([] : List UInt8)), .slice none (0) (0), .string (str ([] : List UInt8)), .slice none (0) (0)], GoodP⟩ :=
  ⟨fun w G' L hG M => ret_imp (pof_spec M (S.mono mono_rdB hG) hpt hps) fun G'' v h => by
      obtain ⟨x, ta, ka, tc, kc, rfl, h⟩ := h
      exact ⟨_, rfl, x, ta, ka, tc, kc, rfl, h⟩,
    fun G' G'' cs hG h => by
      obtain ⟨x, ta, ka, tc, kc, rfl, hV, hl, SA, SK⟩ := h
      exact ⟨x, ta, ka, tc, kc, rfl, hV, hl, SA.mono mono_rdSlot hG, SK.mono mono_rdP hG⟩,
    fun G' cs h => by
      obtain ⟨x, ta, ka, tc, kc, rfl, _⟩ := h
      exact ⟨rfl, by simp [Value.oneCell']⟩⟩
theorem does_iof {w0 : World} {G : Ghost} {ca : Option Addr} {cc : Nat} {cs : List UInt8} (S : RdSl rdB 1 G (.slice ca cs.length cc) cs) {ik it : Nat} (hik : ik < 65536) (hit : it < 256) {ld cl al st sp sl sc sa pb : Nat} : Thr.Does Tryz.prog w0 G ⟨ld, cl, al, st, sp, sl, sc, sa, pb, 42, 51, 21, [.int .u16 (((ik : Nat) : Int)), .int .u8 (((it : Nat) : Int)), .slice (ca) (cs.length) (cc)], [.int .u64 (0), .int .u8 (0), .string (str ([] : List UInt8)), .slice none (0) (0)], GoodI⟩ :=
  ⟨fun w G' L hG M => ret_imp (iof_spec M (S.mono mono_rdB hG) hik hit) fun G'' v h => by
      obtain ⟨x, ma, mc, rfl, h⟩ := h
      exact ⟨_, rfl, x, ma, mc, rfl, h⟩,
    fun G' G'' cs hG h => by
      obtain ⟨x, ma, mc, rfl, hio, hk, SM⟩ := h
      exact ⟨x, ma, mc, rfl, hio, hk, SM.mono mono_rdStr hG⟩,
    fun G' cs h => by
      obtain ⟨x, ma, mc, rfl, _⟩ := h
      exact ⟨rfl, by simp [Value.oneCell']⟩⟩
theorem itm_len {x : ItemD} (h : ItemOk x) : x.text.length ≤ 9223372036854775807 := by have := h.2.1.1; omega
end Go.Proofs.YtlnehkjmmegkhaaGreat
