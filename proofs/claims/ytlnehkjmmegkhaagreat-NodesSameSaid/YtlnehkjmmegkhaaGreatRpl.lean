/- Rules for strings.NewReplacer: loops that are run round by round, calls through an interface, a table in a block. -/
import Derived.Test.YtlnehkjmmegkhaaGreatOnce
namespace Go.Y
open Go
section
variable {P : Program} {ops : Array Oper} {Q : Exit → Act → World → Prop} {w0 w : World} {G : Ghost} {L : List Res} {n d : Nat} {a : Act} {e : Env} {t : TypeId} {p : String} {af : Array Edge} {r : List Oper}
/-- A loop of at most so many rounds, one after the other. -/
def unr (P : Program) (c : Code) (Q : Exit → Act → World → Prop) : Nat → Act → World → Prop
 | 0 => fun _ _ => False
 | k + 1 => fun a w => c.wp P (Exit.then (unr P c Q k) Q) a w
theorem w_unroll {c : Code} (k : Nat) (h : c.wp P (Exit.then (unr P c Q k) Q) a w) : (Code.loop c).wp P Q a w := by
 refine w_loop (σ := Nat) (fun s a w => unr P c Q s a w) id (k + 1) h fun s a w hs => ?_
 cases s with
 | zero => exact hs.elim
 | succ s =>
  refine wp_mono hs fun e a w h => ?_
  cases e <;> first | exact ⟨s, Nat.lt_succ_self s, h⟩ | exact h
theorem run_ifaceP {ρ : Operand → Value} {dd : Option Tmp} {g : Option (Nat × Bool)} {x : Operand} {ty e : TypeId} {v : Value} (ht : tk P ty = .ptr e) (hx : ρ x = v) :
  (execOp ρ ⟨dd, .makeInterface ty x, t, p, af, g⟩).run P w = .ok (.value (.iface ty v)) w := by
 simp [execOp, hx, Instr.makeInterface, run_under (under_ptr ht)]
/-- A method of the value that an interface holds. -/
theorem rl_invokeS {f : FuncId} {cal : Operand} {nm : String} {args : List Operand} {ats : Array TypeId} {vs : List Value} {ty : TypeId} {x : Value} {Φ : Value → Prop}
  (F : Fits n a e) (hE : Ent P f) (hm : ∀ w, (Go.method (P.types.size + Made.depth) ty x nm).run P w = .ok (f, x) w) (hc : ev e cal = some (.iface ty x)) (hv : evs e args = some vs) (hd : Nat.ble (d + 1) n = true)
  (hs : Calls P f (x :: vs).toArray w (RetS w0 G L Φ))
  (k : ∀ v w' a', Mem w0 G L w' → Φ v → Fits n a' ((d, v) :: e) → rl P ops Q r a' w') :
  rl P ops Q (⟨some d, .call ⟨.invoke cal nm, args.toArray, ats⟩, t, p, af, none⟩ :: r) a w := by
 refine ⟨fun _ => ?_, fun h => by simp [Region.wanted] at h⟩
 unfold Oper.wp
 have hr : (execOp a.eval ⟨some d, .call ⟨.invoke cal nm, args.toArray, ats⟩, t, p, af, none⟩).run P w = .ok (.enter f (x :: vs).toArray) w := by
  have h1 := F.ev hc
  have h2 := F.evs hv
  simp only [execOp, resolve, h1, Sem.run_bind, Sem.run_pure, Result.andThen_ok, invoke]
  rw [show (#[Value.iface ty x] ++ Array.map a.eval args.toArray) = (Value.iface ty x :: vs).toArray by simp [← h2]]
  have h3 := hm w
  have h4 := run_enter (w := w) (args := (x :: vs).toArray) hE
  simp only [Sem.run_bind, Sem.run_pure, Result.andThen_ok, callMethod, List.size_toArray, List.getElem?_toArray, List.getElem?_cons_zero]
  rw [show (program : Sem Program).run P w = .ok P w from rfl]
  simp only [Result.andThen_ok, h3]
  simpa using h4
 rw [hr]
 refine Calls.mono hs fun y w' hx => ?_
 cases y with
 | returned v => exact k v w' _ hx.1 hx.2 (F.put hd)
 | panicked c => exact hx.elim
 | outgrown => exact hx.elim
/-- A table of 256 slices and one more: which of them may be there. -/
structure TabIs (cs : List Value) (K : List Nat) : Prop where
 len : cs.length = 257
 nil : ∀ j, j < 256 → j ∉ K → cs[j]? = some (.slice none 0 0)
def tab0 (v : Value) : List Value := List.replicate 256 (.slice none 0 0) ++ [v]
theorem tab0_is (v : Value) : TabIs (tab0 v) [] := ⟨by rw [tab0, List.length_append, List.length_replicate]; rfl, fun j hj _ => by
 rw [tab0, List.getElem?_append_left (by rw [List.length_replicate]; exact hj), List.getElem?_replicate, if_pos hj]⟩
theorem TabIs.put {cs : List Value} {K : List Nat} (T : TabIs cs K) (o : Nat) (v : Value) (K' : List Nat) (h : ∀ j, j < 256 → j ∉ K' → o ≠ j ∧ j ∉ K) : TabIs (cs.set o v) K' :=
 ⟨by rw [List.length_set]; exact T.len, fun j hj hK => by rw [List.getElem?_set_ne (h j hj hK).1]; exact T.nil j hj (h j hj hK).2⟩
theorem TabIs.last {cs : List Value} {K : List Nat} (T : TabIs cs K) : ∃ v, cs[256]? = some v := ⟨_, List.getElem?_eq_getElem (by rw [T.len]; omega)⟩
end
end Go.Y
