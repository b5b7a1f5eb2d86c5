/- The proof core, memory: persistent blocks (G), owned resources (L), and what each operation does to them. -/
import Derived.Test.YtokeofoemjeleaaDoorYCore
namespace Go.Y
open Go

/-! ### The types' table -/
inductive TK where
  | int (k : IntKind) | bool | str | ptr (e : Nat) | slice (e : Nat) | struct (fs : List (Nat × Nat × Nat)) | array (n e : Nat)
  | map (k e : Nat) | func | iface | other

def tk (P : Program) (t : TypeId) : TK := match P.underlying t with
  | some (.int k) => .int k
  | some .bool => .bool
  | some .string => .str
  | some (.pointer e) => .ptr e
  | some (.slice e) => .slice e
  | some (.struct fs) => .struct (fs.toList.map fun f => (f.offset, P.cellsOf f.type, f.type))
  | some (.array n e) => .array n e
  | some (.map k e) => .map k e
  | some (.func ..) => .func
  | some (.interface _) => .iface
  | _ => .other

structure TI where
  k : TK
  size : Nat
  bytes : Nat
  zero : Value

structure TOK (P : Program) (t : TypeId) (i : TI) : Prop where
  k : tk P t = i.k
  sb : (P.info? t).map (fun x => (x.size, x.bytes)) = some (i.size, i.bytes)
  z : (P.info? t).bind (·.zero) = some i.zero

section
variable {P : Program} {t : TypeId} {i : TI} {w : World}

theorem TOK.info (h : TOK P t i) : ∃ x, P.info? t = some x ∧ x.size = i.size ∧ x.bytes = i.bytes ∧ x.zero = some i.zero := by
  have h1 := h.sb
  have h2 := h.z
  cases hx : P.info? t with
  | none => rw [hx] at h1; simp at h1
  | some x =>
    rw [hx] at h1 h2
    simp at h1 h2
    exact ⟨x, rfl, h1.1, h1.2, h2⟩

theorem TOK.typeInfo (h : TOK P t i) : ∃ x, (typeInfo t).run P w = .ok x w ∧ x.size = i.size ∧ x.bytes = i.bytes ∧ x.zero = some i.zero := by
  obtain ⟨x, hx, h1⟩ := h.info
  refine ⟨x, ?_, h1⟩
  simp [Go.typeInfo, program, Sem.run_bind, Sem.run, hx]

theorem TOK.sizeOf (h : TOK P t i) : (sizeOf t).run P w = .ok i.size w := by
  obtain ⟨x, hx, h1, _⟩ := h.typeInfo (w := w)
  simp only [Go.sizeOf, Sem.run_bind, hx, Result.andThen_ok, Sem.run_pure, h1]

theorem TOK.zeroValue (h : TOK P t i) : (zeroValue t).run P w = .ok i.zero w := by
  obtain ⟨x, hx, h1, h2, h3⟩ := h.typeInfo (w := w)
  simp only [Go.zeroValue, Sem.run_bind, hx, Result.andThen_ok, h3, Sem.run_pure]

theorem under_slice {e : Nat} (h : tk P t = .slice e) : P.underlying t = some (.slice e) := by
  unfold tk at h
  split at h <;> simp_all
theorem under_struct {fs : List (Nat × Nat × Nat)} (h : tk P t = .struct fs) : ∃ f : Array Field, P.underlying t = some (.struct f) ∧ f.toList.map (fun f => (f.offset, P.cellsOf f.type, f.type)) = fs := by
  unfold tk at h
  split at h <;> simp_all
theorem under_array {n e : Nat} (h : tk P t = .array n e) : P.underlying t = some (.array n e) := by
  unfold tk at h
  split at h <;> simp_all
theorem under_str (h : tk P t = .str) : P.underlying t = some .string := by
  unfold tk at h
  split at h <;> simp_all
theorem under_int {k : IntKind} (h : tk P t = .int k) : P.underlying t = some (.int k) := by
  unfold tk at h
  split at h <;> simp_all
theorem under_bool (h : tk P t = .bool) : P.underlying t = some .bool := by
  unfold tk at h
  split at h <;> simp_all
theorem under_ptr {e : Nat} (h : tk P t = .ptr e) : P.underlying t = some (.pointer e) := by
  unfold tk at h
  split at h <;> simp_all

def TK.agg : TK → Option Bool
  | .struct _ | .array .. => some true
  | .other => none
  | _ => some false

theorem run_under {d : TypeDesc} (h : P.underlying t = some d) : (underlying t).run P w = .ok d w := by
  simp [underlying, program, Sem.run_bind, Sem.run, h]

theorem run_isAgg_f (h : (tk P t).agg = some false) : (isAgg t).run P w = .ok false w := by
  unfold tk at h
  split at h <;> simp [TK.agg] at h <;> (rename_i hu; simp [isAgg, Sem.run_bind, run_under hu])
theorem run_isAgg_t (h : (tk P t).agg = some true) : (isAgg t).run P w = .ok true w := by
  unfold tk at h
  split at h <;> simp [TK.agg] at h <;> (rename_i hu; simp [isAgg, Sem.run_bind, run_under hu])
end

/-! ### Memory -/
abbrev Ghost := Nat → Option Obj
def Gle (G G' : Ghost) : Prop := ∀ r o, G r = some o → G' r = some o
theorem Gle.refl (G : Ghost) : Gle G G := fun _ _ h => h
theorem Gle.trans {G G' G'' : Ghost} (h : Gle G G') (h' : Gle G' G'') : Gle G G'' := fun r o hr => h' r o (h r o hr)

def gcell (G : Ghost) (b o : Nat) : Option Value := match G b with
  | some (.cells c _ _) => c[o]?
  | _ => none
theorem gcell_mono {G G' : Ghost} (h : Gle G G') {b o : Nat} {v : Value} (hv : gcell G b o = some v) : gcell G' b o = some v := by
  unfold gcell at *
  split at hv
  · rename_i c t f hb; rw [h _ _ hb]; exact hv
  · cases hv

inductive Res where
  | blk (b : Nat) (cs : List Value) (t : TypeId)
  | row (v : Value) (n : Nat) (cs : List Value) (t : TypeId) (sz : Nat)
  | obj (b : Nat) (o : Obj)

def Res.foot : Res → Option Nat
  | .blk b _ _ => some b
  | .obj b _ => some b
  | .row v _ _ _ _ => v.ownBlock

/-- A slice of n elements whose cells are cs, at the head of a block of its own. -/
def rowIs (w : World) (v : Value) (n : Nat) (cs : List Value) (t : TypeId) (sz : Nat) : Prop := w.ownsRow 0 t sz v n cs ∧ ∀ u ∈ cs, u.oneCell' = true

def Res.holds (w : World) : Res → Prop
  | .blk b cs t => w.heap[b]? = some (.cells cs.toArray t (0, 0))
  | .obj b o => w.heap[b]? = some o
  | .row v n cs t sz => rowIs w v n cs t sz

structure Mem (w0 : World) (G : Ghost) (L : List Res) (w : World) : Prop where
  os : w.os = w0.os
  tape : w.tape = w0.tape
  output : w.output = w0.output
  grow : w0.heap.size ≤ w.heap.size
  pers : ∀ r o, G r = some o → w.heap[r]? = some o
  own : ∀ x ∈ L, x.holds w
  free : ∀ x ∈ L, ∀ b, x.foot = some b → G b = none
  apart : L.Pairwise (fun x y => ∀ b, x.foot = some b → y.foot ≠ some b)

theorem lt_of_heap {w : World} {b : Nat} {o : Obj} (h : w.heap[b]? = some o) : b < w.heap.size := by
  rcases Nat.lt_or_ge b w.heap.size with h' | h'
  · exact h'
  · simp [Array.getElem?_eq_none h'] at h

theorem Res.foot_lt {w : World} {x : Res} (h : x.holds w) {b : Nat} (hb : x.foot = some b) : b < w.heap.size := by
  cases x with
  | blk b' cs t => simp only [Res.foot, Option.some.injEq] at hb; subst hb; exact lt_of_heap h
  | obj b' o => simp only [Res.foot, Option.some.injEq] at hb; subst hb; exact lt_of_heap h
  | row v n cs t sz => exact (h.1.lt b hb).2

theorem Res.holds_of {w w' : World} {x : Res} (h : x.holds w) (hs : ∀ b, x.foot = some b → w'.heap[b]? = w.heap[b]?) : x.holds w' := by
  cases x with
  | blk b' cs t => simp only [Res.holds] at *; rw [hs b' rfl]; exact h
  | obj b' o => simp only [Res.holds] at *; rw [hs b' rfl]; exact h
  | row v n cs t sz =>
    obtain ⟨⟨h1, h2⟩, h3⟩ := h
    refine ⟨⟨h1, ?_⟩, h3⟩
    rcases h2 with h2 | ⟨g, cap, cur, rfl, h4, h5, h6⟩
    · exact Or.inl h2
    · exact Or.inr ⟨g, cap, cur, rfl, h4, by rw [hs g rfl]; exact h5, h6⟩

section
variable {P : Program} {w0 w : World} {G : Ghost} {L : List Res}

/-- Another world, the same where it counts. -/
theorem Mem.same (M : Mem w0 G L w) {w' : World} (h1 : w'.os = w.os) (h2 : w'.tape = w.tape) (h3 : w'.output = w.output) (h4 : w.heap.size ≤ w'.heap.size)
    (h5 : ∀ b, b < w.heap.size → w'.heap[b]? = w.heap[b]?) : Mem w0 G L w' :=
  ⟨h1.trans M.os, h2.trans M.tape, h3.trans M.output, Nat.le_trans M.grow h4,
   fun r o hr => by have := M.pers r o hr; rw [h5 r (lt_of_heap this)]; exact this,
   fun x hx => Res.holds_of (M.own x hx) fun b hb => h5 b (Res.foot_lt (M.own x hx) hb), M.free, M.apart⟩

theorem Mem.drew (M : Mem w0 G L w) (k : Nat) : Mem w0 G L { w with drawn := k } := M.same rfl rfl rfl (Nat.le_refl _) (fun _ _ => rfl)

theorem Mem.cell (M : Mem w0 G L w) {b o : Nat} {v : Value} (h : gcell G b o = some v) : w.cell? ⟨b, o, none⟩ = some v := by
  unfold gcell at h
  split at h
  · rename_i c t f hb
    simp [World.cell?, M.pers _ _ hb, h]
  · cases h

/-- Fewer or other resources, all of which are among those. -/
theorem Mem.weaken (M : Mem w0 G L w) {L' : List Res} (h : L'.Sublist L) : Mem w0 G L' w :=
  ⟨M.os, M.tape, M.output, M.grow, M.pers, fun x hx => M.own x (h.subset hx), fun x hx => M.free x (h.subset hx), M.apart.sublist h⟩

theorem Mem.perm (M : Mem w0 G L w) {L' : List Res} (h : L.Perm L') : Mem w0 G L' w :=
  ⟨M.os, M.tape, M.output, M.grow, M.pers, fun x hx => M.own x (h.mem_iff.2 hx), fun x hx => M.free x (h.mem_iff.2 hx),
   h.pairwise M.apart (fun hxy b hb hc => hxy b hc hb)⟩

/-- A new block. -/
theorem Mem.new (M : Mem w0 G L w) (o : Obj) : Mem w0 G (.obj w.heap.size o :: L) { w with heap := w.heap.push o } := by
  have M' : Mem w0 G L { w with heap := w.heap.push o } := M.same rfl rfl rfl (by simp) (fun b hb => by
    show (w.heap.push o)[b]? = _
    rw [Array.getElem?_push, if_neg (by omega)])
  refine ⟨M'.os, M'.tape, M'.output, M'.grow, M'.pers, ?_, ?_, ?_⟩
  · intro x hx
    rcases List.mem_cons.1 hx with rfl | hx
    · show (w.heap.push o)[w.heap.size]? = some o
      simp
    · exact M'.own x hx
  · intro x hx b hb
    rcases List.mem_cons.1 hx with rfl | hx
    · simp only [Res.foot, Option.some.injEq] at hb
      subst hb
      cases hg : G w.heap.size with
      | none => rfl
      | some o' => have := lt_of_heap (M.pers _ _ hg); omega
    · exact M'.free x hx b hb
  · refine List.pairwise_cons.2 ⟨fun y hy b hb hc => ?_, M.apart⟩
    simp only [Res.foot, Option.some.injEq] at hb
    subst hb
    have := Res.foot_lt (M.own y hy) hc
    omega

/-- The first resource stands for another of the same foot. -/
theorem Mem.swap_head {x y : Res} (M : Mem w0 G (x :: L) w) {w' : World} (hf : y.foot = x.foot) (hy : y.holds w')
    (h1 : w'.os = w.os) (h2 : w'.tape = w.tape) (h3 : w'.output = w.output) (h4 : w'.heap.size = w.heap.size)
    (h5 : ∀ b, x.foot ≠ some b → w'.heap[b]? = w.heap[b]?) : Mem w0 G (y :: L) w' := by
  have hap := List.pairwise_cons.1 M.apart
  refine ⟨h1.trans M.os, h2.trans M.tape, h3.trans M.output, by rw [h4]; exact M.grow, ?_, ?_, ?_, ?_⟩
  · intro r o hr
    rw [h5 r (fun hc => by have := M.free x (by simp) r hc; rw [this] at hr; cases hr)]
    exact M.pers r o hr
  · intro z hz
    rcases List.mem_cons.1 hz with rfl | hz
    · exact hy
    · exact Res.holds_of (M.own z (by simp [hz])) fun b hb => h5 b fun hc => hap.1 z hz b hc hb
  · intro z hz b hb
    rcases List.mem_cons.1 hz with rfl | hz
    · exact M.free x (by simp) b (hf ▸ hb)
    · exact M.free z (by simp [hz]) b hb
  · exact List.pairwise_cons.2 ⟨fun z hz b hb => hap.1 z hz b (hf ▸ hb), hap.2⟩

/-- The first resource stands for another, whose foot is the same, or none, or new. -/
theorem Mem.grow_head {x y : Res} (M : Mem w0 G (x :: L) w) {w' : World} (hf : ∀ b, y.foot = some b → x.foot = some b ∨ w.heap.size ≤ b) (hy : y.holds w')
    (h1 : w'.os = w.os) (h2 : w'.tape = w.tape) (h3 : w'.output = w.output) (h4 : w.heap.size ≤ w'.heap.size)
    (h5 : ∀ b, b < w.heap.size → x.foot ≠ some b → w'.heap[b]? = w.heap[b]?) : Mem w0 G (y :: L) w' := by
  have hap := List.pairwise_cons.1 M.apart
  have hG : ∀ r, w.heap.size ≤ r → G r = none := fun r hr => by
    cases hg : G r with
    | none => rfl
    | some o => have := lt_of_heap (M.pers _ _ hg); omega
  refine ⟨h1.trans M.os, h2.trans M.tape, h3.trans M.output, Nat.le_trans M.grow h4, ?_, ?_, ?_, ?_⟩
  · intro r o hr
    have hp := M.pers r o hr
    rw [h5 r (lt_of_heap hp) (fun hc => by have := M.free x (by simp) r hc; rw [this] at hr; cases hr)]
    exact hp
  · intro z hz
    rcases List.mem_cons.1 hz with rfl | hz
    · exact hy
    · have hz' := M.own z (by simp [hz])
      exact Res.holds_of hz' fun b hb => h5 b (Res.foot_lt hz' hb) fun hc => hap.1 z hz b hc hb
  · intro z hz b hb
    rcases List.mem_cons.1 hz with rfl | hz
    · rcases hf b hb with h | h
      · exact M.free x (by simp) b h
      · exact hG b h
    · exact M.free z (by simp [hz]) b hb
  · refine List.pairwise_cons.2 ⟨fun z hz b hb hc => ?_, hap.2⟩
    rcases hf b hb with h | h
    · exact hap.1 z hz b h hc
    · have := Res.foot_lt (M.own z (by simp [hz])) hc
      omega

/-- The same at place k. -/
theorem perm_front : ∀ (L : List Res) (k : Nat) (x : Res), L[k]? = some x → L.Perm (x :: L.eraseIdx k)
  | [], k, x, h => by simp at h
  | y :: L, 0, x, h => by simp at h; subst h; simp
  | y :: L, k + 1, x, h => by
    have h' : L[k]? = some x := by simpa using h
    have := perm_front L k x h'
    simp only [List.eraseIdx_cons_succ]
    exact ((this.cons y).trans (List.Perm.swap x y _))

theorem perm_set : ∀ (L : List Res) (k : Nat) (x y : Res), L[k]? = some x → (y :: L.eraseIdx k).Perm (L.set k y)
  | [], k, x, y, h => by simp at h
  | z :: L, 0, x, y, h => by simp
  | z :: L, k + 1, x, y, h => by
    have h' : L[k]? = some x := by simpa using h
    simp only [List.eraseIdx_cons_succ, List.set_cons_succ]
    exact (List.Perm.swap z y _).trans ((perm_set L k x y h').cons z)

theorem Mem.swap_at (M : Mem w0 G L w) {k : Nat} {x y : Res} (hk : L[k]? = some x) {w' : World} (hf : y.foot = x.foot) (hy : y.holds w')
    (h1 : w'.os = w.os) (h2 : w'.tape = w.tape) (h3 : w'.output = w.output) (h4 : w'.heap.size = w.heap.size)
    (h5 : ∀ b, x.foot ≠ some b → w'.heap[b]? = w.heap[b]?) : Mem w0 G (L.set k y) w' :=
  ((M.perm (perm_front L k x hk)).swap_head hf hy h1 h2 h3 h4 h5).perm (perm_set L k x y hk)

theorem Mem.grow_at (M : Mem w0 G L w) {k : Nat} {x y : Res} (hk : L[k]? = some x) {w' : World} (hf : ∀ b, y.foot = some b → x.foot = some b ∨ w.heap.size ≤ b) (hy : y.holds w')
    (h1 : w'.os = w.os) (h2 : w'.tape = w.tape) (h3 : w'.output = w.output) (h4 : w.heap.size ≤ w'.heap.size)
    (h5 : ∀ b, b < w.heap.size → x.foot ≠ some b → w'.heap[b]? = w.heap[b]?) : Mem w0 G (L.set k y) w' :=
  ((M.perm (perm_front L k x hk)).grow_head hf hy h1 h2 h3 h4 h5).perm (perm_set L k x y hk)

/-- An owned block becomes a persistent one. -/
theorem Mem.freeze (M : Mem w0 G L w) {k : Nat} {b : Nat} {cs : List Value} {t : TypeId} (hk : L[k]? = some (.blk b cs t)) :
    ∃ G', Gle G G' ∧ G' b = some (.cells cs.toArray t (0, 0)) ∧ Mem w0 G' (L.eraseIdx k) w := by
  have M' := M.perm (perm_front L k _ hk)
  have hb : G b = none := M'.free (.blk b cs t) (by simp) b rfl
  have hap := List.pairwise_cons.1 M'.apart
  have hh : w.heap[b]? = some (.cells cs.toArray t (0, 0)) := M'.own (.blk b cs t) (by simp)
  refine ⟨fun r => if r = b then some (.cells cs.toArray t (0, 0)) else G r, ?_, by simp, ?_⟩
  · intro r o hr
    by_cases h : r = b
    · subst h; rw [hb] at hr; cases hr
    · simp [h, hr]
  · refine ⟨M.os, M.tape, M.output, M.grow, ?_, ?_, ?_, hap.2⟩
    · intro r o hr
      by_cases h : r = b
      · subst h; simp at hr; subst hr; exact hh
      · simp only [h, if_false] at hr; exact M.pers r o hr
    · exact fun x hx => M'.own x (by simp [hx])
    · intro x hx c hc
      have hne : c ≠ b := fun e => hap.1 x hx b rfl (e ▸ hc)
      simp only [hne, if_false]
      exact M'.free x (by simp [hx]) c hc

theorem heap_setCell_same {b o : Nat} {v : Value} {c : Array Value} {t : TypeId} {f : Nat × Nat} (h : w.heap[b]? = some (.cells c t f)) :
    (w.setCell ⟨b, o, none⟩ v).heap[b]? = some (.cells (c.setIfInBounds o v) t f) := by
  simp [World.setCell, Array.getElem?_modify, h]
theorem heap_setCell_other {b o r : Nat} {v : Value} (h : r ≠ b) : (w.setCell ⟨b, o, none⟩ v).heap[r]? = w.heap[r]? := by
  simp only [World.setCell, Array.getElem?_modify]
  rw [if_neg (fun e => h e.symm)]

theorem Mem.cellL (M : Mem w0 G L w) {k b : Nat} {cs : List Value} {t : TypeId} (hk : L[k]? = some (.blk b cs t)) {o : Nat} {v : Value} (hv : cs[o]? = some v) :
    w.cell? ⟨b, o, none⟩ = some v := by
  have hh : w.heap[b]? = some (.cells cs.toArray t (0, 0)) := M.own _ (List.mem_of_getElem? hk)
  simp [World.cell?, hh, hv]

theorem Mem.frozenL (M : Mem w0 G L w) {k b : Nat} {cs : List Value} {t : TypeId} (hk : L[k]? = some (.blk b cs t)) (o : Nat) :
    w.frozen? ⟨b, o, none⟩ = false := by
  have hh : w.heap[b]? = some (.cells cs.toArray t (0, 0)) := M.own _ (List.mem_of_getElem? hk)
  simp [World.frozen?, hh]

theorem Mem.set (M : Mem w0 G L w) {k b : Nat} {cs : List Value} {t : TypeId} (hk : L[k]? = some (.blk b cs t)) (o : Nat) (v : Value) :
    Mem w0 G (L.set k (.blk b (cs.set o v) t)) (w.setCell ⟨b, o, none⟩ v) := by
  have hh : w.heap[b]? = some (.cells cs.toArray t (0, 0)) := M.own _ (List.mem_of_getElem? hk)
  refine M.swap_at hk rfl ?_ rfl rfl rfl (by simp [World.setCell]) ?_
  · show (w.setCell _ _).heap[b]? = _
    rw [heap_setCell_same hh]; simp
  · intro r hr
    exact heap_setCell_other (fun e => hr (by simp [Res.foot, e]))
end
end Go.Y
