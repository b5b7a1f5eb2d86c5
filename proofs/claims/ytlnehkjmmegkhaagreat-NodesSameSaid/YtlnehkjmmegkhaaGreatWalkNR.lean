/- The walks, part NR. -/
import Derived.Test.YtlnehkjmmegkhaaGreatWalkNP
namespace Go.Proofs.YtlnehkjmmegkhaaGreat
open Go Go.Y Go.Proofs
set_option linter.unusedSimpArgs false
set_option linter.unusedVariables false
theorem runN_all {s : List UInt8} : ∀ (f i m : Nat), m < runN s f i → NameB (pkB s (i + m))
 | 0, i, m, h => by simp [runN] at h
 | f + 1, i, m, h => by
  by_cases hn : NameB (pkB s i)
  ·rw [runN_yes hn] at h
   cases m with
   | zero => exact hn
   | succ m => have := runN_all (s := s) f (i + 1) m (by omega); rwa [show i + (m + 1) = i + 1 + m by omega]
  ·rw [runN_no hn] at h; omega
theorem name_all {s t : List UInt8} {i k : Nat} (h : nameF s i = .ok (t, k)) : ∀ c ∈ t, NameB c := by
 unfold nameF at h
 simp only at h
 split at h
 ·cases h
 ·split at h
  ·cases h
  ·simp only [Except.ok.injEq, Prod.mk.injEq] at h
   obtain ⟨rfl, _⟩ := h
   intro c hc
   obtain ⟨m, hm⟩ := List.mem_iff_getElem?.1 hc
   have hlt : m < runN s 17 i := by have := lt_of_get hm; simp only [List.length_take] at this; omega
   rw [List.getElem?_take, if_pos hlt, List.getElem?_drop] at hm
   have := runN_all 17 i m hlt
   rwa [pkB_some hm] at this
theorem name_nz {s t : List UInt8} {i k : Nat} (h : nameF s i = .ok (t, k)) : ∀ c ∈ t, nb c ≠ 0 := fun c hc => nameB_ne (name_all h c hc)
/-! ### Nodes in a text -/
abbrev PRes (α : Type) := Except (Nat × Int) α
/-- Behind an element's tag. -/
def restF (ch : List UInt8 → Nat → Nat → PRes (List NT × Nat × Nat)) (s : List UInt8) : Nat → Nat → Nat → List UInt8 → List UInt8 → List AttrD → PRes (NT × Nat × Nat)
 | 0, j, _, _, _, _ => .error (j, 5)
 | f + 1, j, nd, tag, key, al =>
  if nb (pkB s j) = 58 then (if ¬ key = [] ∨ 0 < al.length then .error (j, 5) else match nameF s (j + 1) with
   | .error e => .error e
   | .ok (k, j1) => restF ch s f j1 nd tag k al)
  else if nb (pkB s j) = 32 then (match nameF s (j + 1) with
   | .error e => .error e
   | .ok (n, j1) => match takeF s [61] j1 with
    | .error e => .error e
    | .ok j2 => match valueF s j2 with
     | .error e => .error e
     | .ok (v, j3) => restF ch s f j3 nd tag key (al ++ [⟨n, v⟩]))
  else if nb (pkB s j) = 47 then (match takeF s [47, 62] j with
   | .error e => .error e
   | .ok j1 => .ok (.mk 1 tag key al [] [], j1, nd))
  else if nb (pkB s j) = 62 then (match ch tag (j + 1) nd with
   | .error e => .error e
   | .ok (ks, j1, nd1) => .ok (.mk 1 tag key al [] ks, j1, nd1))
  else .error (j, 5)
/-- Children, and the closing tag. -/
def childF (no : Nat → Nat → PRes (NT × Nat × Nat)) (s tag : List UInt8) : Nat → Nat → Nat → List NT → PRes (List NT × Nat × Nat)
 | 0, j, _, _ => .error (j, 5)
 | f + 1, j, nd, acc => if acc.length = 0 ∨ ¬ (nb (pkB s j) = 60 ∧ nb (pkB s (j + 1)) = 47) then (match no j nd with
   | .error e => .error e
   | .ok (x, j1, nd1) => childF no s tag f j1 nd1 (acc ++ [x]))
  else match takeF s ([60, 47] ++ tag ++ [62]) j with
   | .error e => .error e
   | .ok j1 => .ok (acc, j1, nd)
/-- A node, so many levels above the lowest. -/
def nodeF (s : List UInt8) : Nat → Nat → Nat → PRes (NT × Nat × Nat)
 | 0, i, _ => if ¬ nb (pkB s i) = 34 ∧ ¬ nb (pkB s i) = 60 then .error (i, 5) else .error (i, 14)
 | d + 1, i, nd => if ¬ nb (pkB s i) = 34 ∧ ¬ nb (pkB s i) = 60 then .error (i, 5) else if nd = 64 then .error (i, 14) else
   if nb (pkB s i) = 34 then (match valueF s i with
    | .error e => .error e
    | .ok (t, j) => .ok (.mk 2 [] [] [] t [], j, nd + 1))
   else match takeF s [60] i with
    | .error e => .error e
    | .ok j => match nameF s j with
     | .error e => .error e
     | .ok (tag, j1) => restF (fun tag j nd => childF (nodeF s d) s tag (s.length + 1) j nd []) s (s.length + 1) j1 (nd + 1) tag [] []
abbrev chF (s : List UInt8) (d : Nat) : List UInt8 → Nat → Nat → PRes (List NT × Nat × Nat) := fun tag j nd => childF (nodeF s d) s tag (s.length + 1) j nd []
section
variable {s : List UInt8} {d i nd : Nat} {e : Nat × Int}
theorem node_bad {lv : Nat} (h : ¬ nb (pkB s i) = 34 ∧ ¬ nb (pkB s i) = 60) : nodeF s lv i nd = .error (i, 5) := by
 cases lv <;> simp only [nodeF, if_pos h]
theorem node_deep (h : ¬ (¬ nb (pkB s i) = 34 ∧ ¬ nb (pkB s i) = 60)) : nodeF s 0 i nd = .error (i, 14) := by simp only [nodeF, if_neg h]
theorem node_many (h : ¬ (¬ nb (pkB s i) = 34 ∧ ¬ nb (pkB s i) = 60)) (hn : nd = 64) : nodeF s (d + 1) i nd = .error (i, 14) := by simp only [nodeF, if_neg h, if_pos hn]
theorem node_val_no (hn : ¬ nd = 64) (h1 : nb (pkB s i) = 34) (h2 : valueF s i = .error e) : nodeF s (d + 1) i nd = .error e := by
 simp only [nodeF, if_neg (show ¬ (¬ nb (pkB s i) = 34 ∧ ¬ nb (pkB s i) = 60) by omega), if_neg hn, if_pos h1, h2]
theorem node_val {t : List UInt8} {j : Nat} (hn : ¬ nd = 64) (h1 : nb (pkB s i) = 34) (h2 : valueF s i = .ok (t, j)) : nodeF s (d + 1) i nd = .ok (.mk 2 [] [] [] t [], j, nd + 1) := by
 simp only [nodeF, if_neg (show ¬ (¬ nb (pkB s i) = 34 ∧ ¬ nb (pkB s i) = 60) by omega), if_neg hn, if_pos h1, h2]
theorem node_take_no (hn : ¬ nd = 64) (h1 : ¬ nb (pkB s i) = 34) (h0 : ¬ (¬ nb (pkB s i) = 34 ∧ ¬ nb (pkB s i) = 60)) (h2 : takeF s [60] i = .error e) : nodeF s (d + 1) i nd = .error e := by
 simp only [nodeF, if_neg h0, if_neg hn, if_neg h1, h2]
theorem node_name_no {j : Nat} (hn : ¬ nd = 64) (h1 : ¬ nb (pkB s i) = 34) (h0 : ¬ (¬ nb (pkB s i) = 34 ∧ ¬ nb (pkB s i) = 60)) (h2 : takeF s [60] i = .ok j) (h3 : nameF s j = .error e) : nodeF s (d + 1) i nd = .error e := by
 simp only [nodeF, if_neg h0, if_neg hn, if_neg h1, h2, h3]
theorem node_rest {j j1 : Nat} {tag : List UInt8} (hn : ¬ nd = 64) (h1 : ¬ nb (pkB s i) = 34) (h0 : ¬ (¬ nb (pkB s i) = 34 ∧ ¬ nb (pkB s i) = 60)) (h2 : takeF s [60] i = .ok j) (h3 : nameF s j = .ok (tag, j1)) :
  nodeF s (d + 1) i nd = restF (chF s d) s (s.length + 1) j1 (nd + 1) tag [] [] := by
 simp only [nodeF, if_neg h0, if_neg hn, if_neg h1, h2, h3]
end
section
variable {ch : List UInt8 → Nat → Nat → PRes (List NT × Nat × Nat)} {s tag key : List UInt8} {f j nd j1 j2 j3 : Nat} {al : List AttrD} {X : PRes (NT × Nat × Nat)} {e : Nat × Int} (h : X = restF ch s (f + 1) j nd tag key al)
include h
theorem rest_key_bad (h1 : nb (pkB s j) = 58) (h2 : ¬ key = [] ∨ 0 < al.length) : X = .error (j, 5) := by rw [h]; simp only [restF, if_pos h1, if_pos h2]
theorem rest_key_no (h1 : nb (pkB s j) = 58) (h2 : ¬ (¬ key = [] ∨ 0 < al.length)) (h3 : nameF s (j + 1) = .error e) : X = .error e := by rw [h]; simp only [restF, if_pos h1, if_neg h2, h3]
theorem rest_key {k : List UInt8} (h1 : nb (pkB s j) = 58) (h2 : ¬ (¬ key = [] ∨ 0 < al.length)) (h3 : nameF s (j + 1) = .ok (k, j1)) : X = restF ch s f j1 nd tag k al := by rw [h]; simp only [restF, if_pos h1, if_neg h2, h3]
theorem rest_at_no1 (h0 : ¬ nb (pkB s j) = 58) (h1 : nb (pkB s j) = 32) (h3 : nameF s (j + 1) = .error e) : X = .error e := by rw [h]; simp only [restF, if_neg h0, if_pos h1, h3]
theorem rest_at_no2 {n : List UInt8} (h0 : ¬ nb (pkB s j) = 58) (h1 : nb (pkB s j) = 32) (h3 : nameF s (j + 1) = .ok (n, j1)) (h4 : takeF s [61] j1 = .error e) : X = .error e := by rw [h]; simp only [restF, if_neg h0, if_pos h1, h3, h4]
theorem rest_at_no3 {n : List UInt8} (h0 : ¬ nb (pkB s j) = 58) (h1 : nb (pkB s j) = 32) (h3 : nameF s (j + 1) = .ok (n, j1)) (h4 : takeF s [61] j1 = .ok j2) (h5 : valueF s j2 = .error e) : X = .error e := by rw [h]; simp only [restF, if_neg h0, if_pos h1, h3, h4, h5]
theorem rest_at {n v : List UInt8} (h0 : ¬ nb (pkB s j) = 58) (h1 : nb (pkB s j) = 32) (h3 : nameF s (j + 1) = .ok (n, j1)) (h4 : takeF s [61] j1 = .ok j2) (h5 : valueF s j2 = .ok (v, j3)) : X = restF ch s f j3 nd tag key (al ++ [⟨n, v⟩]) := by rw [h]; simp only [restF, if_neg h0, if_pos h1, h3, h4, h5]
theorem rest_end_no (h0 : ¬ nb (pkB s j) = 58) (h1 : ¬ nb (pkB s j) = 32) (h2 : nb (pkB s j) = 47) (h3 : takeF s [47, 62] j = .error e) : X = .error e := by rw [h]; simp only [restF, if_neg h0, if_neg h1, if_pos h2, h3]
theorem rest_end (h0 : ¬ nb (pkB s j) = 58) (h1 : ¬ nb (pkB s j) = 32) (h2 : nb (pkB s j) = 47) (h3 : takeF s [47, 62] j = .ok j1) : X = .ok (.mk 1 tag key al [] [], j1, nd) := by rw [h]; simp only [restF, if_neg h0, if_neg h1, if_pos h2, h3]
theorem rest_kids_no (h0 : ¬ nb (pkB s j) = 58) (h1 : ¬ nb (pkB s j) = 32) (h2 : ¬ nb (pkB s j) = 47) (h3 : nb (pkB s j) = 62) (h4 : ch tag (j + 1) nd = .error e) : X = .error e := by rw [h]; simp only [restF, if_neg h0, if_neg h1, if_neg h2, if_pos h3, h4]
theorem rest_kids {ks : List NT} {nd1 : Nat} (h0 : ¬ nb (pkB s j) = 58) (h1 : ¬ nb (pkB s j) = 32) (h2 : ¬ nb (pkB s j) = 47) (h3 : nb (pkB s j) = 62) (h4 : ch tag (j + 1) nd = .ok (ks, j1, nd1)) : X = .ok (.mk 1 tag key al [] ks, j1, nd1) := by rw [h]; simp only [restF, if_neg h0, if_neg h1, if_neg h2, if_pos h3, h4]
theorem rest_bad (h0 : ¬ nb (pkB s j) = 58) (h1 : ¬ nb (pkB s j) = 32) (h2 : ¬ nb (pkB s j) = 47) (h3 : ¬ nb (pkB s j) = 62) : X = .error (j, 5) := by rw [h]; simp only [restF, if_neg h0, if_neg h1, if_neg h2, if_neg h3]
end
section
variable {no : Nat → Nat → PRes (NT × Nat × Nat)} {s tag : List UInt8} {f j nd j1 nd1 : Nat} {acc : List NT} {X : PRes (List NT × Nat × Nat)} {e : Nat × Int} (h : X = childF no s tag (f + 1) j nd acc)
include h
theorem child_no (h1 : acc.length = 0 ∨ ¬ (nb (pkB s j) = 60 ∧ nb (pkB s (j + 1)) = 47)) (h2 : no j nd = .error e) : X = .error e := by rw [h]; simp only [childF, if_pos h1, h2]
theorem child_more {x : NT} (h1 : acc.length = 0 ∨ ¬ (nb (pkB s j) = 60 ∧ nb (pkB s (j + 1)) = 47)) (h2 : no j nd = .ok (x, j1, nd1)) : X = childF no s tag f j1 nd1 (acc ++ [x]) := by rw [h]; simp only [childF, if_pos h1, h2]
theorem child_end_no (h1 : ¬ (acc.length = 0 ∨ ¬ (nb (pkB s j) = 60 ∧ nb (pkB s (j + 1)) = 47))) (h2 : takeF s ([60, 47] ++ tag ++ [62]) j = .error e) : X = .error e := by rw [h]; simp only [childF, if_neg h1, h2]
theorem child_end (h1 : ¬ (acc.length = 0 ∨ ¬ (nb (pkB s j) = 60 ∧ nb (pkB s (j + 1)) = 47))) (h2 : takeF s ([60, 47] ++ tag ++ [62]) j = .ok j1) : X = .ok (acc, j1, nd) := by rw [h]; simp only [childF, if_neg h1, h2]
end
def RetRx (w0 : World) (G : Ghost) (L : List Res) (rb : Nat) (s : List UInt8) (Φ : Ghost → Value → Nat → Nat → List Res → Prop) (Er : Nat × Int → Prop) : Ending → World → Prop
 | .returned v, w' => ∃ (G' : Ghost) (i nd : Nat) (L' : List Res), Gle G G' ∧ Mem w0 G' (RB rb s i nd :: L') w' ∧ Φ G' v i nd L'
 | .panicked c, w' => ∃ (G' : Ghost) (e : Nat × Int) (i nd : Nat), Gle G G' ∧ Mem w0 G' (RB rb s i nd :: L) w' ∧ Er e ∧ c = wrongV e
 | .outgrown, _ => False
theorem finRx {P : Program} {fn : Func} {n : Nat} {a : Act} {w w0 : World} {ev : Env} {G G' : Ghost} {L : List Res} {rb i nd : Nat} {s : List UInt8} {Φ : Ghost → Value → Nat → Nat → List Res → Prop} {Er : Nat × Int → Prop} {e : Nat × Int} (F : Fits n a ev) (hg : Gle G G') (M : Mem w0 G' (RB rb s i nd :: L) w) (h : Er e) :
  bodyPost P fn (RetRx w0 G L rb s Φ Er) (.panic (wrongV e)) a w := ⟨F.defers, G', e, i, nd, hg, M, h, rfl⟩
theorem rl_callRx {P : Program} {ops : Array Oper} {Q : Exit → Act → World → Prop} {n : Nat} {a : Act} {w w0 : World} {e : Env} {d : Nat} {t : TypeId} {p : String} {af : Array Edge} {r : List Oper} {G : Ghost} {L : List Res} {rb : Nat} {s : List UInt8} {f : FuncId} {cal : Operand} {args : List Operand} {ats : Array TypeId} {vs : List Value}
  {Φ : Ghost → Value → Nat → Nat → List Res → Prop} {Er : Nat × Int → Prop} (F : Fits n a e) (hE : Ent P f) (hr : ∀ w, (execOp a.eval ⟨some d, .call ⟨.value cal, args.toArray, ats⟩, t, p, af, none⟩).run P w = .ok (.enter f vs.toArray) w) (hd : Nat.ble (d + 1) n = true)
  (hs : Calls P f vs.toArray w (RetRx w0 G L rb s Φ Er)) (kp : ∀ e w' G' i nd, Gle G G' → Mem w0 G' (RB rb s i nd :: L) w' → Er e → Q (.panic (wrongV e)) a w')
  (k : ∀ v G' i nd L' w' a', Gle G G' → Mem w0 G' (RB rb s i nd :: L') w' → Φ G' v i nd L' → Fits n a' ((d, v) :: e) → rl P ops Q r a' w') : rl P ops Q (⟨some d, .call ⟨.value cal, args.toArray, ats⟩, t, p, af, none⟩ :: r) a w := by
 refine ⟨fun _ => ?_, fun h => by simp [Region.wanted] at h⟩
 unfold Oper.wp
 rw [hr w]
 refine Calls.mono hs fun x w' hx => ?_
 cases x with
 | returned v => obtain ⟨G', i, nd, L', h1, h2, h3⟩ := hx; exact k v G' i nd L' w' _ h1 h2 h3 (F.put hd)
 | panicked c => obtain ⟨G', e, i, nd, h1, h2, h3, rfl⟩ := hx; exact kp e w' G' i nd h1 h2 h3
 | outgrown => exact hx.elim
def ChildQ (d : Nat) : Prop := ∀ (w0 w : World) (G : Ghost) (L : List Res) (rb i nd lv nb : Nat) (s tag key : List UInt8) (va : Value), lv + 1 + d = 7 → i ≤ s.length → s.length ≤ 2000000 → nd ≤ 64 → tag.length ≤ 16 → (∀ b ∈ tag, Go.Y.nb b ≠ 0) → Mem w0 G (RB rb s i nd :: .blk nb [.int .u8 1, .string (str tag), .string (str key), va, .string (str []), .slice none 0 0] 30 :: L) w →
  Calls Tryz.prog 104 #[.pointer (some ⟨rb, 0, none⟩), .pointer (some ⟨nb, 0, none⟩), .int .i64 (lv : Int)] w (RetRx w0 G L rb s (fun G' _ i' nd' L' => ∃ a c ks, L' = .blk nb [.int .u8 1, .string (str tag), .string (str key), va, .string (str []), .slice a ks.length c] 30 :: L ∧ chF s d tag i nd = .ok (ks, i', nd') ∧ RdSl rdN 6 G' (.slice a ks.length c) ks ∧ i ≤ i' ∧ i' ≤ s.length ∧ nd' ≤ 64) (fun e => chF s d tag i nd = .error e))
def NodeQ (D : Nat) : Prop := ∀ (w0 w : World) (G : Ghost) (L : List Res) (rb i nd lv : Nat) (s : List UInt8), lv + D = 7 → i ≤ s.length → s.length ≤ 2000000 → nd ≤ 64 → Mem w0 G (RB rb s i nd :: L) w →
  Calls Tryz.prog 81 #[.pointer (some ⟨rb, 0, none⟩), .int .i64 (lv : Int)] w (RetRd w0 G L rb s (fun G' v i' nd' => ∃ x ta tc ka kc, nodeF s D i nd = .ok (x, i', nd') ∧ v = .agg #[.int .u8 (x.kind), .string (str (x.tag)), .string (str (x.key)), .slice (ta) (x.as.length) (tc), .string (str (x.text)), .slice (ka) (x.kids.length) (kc)] ∧ inKind .u8 x.kind ∧ (x.tag.length ≤ 9223372036854775807 ∧ x.key.length ≤ 9223372036854775807 ∧ x.text.length ≤ 9223372036854775807) ∧ RdSl rdAttr 2 G' (.slice ta x.as.length tc) x.as ∧ RdSl rdN 6 G' (.slice ka x.kids.length kc) x.kids ∧ i < i' ∧ i' ≤ s.length ∧ nd' ≤ 64) (fun e => nodeF s D i nd = .error e))
theorem node_tree {s : List UInt8} {D i nd lv : Nat} (h0 : ¬ (¬ nb (pkB s i) = 34 ∧ ¬ nb (pkB s i) = 60)) (hlv : lv + D = 7) (h : 6 < lv ∨ nd = 64) : nodeF s D i nd = .error (i, 14) := by
 cases D with
 | zero => exact node_deep h0
 | succ d => exact node_many h0 (by omega)
set_option maxHeartbeats 1000000 in
theorem rnode_step {D : Nat} (ih : ∀ d, D = d + 1 → ChildQ d) {w0 w : World} {G : Ghost} {L : List Res} {rb i nd : Nat} {s : List UInt8} (M : Mem w0 G (RB rb s i nd :: L) w) {lv : Nat} (hlv : lv + D = 7) (hi : i ≤ s.length) (hs : s.length ≤ 2000000) (hnd : nd ≤ 64) : Calls Tryz.prog 81 #[.pointer (some ⟨rb, 0, none⟩), .int .i64 (lv : Int)] w (RetRd w0 G L rb s (fun G' v i' nd' => ∃ x ta tc ka kc, nodeF s D i nd = .ok (x, i', nd') ∧ v = .agg #[.int .u8 (x.kind), .string (str (x.tag)), .string (str (x.key)), .slice (ta) (x.as.length) (tc), .string (str (x.text)), .slice (ka) (x.kids.length) (kc)] ∧ inKind .u8 x.kind ∧ (x.tag.length ≤ 9223372036854775807 ∧ x.key.length ≤ 9223372036854775807 ∧ x.text.length ≤ 9223372036854775807) ∧ RdSl rdAttr 2 G' (.slice ta x.as.length tc) x.as ∧ RdSl rdN 6 G' (.slice ka x.kids.length kc) x.kids ∧ i < i' ∧ i' ≤ s.length ∧ nd' ≤ 64) (fun e => nodeF s D i nd = .error e)) := by
 change Mem w0 G (.blk rb [.string (str (s)), .int .i64 (((i : Nat) : Int)), .int .i64 (((nd : Nat) : Int))] 122 :: L) _ at M
 refine calls_start (vs := [_, _]) Tryz.func81 rfl (n := 120) rfl rfl ?_
 intro a F
 refine wp_seq <| w_reg <| rl_alloc F M tok30 rfl rfl ?_; clear F M a; intro b1 w a M F
 refine rl_nil <| q_tn <| wp_seq <| w_reg <| rl_run F (run_move (F.ev rfl)) rfl ?_; clear F a; intro a F
 replace M := M.perm (perm_front _ 1 _ rfl)
 change Mem w0 G (_ :: _ :: L) _ at M
 refine rl_callS F ent100 rfl rfl (rpeek_spec (L := .blk b1 [.int .u8 (0), .string (str ([] : List UInt8)), .string (str ([] : List UInt8)), .slice none (0) (0), .string (str ([] : List UInt8)), .slice none (0) (0)] 30 :: L) M) ?_; clear F M a; rintro _ w a M rfl F
 change Mem w0 G (.blk rb [.string (str (s)), .int .i64 (((i : Nat) : Int)), .int .i64 (((nd : Nat) : Int))] 122 :: _ :: L) _ at M
 refine rl_run F (run_assign (F.ev rfl)) rfl ?_; clear F a; intro a F
 refine rl_nil <| q_tn ?_
 iterate 2 (refine wp_seq ?_)
 refine w_reg <| rl_run F (run_move (F.ev rfl)) rfl ?_; clear F a; intro a F
 refine rl_run F (run_nei (F.ev rfl) (F.ev rfl)) rfl ?_; clear F a; intro a F
 refine rl_run F (run_move (F.ev rfl)) rfl ?_; clear F a; intro a F
 rcases Bool.eq_false_or_eq_true (!(decide (nb (pkB s i) = 34))) with hc | hc
 ·skip
  have h3b := hc; clear hc
  have h3 : ¬ (nb (pkB s i) = 34) := of_decide_eq_false (of_not_t h3b)
  have h3c : (decide (nb (pkB s i) = 34)) = false := (of_not_t h3b)
  refine rl_guard_t F rfl rfl rfl (not_t h3c) ?_
  refine rl_run F (run_move (F.ev rfl)) rfl ?_; clear F a; intro a F
  refine rl_guard_t F rfl rfl rfl (not_t h3c) ?_
  refine rl_run F (run_nei (F.ev rfl) (F.ev rfl)) rfl ?_; clear F a; intro a F
  refine rl_run F (run_pick_t (F.ev rfl) (not_t h3c) (F.ev rfl)) rfl ?_; clear F a; intro a F
  refine rl_nil <| q_tn <| w_cond F rfl ?_ ?_
  ·intro hc
   have h4b := hc; clear hc
   have h4 : ¬ (nb (pkB s i) = 60) := of_decide_eq_false (of_not_t h4b)
   have h4c : (decide (nb (pkB s i) = 60)) = false := (of_not_t h4b)
   refine w_reg <| rl_run F (run_move (F.ev rfl)) rfl ?_; clear F a; intro a F
   change Mem w0 G (_ :: _ :: L) _ at M
   exact rl_callRd (G := G) (L := .blk b1 [.int .u8 (0), .string (str ([] : List UInt8)), .string (str ([] : List UInt8)), .slice none (0) (0), .string (str ([] : List UInt8)), .slice none (0) (0)] 30 :: L) (rb := rb) (s := s) F ent82 (run_callF F ent82 rfl rfl) rfl (rfail_spec (er := 5) M) (fun e_ w_ G_ i_ nd_ hg_ M_ h_ => finRd (P := Tryz.prog) (fn := Tryz.f81) F hg_ (M_.weaken (.cons_cons _ (.cons _ (List.Sublist.refl _)))) (by subst h_; exact node_bad ⟨by assumption, by assumption⟩)) (fun _ _ _ _ _ _ _ _ h_ _ => h_.elim)
  ·intro hc
   have h6b := hc; clear hc
   have h6 : nb (pkB s i) = 60 := of_decide_eq_true (of_not_f h6b)
   have h6c : (decide (nb (pkB s i) = 60)) = true := (of_not_f h6b)
   refine wp_skip <| q_tn ?_
   iterate 2 (refine wp_seq ?_)
   refine w_reg <| rl_run F (run_move (F.ev rfl)) rfl ?_; clear F a; intro a F
   refine rl_run F (run_gtr (F.ev rfl) (F.ev rfl)) rfl ?_; clear F a; intro a F
   refine rl_run F (run_move (F.ev rfl)) rfl ?_; clear F a; intro a F
   rcases Bool.eq_false_or_eq_true (decide (6 < ((lv : Nat) : Int))) with hc | hc
   ·skip
    have h7b := hc; clear hc
    have h7 : 6 < ((lv : Nat) : Int) := of_decide_eq_true h7b
    iterate 5 (refine rl_guard_f F rfl rfl rfl h7b ?_; clear F a; intro a F)
    refine rl_run F (run_pick_t (F.ev rfl) h7b (F.ev rfl)) rfl ?_; clear F a; intro a F
    refine rl_nil <| q_tn <| w_cond_t F rfl rfl ?_
    refine w_reg <| rl_run F (run_move (F.ev rfl)) rfl ?_; clear F a; intro a F
    change Mem w0 G (_ :: _ :: L) _ at M
    exact rl_callRd (G := G) (L := .blk b1 [.int .u8 (0), .string (str ([] : List UInt8)), .string (str ([] : List UInt8)), .slice none (0) (0), .string (str ([] : List UInt8)), .slice none (0) (0)] 30 :: L) (rb := rb) (s := s) F ent82 (run_callF F ent82 rfl rfl) rfl (rfail_spec (er := 14) M) (fun e_ w_ G_ i_ nd_ hg_ M_ h_ => finRd (P := Tryz.prog) (fn := Tryz.f81) F hg_ (M_.weaken (.cons_cons _ (.cons _ (List.Sublist.refl _)))) (by subst h_; exact node_tree (by omega) hlv (by omega))) (fun _ _ _ _ _ _ _ _ h_ _ => h_.elim)
   ·skip
    have h9b := hc; clear hc
    have h9 : ¬ (6 < ((lv : Nat) : Int)) := of_decide_eq_false h9b
    refine rl_guard_t F rfl rfl rfl h9b ?_
    refine rl_run F (run_move (F.ev rfl)) rfl ?_; clear F a; intro a F
    refine rl_guard_t F rfl rfl rfl h9b ?_
    refine rl_run F (run_nilCheck (F.ev rfl)) rfl ?_; clear F a; intro a F
    refine rl_guard_t F rfl rfl rfl h9b ?_
    refine rl_run F (run_fieldAddr tok122.k rfl rfl (F.ev rfl)) rfl ?_; clear F a; intro a F
    refine rl_guard_t F rfl rfl rfl h9b ?_
    refine rl_run F (run_load1 (agf tok3 rfl) (F.ev rfl) (M.cellL (k := 0) rfl rfl)) rfl ?_; clear F a; intro a F
    refine rl_guard_t F rfl rfl rfl h9b ?_
    refine rl_run F (run_eqi (F.ev rfl) (F.ev rfl)) rfl ?_; clear F a; intro a F
    refine rl_run F (run_pick_f (F.ev rfl) h9b (F.ev rfl)) rfl ?_; clear F a; intro a F
    refine rl_nil <| q_tn <| w_cond F rfl ?_ ?_
    ·intro hc
     have h10b := hc; clear hc
     have h10 : ((nd : Nat) : Int) = 64 := of_decide_eq_true h10b
     refine w_reg <| rl_run F (run_move (F.ev rfl)) rfl ?_; clear F a; intro a F
     change Mem w0 G (_ :: _ :: L) _ at M
     exact rl_callRd (G := G) (L := .blk b1 [.int .u8 (0), .string (str ([] : List UInt8)), .string (str ([] : List UInt8)), .slice none (0) (0), .string (str ([] : List UInt8)), .slice none (0) (0)] 30 :: L) (rb := rb) (s := s) F ent82 (run_callF F ent82 rfl rfl) rfl (rfail_spec (er := 14) M) (fun e_ w_ G_ i_ nd_ hg_ M_ h_ => finRd (P := Tryz.prog) (fn := Tryz.f81) F hg_ (M_.weaken (.cons_cons _ (.cons _ (List.Sublist.refl _)))) (by subst h_; exact node_tree (by omega) hlv (by omega))) (fun _ _ _ _ _ _ _ _ h_ _ => h_.elim)
    ·intro hc
     have h12b := hc; clear hc
     have h12 : ¬ (((nd : Nat) : Int) = 64) := of_decide_eq_false h12b
     refine wp_skip <| q_tn <| wp_seq ?_
     obtain ⟨d, rfl⟩ : ∃ d, D = d + 1 := ⟨D - 1, by omega⟩
     have hn64 : ¬ nd = 64 := by omega
     have h0 : ¬ (¬ nb (pkB s i) = 34 ∧ ¬ nb (pkB s i) = 60) := by omega
     refine w_reg <| rl_run F (run_move (F.ev rfl)) rfl ?_; clear F a; intro a F
     refine rl_run F (run_nilCheck (F.ev rfl)) rfl ?_; clear F a; intro a F
     refine rl_run F (run_fieldAddr tok122.k rfl rfl (F.ev rfl)) rfl ?_; clear F a; intro a F
     refine rl_run F (run_load1 (agf tok3 rfl) (F.ev rfl) (M.cellL (k := 0) rfl rfl)) rfl ?_; clear F a; intro a F
     refine rl_run F (run_addi (F.ev rfl) (F.ev rfl) (in_i64 (by omega) (by omega))) rfl ?_; clear F a; intro a F
     refine rl_run F (run_nilCheck (F.ev rfl)) rfl ?_; clear F a; intro a F
     refine rl_run F (run_fieldAddr tok122.k rfl rfl (F.ev rfl)) rfl ?_; clear F a; intro a F
     refine rl_store1 F M tok3 rfl (k := 0) rfl rfl rfl rfl rfl ?_; clear F M a; intro w a M F
     refine rl_nil <| q_tn ?_
     iterate 2 (refine wp_seq ?_)
     refine w_reg <| rl_run F (run_move (F.ev rfl)) rfl ?_; clear F a; intro a F
     refine rl_run F (run_eqi (F.ev rfl) (F.ev rfl)) rfl ?_; clear F a; intro a F
     refine rl_nil <| q_tn <| w_cond_f F rfl (decide_eq_false h3) ?_
     refine wp_skip <| q_tn <| wp_seq <| w_reg <| rl_run F (run_move (F.ev rfl)) rfl ?_; clear F a; intro a F
     change Mem w0 G (.blk rb [.string (str (s)), .int .i64 (((i : Nat) : Int)), .int .i64 ((((nd : Nat) : Int)) + 1)] 122 :: _ :: L) _ at M
     change Mem w0 G (.blk rb [.string (str (s)), .int .i64 (((i : Nat) : Int)), .int .i64 ((((nd : Nat) : Int)) + 1)] 122 :: _ :: L) _ at M
     refine rl_callRd (G := G) (L := .blk b1 [.int .u8 (0), .string (str ([] : List UInt8)), .string (str ([] : List UInt8)), .slice none (0) (0), .string (str ([] : List UInt8)), .slice none (0) (0)] 30 :: L) (rb := rb) (s := s) F ent102 (run_callF F ent102 rfl rfl) rfl (rtake_spec (wd := ([60] : List UInt8)) (i := i) (nd := nd + 1) (s := s) (L := .blk b1 [.int .u8 (0), .string (str ([] : List UInt8)), .string (str ([] : List UInt8)), .slice none (0) (0), .string (str ([] : List UInt8)), .slice none (0) (0)] 30 :: L) M (by decide) (by omega)) (fun e_ w_ G_ i_ nd_ hg_ M_ h_ => finRd (P := Tryz.prog) (fn := Tryz.f81) F hg_ (M_.weaken (.cons_cons _ (.cons _ (List.Sublist.refl _)))) (node_take_no hn64 (by assumption) h0 h_)) ?_; clear F M a; rintro v_ Gk13 ik13 ndk13 w a hGk13 M ⟨hTk13, hndk13, hIk13⟩ F
     change Mem w0 Gk13 (.blk rb [.string (str (s)), .int .i64 (((ik13 : Nat) : Int)), .int .i64 (((ndk13 : Nat) : Int))] 122 :: _ :: L) _ at M
     rw [hndk13] at M
     have hlek13 := take_le hTk13 (by decide) (by omega)
     simp only [List.length_cons, List.length_nil] at hIk13
     refine rl_nil <| q_tn <| wp_seq <| w_reg <| rl_run F (run_move (F.ev rfl)) rfl ?_; clear F a; intro a F
     change Mem w0 Gk13 (_ :: _ :: L) _ at M
     change Mem w0 Gk13 (_ :: _ :: L) _ at M
     refine rl_callRd (G := Gk13) (L := .blk b1 [.int .u8 (0), .string (str ([] : List UInt8)), .string (str ([] : List UInt8)), .slice none (0) (0), .string (str ([] : List UInt8)), .slice none (0) (0)] 30 :: L) (rb := rb) (s := s) F ent103 (run_callF F ent103 rfl rfl) rfl (rname_read (i := ik13) (nd := nd + 1) (s := s) (L := .blk b1 [.int .u8 (0), .string (str ([] : List UInt8)), .string (str ([] : List UInt8)), .slice none (0) (0), .string (str ([] : List UInt8)), .slice none (0) (0)] 30 :: L) M (by omega) hs) (fun e_ w_ G_ i_ nd_ hg_ M_ h_ => finRd (P := Tryz.prog) (fn := Tryz.f81) F (hGk13.trans hg_) (M_.weaken (.cons_cons _ (.cons _ (List.Sublist.refl _)))) (node_name_no hn64 (by assumption) h0 hTk13 h_)) ?_; clear F M a; rintro v_ Gk14 ik14 ndk14 w a hGk14 M ⟨tk14, hNk14, rfl, hndk14, hik14, hjk14, hlk14, hzk14⟩ F
     change Mem w0 Gk14 (.blk rb [.string (str (s)), .int .i64 (((ik14 : Nat) : Int)), .int .i64 (((ndk14 : Nat) : Int))] 122 :: _ :: L) _ at M
     rw [hndk14] at M
     refine rl_run F (run_buildS (cs := [.int .u8 (1), .string (str (tk14)), .string (str ([] : List UInt8)), .slice none (0) (0), .string (str ([] : List UInt8)), .slice none (0) (0)]) (ps := [(0, .int .u8 (1)), (1, .string (str (tk14)))]) tok30.k rfl tok30 (F.evp rfl) rfl) rfl ?_; clear F a; intro a F
     refine rl_alloc F M tok30 rfl rfl ?_; clear F M a; intro b15 w a M F
     refine rl_storeA F M tok30 (k := 0) rfl rfl rfl (us := [.int .u8 (1), .string (str (tk14)), .string (str ([] : List UInt8)), .slice none (0) (0), .string (str ([] : List UInt8)), .slice none (0) (0)]) rfl rfl (by simp [Value.oneCell']) (by simp) ?_; clear F M a; intro w a M F
     change Mem w0 Gk14 (.blk b15 [.int .u8 (1), .string (str (tk14)), .string (str ([] : List UInt8)), .slice none (0) (0), .string (str ([] : List UInt8)), .slice none (0) (0)] 30 :: _ :: _ :: L) _ at M
     refine rl_nil <| q_tn <| wp_seq ?_
     have hz9 := name_nz hNk14
     refine w_reg <| rl_run F (run_move (F.ev rfl)) rfl ?_; clear F a; intro a F
     refine rl_run F (run_makeFunc1 (F.ev rfl)) rfl ?_; clear F a; intro a F
     refine rl_run F (run_move (F.ev rfl)) rfl ?_; clear F a; intro a F
     refine rl_run F (run_makeFunc1 (F.ev rfl)) rfl ?_; clear F a; intro a F
     iterate 2 (refine rl_run F (run_assign (F.ev rfl)) rfl ?_; clear F a; intro a F)
     refine rl_nil <| q_tn <| wp_block ?_
     have M := M.nilrow 87 2
     refine w_loopN (fun m a' w' => ∃ (f : Nat), ∃ (j : Nat), ∃ (kk : List UInt8), ∃ (al : List AttrD), ∃ (ay : Option Addr), ∃ (ny : Nat), ∃ (cy : Nat), ∃ (csy : List Value), m = s.length + 1 - j ∧ ∃ G17, Gle Gk14 G17 ∧ Fits 120 a' [(0, .pointer (some ⟨rb, 0, none⟩)), (1, .int .i64 (((lv : Nat) : Int))), (4, .pointer (some ⟨b1, 0, none⟩)), (6, .pointer (some ⟨b15, 0, none⟩)), (7, .func (.func 101) #[.pointer (some ⟨rb, 0, none⟩)] #[]), (8, .func (.func 103) #[.pointer (some ⟨rb, 0, none⟩)] #[])] ∧ Mem w0 G17 (.row (.slice (ay) (ny) (cy)) (ny) (csy) 87 2 :: .blk b15 [.int .u8 (1), .string (str (tk14)), .string (str (kk)), .slice (ay) (ny) (cy), .string (str ([] : List UInt8)), .slice none (0) (0)] 30 :: .blk rb [.string (str (s)), .int .i64 (((j : Nat) : Int)), .int .i64 (((nd + 1 : Nat) : Int))] 122 :: .blk b1 [.int .u8 (0), .string (str ([] : List UInt8)), .string (str ([] : List UInt8)), .slice none (0) (0), .string (str ([] : List UInt8)), .slice none (0) (0)] 30 :: L) w' ∧ (nodeF s (d + 1) i nd = restF (chF s d) s f j (nd + 1) (tk14) kk al) ∧ (s.length + 1 ≤ f + j) ∧ (i < j ∧ j ≤ s.length) ∧ (kk.length ≤ 16) ∧ (al.length ≤ j) ∧ (ny = al.length) ∧ (Els rdAttr 2 G17 csy al)) _ ⟨(s.length + 1), ik14, [], [], (none), (0), (0), ([]), rfl, Gk14, Gle.refl _, F.to ⟨rfl, rfl, rfl, rfl, rfl, rfl, trivial⟩, M, node_rest hn64 (by assumption) h0 hTk13 hNk14, by omega, by omega, by decide, Nat.zero_le _, rfl, Els.nil⟩ ?_
     clear F M
     rintro m a w ⟨f, j, kk, al, ay, ny, cy, csy, rfl, G17, hG17, F, M, hX, hf, hj, hkl, hal, hny, Ey⟩
     refine wp_block <| wp_seq ?_
     obtain ⟨f', rfl⟩ : ∃ f', f = f' + 1 := ⟨f - 1, by omega⟩
     refine w_reg <| rl_run F (run_move (F.ev rfl)) rfl ?_; clear F a; intro a F
     replace M := M.perm (perm_front _ 2 _ rfl)
     change Mem w0 G17 (_ :: _ :: _ :: _ :: L) _ at M
     refine rl_callS F ent100 rfl rfl (rpeek_spec (L := .row (.slice (ay) (ny) (cy)) (ny) (csy) 87 2 :: .blk b15 [.int .u8 (1), .string (str (tk14)), .string (str (kk)), .slice (ay) (ny) (cy), .string (str ([] : List UInt8)), .slice none (0) (0)] 30 :: .blk b1 [.int .u8 (0), .string (str ([] : List UInt8)), .string (str ([] : List UInt8)), .slice none (0) (0), .string (str ([] : List UInt8)), .slice none (0) (0)] 30 :: L) M) ?_; clear F M a; rintro _ w a M rfl F
     change Mem w0 G17 (.blk rb [.string (str (s)), .int .i64 (((j : Nat) : Int)), .int .i64 (((nd + 1 : Nat) : Int))] 122 :: _ :: _ :: _ :: L) _ at M
     refine rl_nil <| q_tn <| wp_block <| wp_seq <| w_reg <| rl_run F (run_eqi (F.ev rfl) (F.ev rfl)) rfl ?_; clear F a; intro a F
     refine rl_run F (run_assign (F.ev rfl)) rfl ?_; clear F a; intro a F
     refine rl_nil <| q_tn <| w_cond F rfl ?_ ?_
     ·intro hc
      have h18b := hc; clear hc
      have h18 : nb (pkB s j) = 58 := of_decide_eq_true h18b
      iterate 2 (refine wp_seq ?_)
      refine w_reg <| rl_run F (run_fieldAddr tok30.k rfl rfl (F.ev rfl)) rfl ?_; clear F a; intro a F
      refine rl_run F (run_load1 (agf tok9 rfl) (F.ev rfl) (M.cellL (k := 2) rfl rfl)) rfl ?_; clear F a; intro a F
      refine rl_run F (run_strNe (F.ev rfl) (F.ev rfl)) rfl ?_; clear F a; intro a F
      refine rl_run F (run_move (F.ev rfl)) rfl ?_; clear F a; intro a F
      rcases Bool.eq_false_or_eq_true (!(decide (kk = ([] : List UInt8)))) with hc | hc
      ·skip
       have h19b := hc; clear hc
       have h19 : ¬ (kk = ([] : List UInt8)) := of_decide_eq_false (of_not_t h19b)
       have h19c : (decide (kk = ([] : List UInt8))) = false := (of_not_t h19b)
       iterate 4 (refine rl_guard_f F rfl rfl rfl (not_t h19c) ?_; clear F a; intro a F)
       refine rl_run F (run_pick_t (F.ev rfl) (not_t h19c) (F.ev rfl)) rfl ?_; clear F a; intro a F
       refine rl_nil <| q_tn <| w_cond_t F rfl rfl ?_
       refine w_reg <| rl_run F (run_move (F.ev rfl)) rfl ?_; clear F a; intro a F
       change Mem w0 G17 (_ :: _ :: _ :: _ :: L) _ at M
       exact rl_callRd (G := G17) (L := .row (.slice (ay) (ny) (cy)) (ny) (csy) 87 2 :: .blk b15 [.int .u8 (1), .string (str (tk14)), .string (str (kk)), .slice (ay) (ny) (cy), .string (str ([] : List UInt8)), .slice none (0) (0)] 30 :: .blk b1 [.int .u8 (0), .string (str ([] : List UInt8)), .string (str ([] : List UInt8)), .slice none (0) (0), .string (str ([] : List UInt8)), .slice none (0) (0)] 30 :: L) (rb := rb) (s := s) F ent82 (run_callF F ent82 rfl rfl) rfl (rfail_spec (er := 5) M) (fun e_ w_ G_ i_ nd_ hg_ M_ h_ => finRd (P := Tryz.prog) (fn := Tryz.f81) F (((hGk13.trans hGk14).trans hG17).trans hg_) (M_.weaken (.cons_cons _ (.cons _ (.cons _ (.cons _ (List.Sublist.refl _)))))) (by subst h_; exact rest_key_bad hX (by assumption) (by first | exact Or.inl (by assumption) | exact Or.inr (by omega)))) (fun _ _ _ _ _ _ _ _ h_ _ => h_.elim)
      ·skip
       have h21b := hc; clear hc
       have h21 : kk = ([] : List UInt8) := of_decide_eq_true (of_not_f h21b)
       have h21c : (decide (kk = ([] : List UInt8))) = true := (of_not_f h21b)
       refine rl_guard_t F rfl rfl rfl (not_f h21c) ?_
       refine rl_run F (run_fieldAddr tok30.k rfl rfl (F.ev rfl)) rfl ?_; clear F a; intro a F
       refine rl_guard_t F rfl rfl rfl (not_f h21c) ?_
       refine rl_run F (run_load1 (agf tok27 rfl) (F.ev rfl) (M.cellL (k := 2) rfl rfl)) rfl ?_; clear F a; intro a F
       refine rl_guard_t F rfl rfl rfl (not_f h21c) ?_
       refine rl_run F (run_lenSl tok27.k (F.ev rfl)) rfl ?_; clear F a; intro a F
       refine rl_guard_t F rfl rfl rfl (not_f h21c) ?_
       refine rl_run F (run_gtr (F.ev rfl) (F.ev rfl)) rfl ?_; clear F a; intro a F
       refine rl_run F (run_pick_f (F.ev rfl) (not_f h21c) (F.ev rfl)) rfl ?_; clear F a; intro a F
       refine rl_nil <| q_tn <| w_cond F rfl ?_ ?_
       ·intro hc
        have h22b := hc; clear hc
        have h22 : 0 < ((ny : Nat) : Int) := of_decide_eq_true h22b
        refine w_reg <| rl_run F (run_move (F.ev rfl)) rfl ?_; clear F a; intro a F
        change Mem w0 G17 (_ :: _ :: _ :: _ :: L) _ at M
        exact rl_callRd (G := G17) (L := .row (.slice (ay) (ny) (cy)) (ny) (csy) 87 2 :: .blk b15 [.int .u8 (1), .string (str (tk14)), .string (str (kk)), .slice (ay) (ny) (cy), .string (str ([] : List UInt8)), .slice none (0) (0)] 30 :: .blk b1 [.int .u8 (0), .string (str ([] : List UInt8)), .string (str ([] : List UInt8)), .slice none (0) (0), .string (str ([] : List UInt8)), .slice none (0) (0)] 30 :: L) (rb := rb) (s := s) F ent82 (run_callF F ent82 rfl rfl) rfl (rfail_spec (er := 5) M) (fun e_ w_ G_ i_ nd_ hg_ M_ h_ => finRd (P := Tryz.prog) (fn := Tryz.f81) F (((hGk13.trans hGk14).trans hG17).trans hg_) (M_.weaken (.cons_cons _ (.cons _ (.cons _ (.cons _ (List.Sublist.refl _)))))) (by subst h_; exact rest_key_bad hX (by assumption) (by first | exact Or.inl (by assumption) | exact Or.inr (by omega)))) (fun _ _ _ _ _ _ _ _ h_ _ => h_.elim)
       ·intro hc
        have h24b := hc; clear hc
        have h24 : ¬ (0 < ((ny : Nat) : Int)) := of_decide_eq_false h24b
        refine wp_skip <| q_tn <| wp_seq ?_
        have hjl9 := pkB_lt (s := s) (i := j) (by omega)
        refine w_reg <| rl_run F (run_move (F.ev rfl)) rfl ?_; clear F a; intro a F
        refine rl_run F (run_nilCheck (F.ev rfl)) rfl ?_; clear F a; intro a F
        refine rl_run F (run_fieldAddr tok122.k rfl rfl (F.ev rfl)) rfl ?_; clear F a; intro a F
        refine rl_run F (run_load1 (agf tok3 rfl) (F.ev rfl) (M.cellL (k := 0) rfl rfl)) rfl ?_; clear F a; intro a F
        refine rl_run F (run_addi (F.ev rfl) (F.ev rfl) (in_i64 (by omega) (by omega))) rfl ?_; clear F a; intro a F
        refine rl_run F (run_nilCheck (F.ev rfl)) rfl ?_; clear F a; intro a F
        refine rl_run F (run_fieldAddr tok122.k rfl rfl (F.ev rfl)) rfl ?_; clear F a; intro a F
        refine rl_store1 F M tok3 rfl (k := 0) rfl rfl rfl rfl rfl ?_; clear F M a; intro w a M F
        refine rl_nil <| q_tn <| w_reg <| rl_run F (run_move (F.ev rfl)) rfl ?_; clear F a; intro a F
        change Mem w0 G17 (.blk rb [.string (str (s)), .int .i64 ((((j : Nat) : Int)) + 1), .int .i64 (((nd + 1 : Nat) : Int))] 122 :: _ :: _ :: _ :: L) _ at M
        change Mem w0 G17 (.blk rb [.string (str (s)), .int .i64 ((((j : Nat) : Int)) + 1), .int .i64 (((nd + 1 : Nat) : Int))] 122 :: _ :: _ :: _ :: L) _ at M
        refine rl_callRd (G := G17) (L := .row (.slice (ay) (ny) (cy)) (ny) (csy) 87 2 :: .blk b15 [.int .u8 (1), .string (str (tk14)), .string (str (kk)), .slice (ay) (ny) (cy), .string (str ([] : List UInt8)), .slice none (0) (0)] 30 :: .blk b1 [.int .u8 (0), .string (str ([] : List UInt8)), .string (str ([] : List UInt8)), .slice none (0) (0), .string (str ([] : List UInt8)), .slice none (0) (0)] 30 :: L) (rb := rb) (s := s) F ent103 (run_callF F ent103 rfl rfl) rfl (rname_read (i := j + 1) (nd := nd + 1) (s := s) (L := .row (.slice (ay) (ny) (cy)) (ny) (csy) 87 2 :: .blk b15 [.int .u8 (1), .string (str (tk14)), .string (str (kk)), .slice (ay) (ny) (cy), .string (str ([] : List UInt8)), .slice none (0) (0)] 30 :: .blk b1 [.int .u8 (0), .string (str ([] : List UInt8)), .string (str ([] : List UInt8)), .slice none (0) (0), .string (str ([] : List UInt8)), .slice none (0) (0)] 30 :: L) M (by omega) hs) (fun e_ w_ G_ i_ nd_ hg_ M_ h_ => finRd (P := Tryz.prog) (fn := Tryz.f81) F (((hGk13.trans hGk14).trans hG17).trans hg_) (M_.weaken (.cons_cons _ (.cons _ (.cons _ (.cons _ (List.Sublist.refl _)))))) (rest_key_no hX (by assumption) (by rintro (h9 | h9); (exact h9 (by assumption)); omega) h_)) ?_; clear F M a; rintro v_ Gk25 ik25 ndk25 w a hGk25 M ⟨tk25, hNk25, rfl, hndk25, hik25, hjk25, hlk25, hzk25⟩ F
        replace Ey := Ey.mono mono_rdAttr hGk25
        change Mem w0 Gk25 (.blk rb [.string (str (s)), .int .i64 (((ik25 : Nat) : Int)), .int .i64 (((ndk25 : Nat) : Int))] 122 :: _ :: _ :: _ :: L) _ at M
        rw [hndk25] at M
        refine rl_run F (run_fieldAddr tok30.k rfl rfl (F.ev rfl)) rfl ?_; clear F a; intro a F
        refine rl_store1 F M tok9 rfl (k := 2) rfl rfl rfl rfl rfl ?_; clear F M a; intro w a M F
        refine rl_nil ?_
        iterate 2 (refine q_bn ?_)
        refine q_tn ?_
        replace M := M.perm (perm_front _ 3 _ rfl)
        replace M := M.perm (perm_front _ 1 _ rfl)
        replace M := M.perm (perm_front _ 3 _ rfl)
        replace M := M.perm (perm_front _ 3 _ rfl)
        change Mem w0 Gk25 (_ :: .blk b15 [.int .u8 (1), .string (str (tk14)), .string (str (tk25)), .slice (ay) (ny) (cy), .string (str ([] : List UInt8)), .slice none (0) (0)] 30 :: _ :: _ :: L) _ at M
        exact ⟨_, by omega, f', ik25, tk25, (al), (ay), (ny), (cy), (csy), rfl, Gk25, (hG17.trans hGk25), F.to ⟨rfl, rfl, rfl, rfl, rfl, rfl, trivial⟩, (M.weaken (.cons_cons _ (.cons_cons _ (.cons_cons _ (.cons_cons _ (List.Sublist.refl _)))))), rest_key hX (by assumption) (by rintro (h9 | h9); (exact h9 (by assumption)); omega) hNk25, by omega, by omega, by omega, by omega, hny, Ey⟩
     ·intro hc
      have h26b := hc; clear hc
      have h26 : ¬ (nb (pkB s j) = 58) := of_decide_eq_false h26b
      refine wp_seq <| w_reg <| rl_run F (run_eqi (F.ev rfl) (F.ev rfl)) rfl ?_; clear F a; intro a F
      refine rl_run F (run_assign (F.ev rfl)) rfl ?_; clear F a; intro a F
      refine rl_nil <| q_tn <| w_cond F rfl ?_ ?_
      ·intro hc
       have h27b := hc; clear hc
       have h27 : nb (pkB s j) = 32 := of_decide_eq_true h27b
       refine wp_seq ?_
       have hjl9 := pkB_lt (s := s) (i := j) (by omega)
       refine w_reg <| rl_run F (run_move (F.ev rfl)) rfl ?_; clear F a; intro a F
       refine rl_run F (run_nilCheck (F.ev rfl)) rfl ?_; clear F a; intro a F
       refine rl_run F (run_fieldAddr tok122.k rfl rfl (F.ev rfl)) rfl ?_; clear F a; intro a F
       refine rl_run F (run_load1 (agf tok3 rfl) (F.ev rfl) (M.cellL (k := 0) rfl rfl)) rfl ?_; clear F a; intro a F
       refine rl_run F (run_addi (F.ev rfl) (F.ev rfl) (in_i64 (by omega) (by omega))) rfl ?_; clear F a; intro a F
       refine rl_run F (run_nilCheck (F.ev rfl)) rfl ?_; clear F a; intro a F
       refine rl_run F (run_fieldAddr tok122.k rfl rfl (F.ev rfl)) rfl ?_; clear F a; intro a F
       refine rl_store1 F M tok3 rfl (k := 0) rfl rfl rfl rfl rfl ?_; clear F M a; intro w a M F
       refine rl_nil <| q_tn <| wp_seq <| w_reg <| rl_run F (run_move (F.ev rfl)) rfl ?_; clear F a; intro a F
       change Mem w0 G17 (.blk rb [.string (str (s)), .int .i64 ((((j : Nat) : Int)) + 1), .int .i64 (((nd + 1 : Nat) : Int))] 122 :: _ :: _ :: _ :: L) _ at M
       change Mem w0 G17 (.blk rb [.string (str (s)), .int .i64 ((((j : Nat) : Int)) + 1), .int .i64 (((nd + 1 : Nat) : Int))] 122 :: _ :: _ :: _ :: L) _ at M
       refine rl_callRd (G := G17) (L := .row (.slice (ay) (ny) (cy)) (ny) (csy) 87 2 :: .blk b15 [.int .u8 (1), .string (str (tk14)), .string (str (kk)), .slice (ay) (ny) (cy), .string (str ([] : List UInt8)), .slice none (0) (0)] 30 :: .blk b1 [.int .u8 (0), .string (str ([] : List UInt8)), .string (str ([] : List UInt8)), .slice none (0) (0), .string (str ([] : List UInt8)), .slice none (0) (0)] 30 :: L) (rb := rb) (s := s) F ent103 (run_callF F ent103 rfl rfl) rfl (rname_read (i := j + 1) (nd := nd + 1) (s := s) (L := .row (.slice (ay) (ny) (cy)) (ny) (csy) 87 2 :: .blk b15 [.int .u8 (1), .string (str (tk14)), .string (str (kk)), .slice (ay) (ny) (cy), .string (str ([] : List UInt8)), .slice none (0) (0)] 30 :: .blk b1 [.int .u8 (0), .string (str ([] : List UInt8)), .string (str ([] : List UInt8)), .slice none (0) (0), .string (str ([] : List UInt8)), .slice none (0) (0)] 30 :: L) M (by omega) hs) (fun e_ w_ G_ i_ nd_ hg_ M_ h_ => finRd (P := Tryz.prog) (fn := Tryz.f81) F (((hGk13.trans hGk14).trans hG17).trans hg_) (M_.weaken (.cons_cons _ (.cons _ (.cons _ (.cons _ (List.Sublist.refl _)))))) (rest_at_no1 hX (by assumption) (by assumption) h_)) ?_; clear F M a; rintro v_ Gk28 ik28 ndk28 w a hGk28 M ⟨tk28, hNk28, rfl, hndk28, hik28, hjk28, hlk28, hzk28⟩ F
       replace Ey := Ey.mono mono_rdAttr hGk28
       change Mem w0 Gk28 (.blk rb [.string (str (s)), .int .i64 (((ik28 : Nat) : Int)), .int .i64 (((ndk28 : Nat) : Int))] 122 :: _ :: _ :: _ :: L) _ at M
       rw [hndk28] at M
       refine rl_run F (run_buildS (cs := [.string (str (tk28)), .string (str ([] : List UInt8))]) (ps := [(0, .string (str (tk28)))]) tok87.k rfl tok87 (F.evp rfl) rfl) rfl ?_; clear F a; intro a F
       refine rl_alloc F M tok87 rfl rfl ?_; clear F M a; intro b29 w a M F
       refine rl_storeA F M tok87 (k := 0) rfl rfl rfl (us := [.string (str (tk28)), .string (str ([] : List UInt8))]) rfl rfl (by simp [Value.oneCell']) (by simp) ?_; clear F M a; intro w a M F
       change Mem w0 Gk28 (.blk b29 [.string (str (tk28)), .string (str ([] : List UInt8))] 87 :: _ :: _ :: _ :: _ :: L) _ at M
       refine rl_nil <| q_tn <| wp_seq <| w_reg <| rl_run F (run_move (F.ev rfl)) rfl ?_; clear F a; intro a F
       replace M := M.perm (perm_front _ 1 _ rfl)
       change Mem w0 Gk28 (_ :: .blk b29 [.string (str (tk28)), .string (str ([] : List UInt8))] 87 :: _ :: _ :: _ :: L) _ at M
       change Mem w0 Gk28 (_ :: .blk b29 [.string (str (tk28)), .string (str ([] : List UInt8))] 87 :: _ :: _ :: _ :: L) _ at M
       refine rl_callRd (G := Gk28) (L := .blk b29 [.string (str (tk28)), .string (str ([] : List UInt8))] 87 :: .row (.slice (ay) (ny) (cy)) (ny) (csy) 87 2 :: .blk b15 [.int .u8 (1), .string (str (tk14)), .string (str (kk)), .slice (ay) (ny) (cy), .string (str ([] : List UInt8)), .slice none (0) (0)] 30 :: .blk b1 [.int .u8 (0), .string (str ([] : List UInt8)), .string (str ([] : List UInt8)), .slice none (0) (0), .string (str ([] : List UInt8)), .slice none (0) (0)] 30 :: L) (rb := rb) (s := s) F ent102 (run_callF F ent102 rfl rfl) rfl (rtake_spec (wd := ([61] : List UInt8)) (i := ik28) (nd := nd + 1) (s := s) (L := .blk b29 [.string (str (tk28)), .string (str ([] : List UInt8))] 87 :: .row (.slice (ay) (ny) (cy)) (ny) (csy) 87 2 :: .blk b15 [.int .u8 (1), .string (str (tk14)), .string (str (kk)), .slice (ay) (ny) (cy), .string (str ([] : List UInt8)), .slice none (0) (0)] 30 :: .blk b1 [.int .u8 (0), .string (str ([] : List UInt8)), .string (str ([] : List UInt8)), .slice none (0) (0), .string (str ([] : List UInt8)), .slice none (0) (0)] 30 :: L) M (by decide) (by omega)) (fun e_ w_ G_ i_ nd_ hg_ M_ h_ => finRd (P := Tryz.prog) (fn := Tryz.f81) F ((((hGk13.trans hGk14).trans hG17).trans hGk28).trans hg_) (M_.weaken (.cons_cons _ (.cons _ (.cons _ (.cons _ (.cons _ (List.Sublist.refl _))))))) (rest_at_no2 hX (by assumption) (by assumption) hNk28 h_)) ?_; clear F M a; rintro v_ Gk31 ik31 ndk31 w a hGk31 M ⟨hTk31, hndk31, hIk31⟩ F
       replace Ey := Ey.mono mono_rdAttr hGk31
       change Mem w0 Gk31 (.blk rb [.string (str (s)), .int .i64 (((ik31 : Nat) : Int)), .int .i64 (((ndk31 : Nat) : Int))] 122 :: .blk b29 [.string (str (tk28)), .string (str ([] : List UInt8))] 87 :: _ :: _ :: _ :: L) _ at M
       rw [hndk31] at M
       have hlek31 := take_le hTk31 (by decide) (by omega)
       simp only [List.length_cons, List.length_nil] at hIk31
       refine rl_nil <| q_tn <| wp_seq <| w_reg <| rl_run F (run_move (F.ev rfl)) rfl ?_; clear F a; intro a F
       change Mem w0 Gk31 (_ :: .blk b29 [.string (str (tk28)), .string (str ([] : List UInt8))] 87 :: _ :: _ :: _ :: L) _ at M
       change Mem w0 Gk31 (_ :: .blk b29 [.string (str (tk28)), .string (str ([] : List UInt8))] 87 :: _ :: _ :: _ :: L) _ at M
       refine rl_callRd (G := Gk31) (L := .blk b29 [.string (str (tk28)), .string (str ([] : List UInt8))] 87 :: .row (.slice (ay) (ny) (cy)) (ny) (csy) 87 2 :: .blk b15 [.int .u8 (1), .string (str (tk14)), .string (str (kk)), .slice (ay) (ny) (cy), .string (str ([] : List UInt8)), .slice none (0) (0)] 30 :: .blk b1 [.int .u8 (0), .string (str ([] : List UInt8)), .string (str ([] : List UInt8)), .slice none (0) (0), .string (str ([] : List UInt8)), .slice none (0) (0)] 30 :: L) (rb := rb) (s := s) F ent101 (run_callF F ent101 rfl rfl) rfl (rvalue_read (i := ik31) (nd := nd + 1) (s := s) (L := .blk b29 [.string (str (tk28)), .string (str ([] : List UInt8))] 87 :: .row (.slice (ay) (ny) (cy)) (ny) (csy) 87 2 :: .blk b15 [.int .u8 (1), .string (str (tk14)), .string (str (kk)), .slice (ay) (ny) (cy), .string (str ([] : List UInt8)), .slice none (0) (0)] 30 :: .blk b1 [.int .u8 (0), .string (str ([] : List UInt8)), .string (str ([] : List UInt8)), .slice none (0) (0), .string (str ([] : List UInt8)), .slice none (0) (0)] 30 :: L) M (by omega) hs) (fun e_ w_ G_ i_ nd_ hg_ M_ h_ => finRd (P := Tryz.prog) (fn := Tryz.f81) F (((((hGk13.trans hGk14).trans hG17).trans hGk28).trans hGk31).trans hg_) (M_.weaken (.cons_cons _ (.cons _ (.cons _ (.cons _ (.cons _ (List.Sublist.refl _))))))) (rest_at_no3 hX (by assumption) (by assumption) hNk28 hTk31 h_)) ?_; clear F M a; rintro v_ Gk32 ik32 ndk32 w a hGk32 M ⟨tk32, hNk32, rfl, hndk32, hik32, hjk32, hlk32⟩ F
       replace Ey := Ey.mono mono_rdAttr hGk32
       change Mem w0 Gk32 (.blk rb [.string (str (s)), .int .i64 (((ik32 : Nat) : Int)), .int .i64 (((ndk32 : Nat) : Int))] 122 :: .blk b29 [.string (str (tk28)), .string (str ([] : List UInt8))] 87 :: _ :: _ :: _ :: L) _ at M
       rw [hndk32] at M
       refine rl_run F (run_fieldAddr tok87.k rfl rfl (F.ev rfl)) rfl ?_; clear F a; intro a F
       refine rl_store1 F M tok9 rfl (k := 1) rfl rfl rfl rfl rfl ?_; clear F M a; intro w a M F
       refine rl_nil <| q_tn <| w_reg <| rl_run F (run_fieldAddr tok30.k rfl rfl (F.ev rfl)) rfl ?_; clear F a; intro a F
       refine rl_run F (run_load1 (agf tok27 rfl) (F.ev rfl) (M.cellL (k := 3) rfl rfl)) rfl ?_; clear F a; intro a F
       refine rl_run F (run_loadA tok87 rfl (F.ev rfl) (cs := [.string (str (tk28)), .string (str (tk32))]) rfl (M.cellsL (k := 1) rfl rfl)) rfl ?_; clear F a; intro a F
       refine rl_buildSlice1 F M tok27.k tok87 rfl rfl (cs := [.string (str (tk28)), .string (str (tk32))]) rfl rfl (by simp [Value.oneCell']) (by decide) rfl ?_; clear F M a; intro v33 w a M F
       obtain ⟨av33, cv33, rfl, hlev33, hcmv33, hlv33⟩ := M.row_shape (k := 0) rfl
       have E34 : Els rdAttr 2 Gk32 [.string (str (tk28)), .string (str (tk32))] [(⟨tk28, tk32⟩ : AttrD)] := Els.one ⟨rfl, by show tk28.length ≤ _; omega, by show tk32.length ≤ _; omega⟩ rfl
       refine rl_append_row F M (k := 3) (k2 := 0) rfl rfl tok27.k tok87 rfl rfl (by decide) rfl rfl (by show _ * 32 ≤ _; (try simp only [List.length_drop, List.length_take, List.length_append, List.length_cons, List.length_nil]); omega) (by (try simp only [List.length_drop, List.length_take, List.length_append, List.length_cons, List.length_nil]); omega) rfl ?_; clear F M a; intro v35 w a M F
       have Ev35 := Els.append Ey E34
       obtain ⟨av35, cv35, rfl, hlev35, hcmv35, hlv35⟩ := M.row_shape (k := 3) rfl
       refine rl_run F (run_fieldAddr tok30.k rfl rfl (F.ev rfl)) rfl ?_; clear F a; intro a F
       refine rl_store1 F M tok27 rfl (k := 4) rfl rfl rfl rfl rfl ?_; clear F M a; intro w a M F
       refine rl_nil ?_
       iterate 2 (refine q_bn ?_)
       refine q_tn ?_
       replace M := M.perm (perm_front _ 5 _ rfl)
       replace M := M.perm (perm_front _ 2 _ rfl)
       replace M := M.perm (perm_front _ 5 _ rfl)
       replace M := M.perm (perm_front _ 5 _ rfl)
       change Mem w0 Gk32 (_ :: .blk b15 [.int .u8 (1), .string (str (tk14)), .string (str (kk)), .slice (av35) (ny + 1) (cv35), .string (str ([] : List UInt8)), .slice none (0) (0)] 30 :: _ :: _ :: _ :: .blk b29 [.string (str (tk28)), .string (str (tk32))] 87 :: L) _ at M
       exact ⟨_, by omega, f', ik32, kk, (al ++ ([(⟨tk28, tk32⟩ : AttrD)])), (av35), (ny + 1), (cv35), (csy ++ ([.string (str (tk28)), .string (str (tk32))])), rfl, Gk32, (((hG17.trans hGk28).trans hGk31).trans hGk32), F.to ⟨rfl, rfl, rfl, rfl, rfl, rfl, trivial⟩, (M.weaken (.cons_cons _ (.cons_cons _ (.cons_cons _ (.cons_cons _ (.cons _ (.cons _ (List.Sublist.refl _)))))))), rest_at hX (by assumption) (by assumption) hNk28 hTk31 hNk32, by omega, by omega, hkl, by rw [List.length_append, List.length_singleton]; omega, by rw [List.length_append, ← hny]; rfl, Ev35⟩
      ·intro hc
       have h36b := hc; clear hc
       have h36 : ¬ (nb (pkB s j) = 32) := of_decide_eq_false h36b
       refine wp_seq <| w_reg <| rl_run F (run_eqi (F.ev rfl) (F.ev rfl)) rfl ?_; clear F a; intro a F
       refine rl_run F (run_assign (F.ev rfl)) rfl ?_; clear F a; intro a F
       refine rl_nil <| q_tn <| w_cond F rfl ?_ ?_
       ·intro hc
        have h37b := hc; clear hc
        have h37 : nb (pkB s j) = 47 := of_decide_eq_true h37b
        refine wp_seq <| w_reg <| rl_run F (run_move (F.ev rfl)) rfl ?_; clear F a; intro a F
        change Mem w0 G17 (_ :: _ :: _ :: _ :: L) _ at M
        change Mem w0 G17 (_ :: _ :: _ :: _ :: L) _ at M
        refine rl_callRd (G := G17) (L := .row (.slice (ay) (ny) (cy)) (ny) (csy) 87 2 :: .blk b15 [.int .u8 (1), .string (str (tk14)), .string (str (kk)), .slice (ay) (ny) (cy), .string (str ([] : List UInt8)), .slice none (0) (0)] 30 :: .blk b1 [.int .u8 (0), .string (str ([] : List UInt8)), .string (str ([] : List UInt8)), .slice none (0) (0), .string (str ([] : List UInt8)), .slice none (0) (0)] 30 :: L) (rb := rb) (s := s) F ent102 (run_callF F ent102 rfl rfl) rfl (rtake_spec (wd := ([47, 62] : List UInt8)) (i := j) (nd := nd + 1) (s := s) (L := .row (.slice (ay) (ny) (cy)) (ny) (csy) 87 2 :: .blk b15 [.int .u8 (1), .string (str (tk14)), .string (str (kk)), .slice (ay) (ny) (cy), .string (str ([] : List UInt8)), .slice none (0) (0)] 30 :: .blk b1 [.int .u8 (0), .string (str ([] : List UInt8)), .string (str ([] : List UInt8)), .slice none (0) (0), .string (str ([] : List UInt8)), .slice none (0) (0)] 30 :: L) M (by decide) (by omega)) (fun e_ w_ G_ i_ nd_ hg_ M_ h_ => finRd (P := Tryz.prog) (fn := Tryz.f81) F (((hGk13.trans hGk14).trans hG17).trans hg_) (M_.weaken (.cons_cons _ (.cons _ (.cons _ (.cons _ (List.Sublist.refl _)))))) (rest_end_no hX (by assumption) (by assumption) (by assumption) h_)) ?_; clear F M a; rintro v_ Gk38 ik38 ndk38 w a hGk38 M ⟨hTk38, hndk38, hIk38⟩ F
        replace Ey := Ey.mono mono_rdAttr hGk38
        change Mem w0 Gk38 (.blk rb [.string (str (s)), .int .i64 (((ik38 : Nat) : Int)), .int .i64 (((ndk38 : Nat) : Int))] 122 :: _ :: _ :: _ :: L) _ at M
        rw [hndk38] at M
        have hlek38 := take_le hTk38 (by decide) (by omega)
        simp only [List.length_cons, List.length_nil] at hIk38
        refine rl_nil <| q_tn <| wp_seq <| w_reg <| rl_run F (run_loadA tok30 rfl (F.ev rfl) (cs := [.int .u8 (1), .string (str (tk14)), .string (str (kk)), .slice (ay) (ny) (cy), .string (str ([] : List UInt8)), .slice none (0) (0)]) rfl (M.cellsL (k := 2) rfl rfl)) rfl ?_; clear F a; intro a F
        refine rl_storeA F M tok30 (k := 3) rfl rfl rfl (us := [.int .u8 (1), .string (str (tk14)), .string (str (kk)), .slice (ay) (ny) (cy), .string (str ([] : List UInt8)), .slice none (0) (0)]) rfl rfl (by simp [Value.oneCell']) (by simp) ?_; clear F M a; intro w a M F
        change Mem w0 Gk38 (_ :: _ :: _ :: .blk b1 [.int .u8 (1), .string (str (tk14)), .string (str (kk)), .slice (ay) (ny) (cy), .string (str ([] : List UInt8)), .slice none (0) (0)] 30 :: L) _ at M
        refine rl_nil <| q_tn <| wp_ret ?_
        iterate 2 (refine q_br ?_)
        refine q_tr <| q_br ?_
        change Mem w0 Gk38 (_ :: _ :: _ :: .blk b1 [.int .u8 (1), .string (str (tk14)), .string (str (kk)), .slice (ay) (ny) (cy), .string (str ([] : List UInt8)), .slice none (0) (0)] 30 :: L) _ at M
        obtain ⟨hnz39, Gz39, az39, cz39, hGz39, hez39, Sz39, M⟩ := M.freeze_row mono_rdAttr (k := 1) rfl Ey (by decide)
        clear hez39 az39 cz39
        change Mem w0 Gz39 (_ :: _ :: .blk b1 [.int .u8 (1), .string (str (tk14)), .string (str (kk)), .slice (ay) (ny) (cy), .string (str ([] : List UInt8)), .slice none (0) (0)] 30 :: L) _ at M
        subst hny
        refine fin_c F M (k := 2) rfl rfl tok30 rfl rfl rfl ?_
        exact ⟨_, ik38, nd + 1, ((((hGk13.trans hGk14).trans hG17).trans hGk38).trans hGz39), M.weaken (.cons_cons _ (.cons _ (.cons _ (List.Sublist.refl _)))), (.mk 1 tk14 kk al [] [] : NT), _, _, _, _, rest_end hX (by assumption) (by assumption) (by assumption) hTk38, rfl, ⟨by show (0 : Int) ≤ 1; decide, by show (1 : Int) ≤ 255; decide⟩, ⟨by show (tk14).length ≤ _; omega, by show kk.length ≤ _; omega, Nat.zero_le _⟩, Sz39, RdSl.nil, by omega, by omega, by omega⟩
       ·intro hc
        have h40b := hc; clear hc
        have h40 : ¬ (nb (pkB s j) = 47) := of_decide_eq_false h40b
        refine wp_seq <| w_reg <| rl_run F (run_eqi (F.ev rfl) (F.ev rfl)) rfl ?_; clear F a; intro a F
        refine rl_run F (run_assign (F.ev rfl)) rfl ?_; clear F a; intro a F
        refine rl_nil <| q_tn <| w_cond F rfl ?_ ?_
        ·intro hc
         have h41b := hc; clear hc
         have h41 : nb (pkB s j) = 62 := of_decide_eq_true h41b
         refine wp_seq ?_
         have hjl9 := pkB_lt (s := s) (i := j) (by omega)
         refine w_reg <| rl_run F (run_move (F.ev rfl)) rfl ?_; clear F a; intro a F
         refine rl_run F (run_nilCheck (F.ev rfl)) rfl ?_; clear F a; intro a F
         refine rl_run F (run_fieldAddr tok122.k rfl rfl (F.ev rfl)) rfl ?_; clear F a; intro a F
         refine rl_run F (run_load1 (agf tok3 rfl) (F.ev rfl) (M.cellL (k := 0) rfl rfl)) rfl ?_; clear F a; intro a F
         refine rl_run F (run_addi (F.ev rfl) (F.ev rfl) (in_i64 (by omega) (by omega))) rfl ?_; clear F a; intro a F
         refine rl_run F (run_nilCheck (F.ev rfl)) rfl ?_; clear F a; intro a F
         refine rl_run F (run_fieldAddr tok122.k rfl rfl (F.ev rfl)) rfl ?_; clear F a; intro a F
         refine rl_store1 F M tok3 rfl (k := 0) rfl rfl rfl rfl rfl ?_; clear F M a; intro w a M F
         refine rl_nil <| q_tn <| wp_seq <| w_reg ?_
         iterate 2 (refine rl_run F (run_move (F.ev rfl)) rfl ?_; clear F a; intro a F)
         replace M := M.perm (perm_front _ 2 _ rfl)
         replace M := M.perm (perm_front _ 1 _ rfl)
         change Mem w0 G17 (.blk rb [.string (str (s)), .int .i64 ((((j : Nat) : Int)) + 1), .int .i64 (((nd + 1 : Nat) : Int))] 122 :: _ :: _ :: _ :: L) _ at M
         refine rl_callRx (G := G17) (L := .row (.slice (ay) (ny) (cy)) (ny) (csy) 87 2 :: .blk b1 [.int .u8 (0), .string (str ([] : List UInt8)), .string (str ([] : List UInt8)), .slice none (0) (0), .string (str ([] : List UInt8)), .slice none (0) (0)] 30 :: L) (rb := rb) (s := s) F ent104 (run_callF F ent104 rfl rfl) rfl (ih d rfl _ _ _ _ _ (j + 1) (nd + 1) (lv) _ _ (tk14) (kk) (.slice (ay) (ny) (cy)) (by omega) (by omega) hs (by omega) (by omega) hz9 M) (fun e_ w_ G_ i_ nd_ hg_ M_ h_ => finRd (P := Tryz.prog) (fn := Tryz.f81) F (((hGk13.trans hGk14).trans hG17).trans hg_) (M_.weaken (.cons_cons _ (.cons _ (.cons _ (List.Sublist.refl _))))) (rest_kids_no hX (by assumption) (by assumption) (by assumption) (by assumption) h_)) ?_; clear F M a; rintro v_ Gk42 ik42 ndk42 _ w a hGk42 M ⟨ak42, ck42, ksk42, rfl, hCk42, Sk42, hik42, hjk42, hdk42⟩ F
         replace Ey := Ey.mono mono_rdAttr hGk42
         change Mem w0 Gk42 (.blk rb [.string (str (s)), .int .i64 (((ik42 : Nat) : Int)), .int .i64 (((ndk42 : Nat) : Int))] 122 :: .blk b15 [.int .u8 (1), .string (str (tk14)), .string (str (kk)), .slice (ay) (ny) (cy), .string (str ([] : List UInt8)), .slice (ak42) (ksk42.length) (ck42)] 30 :: .row (.slice (ay) (ny) (cy)) (ny) (csy) 87 2 :: .blk b1 [.int .u8 (0), .string (str ([] : List UInt8)), .string (str ([] : List UInt8)), .slice none (0) (0), .string (str ([] : List UInt8)), .slice none (0) (0)] 30 :: L) _ at M
         refine rl_nil <| q_tn <| wp_seq <| w_reg <| rl_run F (run_loadA tok30 rfl (F.ev rfl) (cs := [.int .u8 (1), .string (str (tk14)), .string (str (kk)), .slice (ay) (ny) (cy), .string (str ([] : List UInt8)), .slice (ak42) (ksk42.length) (ck42)]) rfl (M.cellsL (k := 1) rfl rfl)) rfl ?_; clear F a; intro a F
         refine rl_storeA F M tok30 (k := 3) rfl rfl rfl (us := [.int .u8 (1), .string (str (tk14)), .string (str (kk)), .slice (ay) (ny) (cy), .string (str ([] : List UInt8)), .slice (ak42) (ksk42.length) (ck42)]) rfl rfl (by simp [Value.oneCell']) (by simp) ?_; clear F M a; intro w a M F
         change Mem w0 Gk42 (_ :: _ :: _ :: .blk b1 [.int .u8 (1), .string (str (tk14)), .string (str (kk)), .slice (ay) (ny) (cy), .string (str ([] : List UInt8)), .slice (ak42) (ksk42.length) (ck42)] 30 :: L) _ at M
         refine rl_nil <| q_tn <| wp_ret ?_
         iterate 2 (refine q_br ?_)
         refine q_tr <| q_br ?_
         change Mem w0 Gk42 (_ :: _ :: _ :: .blk b1 [.int .u8 (1), .string (str (tk14)), .string (str (kk)), .slice (ay) (ny) (cy), .string (str ([] : List UInt8)), .slice (ak42) (ksk42.length) (ck42)] 30 :: L) _ at M
         obtain ⟨hnz43, Gz43, az43, cz43, hGz43, hez43, Sz43, M⟩ := M.freeze_row mono_rdAttr (k := 2) rfl Ey (by decide)
         clear hez43 az43 cz43
         replace Sk42 := Sk42.mono mono_rdN hGz43
         change Mem w0 Gz43 (_ :: _ :: .blk b1 [.int .u8 (1), .string (str (tk14)), .string (str (kk)), .slice (ay) (ny) (cy), .string (str ([] : List UInt8)), .slice (ak42) (ksk42.length) (ck42)] 30 :: L) _ at M
         subst hny
         refine fin_c F M (k := 2) rfl rfl tok30 rfl rfl rfl ?_
         exact ⟨_, ik42, ndk42, ((((hGk13.trans hGk14).trans hG17).trans hGk42).trans hGz43), M.weaken (.cons_cons _ (.cons _ (.cons _ (List.Sublist.refl _)))), (.mk 1 tk14 kk al [] ksk42 : NT), _, _, _, _, rest_kids hX (by assumption) (by assumption) (by assumption) (by assumption) hCk42, rfl, ⟨by show (0 : Int) ≤ 1; decide, by show (1 : Int) ≤ 255; decide⟩, ⟨by show (tk14).length ≤ _; omega, by show kk.length ≤ _; omega, Nat.zero_le _⟩, Sz43, Sk42, by omega, by omega, by omega⟩
        ·intro hc
         have h44b := hc; clear hc
         have h44 : ¬ (nb (pkB s j) = 62) := of_decide_eq_false h44b
         refine w_reg <| rl_run F (run_move (F.ev rfl)) rfl ?_; clear F a; intro a F
         change Mem w0 G17 (_ :: _ :: _ :: _ :: L) _ at M
         exact rl_callRd (G := G17) (L := .row (.slice (ay) (ny) (cy)) (ny) (csy) 87 2 :: .blk b15 [.int .u8 (1), .string (str (tk14)), .string (str (kk)), .slice (ay) (ny) (cy), .string (str ([] : List UInt8)), .slice none (0) (0)] 30 :: .blk b1 [.int .u8 (0), .string (str ([] : List UInt8)), .string (str ([] : List UInt8)), .slice none (0) (0), .string (str ([] : List UInt8)), .slice none (0) (0)] 30 :: L) (rb := rb) (s := s) F ent82 (run_callF F ent82 rfl rfl) rfl (rfail_spec (er := 5) M) (fun e_ w_ G_ i_ nd_ hg_ M_ h_ => finRd (P := Tryz.prog) (fn := Tryz.f81) F (((hGk13.trans hGk14).trans hG17).trans hg_) (M_.weaken (.cons_cons _ (.cons _ (.cons _ (.cons _ (List.Sublist.refl _)))))) (by subst h_; exact rest_bad hX (by assumption) (by assumption) (by assumption) (by assumption))) (fun _ _ _ _ _ _ _ _ h_ _ => h_.elim)
 ·skip
  have h46b := hc; clear hc
  have h46 : nb (pkB s i) = 34 := of_decide_eq_true (of_not_f h46b)
  have h46c : (decide (nb (pkB s i) = 34)) = true := (of_not_f h46b)
  iterate 2 (refine rl_guard_f F rfl rfl rfl (not_f h46c) ?_; clear F a; intro a F)
  refine rl_run F (run_pick_f (F.ev rfl) (not_f h46c) (F.ev rfl)) rfl ?_; clear F a; intro a F
  refine rl_nil <| q_tn <| w_cond_f F rfl rfl ?_
  refine wp_skip <| q_tn ?_
  iterate 2 (refine wp_seq ?_)
  refine w_reg <| rl_run F (run_move (F.ev rfl)) rfl ?_; clear F a; intro a F
  refine rl_run F (run_gtr (F.ev rfl) (F.ev rfl)) rfl ?_; clear F a; intro a F
  refine rl_run F (run_move (F.ev rfl)) rfl ?_; clear F a; intro a F
  rcases Bool.eq_false_or_eq_true (decide (6 < ((lv : Nat) : Int))) with hc | hc
  ·skip
   have h47b := hc; clear hc
   have h47 : 6 < ((lv : Nat) : Int) := of_decide_eq_true h47b
   iterate 5 (refine rl_guard_f F rfl rfl rfl h47b ?_; clear F a; intro a F)
   refine rl_run F (run_pick_t (F.ev rfl) h47b (F.ev rfl)) rfl ?_; clear F a; intro a F
   refine rl_nil <| q_tn <| w_cond_t F rfl rfl ?_
   refine w_reg <| rl_run F (run_move (F.ev rfl)) rfl ?_; clear F a; intro a F
   change Mem w0 G (_ :: _ :: L) _ at M
   exact rl_callRd (G := G) (L := .blk b1 [.int .u8 (0), .string (str ([] : List UInt8)), .string (str ([] : List UInt8)), .slice none (0) (0), .string (str ([] : List UInt8)), .slice none (0) (0)] 30 :: L) (rb := rb) (s := s) F ent82 (run_callF F ent82 rfl rfl) rfl (rfail_spec (er := 14) M) (fun e_ w_ G_ i_ nd_ hg_ M_ h_ => finRd (P := Tryz.prog) (fn := Tryz.f81) F hg_ (M_.weaken (.cons_cons _ (.cons _ (List.Sublist.refl _)))) (by subst h_; exact node_tree (by omega) hlv (by omega))) (fun _ _ _ _ _ _ _ _ h_ _ => h_.elim)
  ·skip
   have h49b := hc; clear hc
   have h49 : ¬ (6 < ((lv : Nat) : Int)) := of_decide_eq_false h49b
   refine rl_guard_t F rfl rfl rfl h49b ?_
   refine rl_run F (run_move (F.ev rfl)) rfl ?_; clear F a; intro a F
   refine rl_guard_t F rfl rfl rfl h49b ?_
   refine rl_run F (run_nilCheck (F.ev rfl)) rfl ?_; clear F a; intro a F
   refine rl_guard_t F rfl rfl rfl h49b ?_
   refine rl_run F (run_fieldAddr tok122.k rfl rfl (F.ev rfl)) rfl ?_; clear F a; intro a F
   refine rl_guard_t F rfl rfl rfl h49b ?_
   refine rl_run F (run_load1 (agf tok3 rfl) (F.ev rfl) (M.cellL (k := 0) rfl rfl)) rfl ?_; clear F a; intro a F
   refine rl_guard_t F rfl rfl rfl h49b ?_
   refine rl_run F (run_eqi (F.ev rfl) (F.ev rfl)) rfl ?_; clear F a; intro a F
   refine rl_run F (run_pick_f (F.ev rfl) h49b (F.ev rfl)) rfl ?_; clear F a; intro a F
   refine rl_nil <| q_tn <| w_cond F rfl ?_ ?_
   ·intro hc
    have h50b := hc; clear hc
    have h50 : ((nd : Nat) : Int) = 64 := of_decide_eq_true h50b
    refine w_reg <| rl_run F (run_move (F.ev rfl)) rfl ?_; clear F a; intro a F
    change Mem w0 G (_ :: _ :: L) _ at M
    exact rl_callRd (G := G) (L := .blk b1 [.int .u8 (0), .string (str ([] : List UInt8)), .string (str ([] : List UInt8)), .slice none (0) (0), .string (str ([] : List UInt8)), .slice none (0) (0)] 30 :: L) (rb := rb) (s := s) F ent82 (run_callF F ent82 rfl rfl) rfl (rfail_spec (er := 14) M) (fun e_ w_ G_ i_ nd_ hg_ M_ h_ => finRd (P := Tryz.prog) (fn := Tryz.f81) F hg_ (M_.weaken (.cons_cons _ (.cons _ (List.Sublist.refl _)))) (by subst h_; exact node_tree (by omega) hlv (by omega))) (fun _ _ _ _ _ _ _ _ h_ _ => h_.elim)
   ·intro hc
    have h52b := hc; clear hc
    have h52 : ¬ (((nd : Nat) : Int) = 64) := of_decide_eq_false h52b
    refine wp_skip <| q_tn <| wp_seq ?_
    obtain ⟨d, rfl⟩ : ∃ d, D = d + 1 := ⟨D - 1, by omega⟩
    have hn64 : ¬ nd = 64 := by omega
    have h0 : ¬ (¬ nb (pkB s i) = 34 ∧ ¬ nb (pkB s i) = 60) := by omega
    refine w_reg <| rl_run F (run_move (F.ev rfl)) rfl ?_; clear F a; intro a F
    refine rl_run F (run_nilCheck (F.ev rfl)) rfl ?_; clear F a; intro a F
    refine rl_run F (run_fieldAddr tok122.k rfl rfl (F.ev rfl)) rfl ?_; clear F a; intro a F
    refine rl_run F (run_load1 (agf tok3 rfl) (F.ev rfl) (M.cellL (k := 0) rfl rfl)) rfl ?_; clear F a; intro a F
    refine rl_run F (run_addi (F.ev rfl) (F.ev rfl) (in_i64 (by omega) (by omega))) rfl ?_; clear F a; intro a F
    refine rl_run F (run_nilCheck (F.ev rfl)) rfl ?_; clear F a; intro a F
    refine rl_run F (run_fieldAddr tok122.k rfl rfl (F.ev rfl)) rfl ?_; clear F a; intro a F
    refine rl_store1 F M tok3 rfl (k := 0) rfl rfl rfl rfl rfl ?_; clear F M a; intro w a M F
    refine rl_nil <| q_tn ?_
    iterate 2 (refine wp_seq ?_)
    refine w_reg <| rl_run F (run_move (F.ev rfl)) rfl ?_; clear F a; intro a F
    refine rl_run F (run_eqi (F.ev rfl) (F.ev rfl)) rfl ?_; clear F a; intro a F
    refine rl_nil <| q_tn <| w_cond_t F rfl (decide_eq_true h46) ?_
    refine wp_seq <| w_reg <| rl_run F (run_move (F.ev rfl)) rfl ?_; clear F a; intro a F
    change Mem w0 G (.blk rb [.string (str (s)), .int .i64 (((i : Nat) : Int)), .int .i64 ((((nd : Nat) : Int)) + 1)] 122 :: _ :: L) _ at M
    change Mem w0 G (.blk rb [.string (str (s)), .int .i64 (((i : Nat) : Int)), .int .i64 ((((nd : Nat) : Int)) + 1)] 122 :: _ :: L) _ at M
    refine rl_callRd (G := G) (L := .blk b1 [.int .u8 (0), .string (str ([] : List UInt8)), .string (str ([] : List UInt8)), .slice none (0) (0), .string (str ([] : List UInt8)), .slice none (0) (0)] 30 :: L) (rb := rb) (s := s) F ent101 (run_callF F ent101 rfl rfl) rfl (rvalue_read (i := i) (nd := nd + 1) (s := s) (L := .blk b1 [.int .u8 (0), .string (str ([] : List UInt8)), .string (str ([] : List UInt8)), .slice none (0) (0), .string (str ([] : List UInt8)), .slice none (0) (0)] 30 :: L) M (by omega) hs) (fun e_ w_ G_ i_ nd_ hg_ M_ h_ => finRd (P := Tryz.prog) (fn := Tryz.f81) F hg_ (M_.weaken (.cons_cons _ (.cons _ (List.Sublist.refl _)))) (node_val_no hn64 (by assumption) h_)) ?_; clear F M a; rintro v_ Gk53 ik53 ndk53 w a hGk53 M ⟨tk53, hNk53, rfl, hndk53, hik53, hjk53, hlk53⟩ F
    change Mem w0 Gk53 (.blk rb [.string (str (s)), .int .i64 (((ik53 : Nat) : Int)), .int .i64 (((ndk53 : Nat) : Int))] 122 :: _ :: L) _ at M
    rw [hndk53] at M
    refine rl_run F (run_buildS (cs := [.int .u8 (2), .string (str ([] : List UInt8)), .string (str ([] : List UInt8)), .slice none (0) (0), .string (str (tk53)), .slice none (0) (0)]) (ps := [(0, .int .u8 (2)), (4, .string (str (tk53)))]) tok30.k rfl tok30 (F.evp rfl) rfl) rfl ?_; clear F a; intro a F
    refine rl_storeA F M tok30 (k := 1) rfl rfl rfl (us := [.int .u8 (2), .string (str ([] : List UInt8)), .string (str ([] : List UInt8)), .slice none (0) (0), .string (str (tk53)), .slice none (0) (0)]) rfl rfl (by simp [Value.oneCell']) (by simp) ?_; clear F M a; intro w a M F
    change Mem w0 Gk53 (_ :: .blk b1 [.int .u8 (2), .string (str ([] : List UInt8)), .string (str ([] : List UInt8)), .slice none (0) (0), .string (str (tk53)), .slice none (0) (0)] 30 :: L) _ at M
    refine rl_nil <| q_tn <| wp_ret <| q_tr ?_
    change Mem w0 Gk53 (_ :: .blk b1 [.int .u8 (2), .string (str ([] : List UInt8)), .string (str ([] : List UInt8)), .slice none (0) (0), .string (str (tk53)), .slice none (0) (0)] 30 :: L) _ at M
    refine fin_c F M (k := 1) rfl rfl tok30 rfl rfl rfl ?_
    exact ⟨_, ik53, nd + 1, hGk53, M.weaken (.cons_cons _ (.cons _ (List.Sublist.refl _))), (.mk 2 [] [] [] tk53 [] : NT), none, 0, none, 0, node_val hn64 (by assumption) hNk53, rfl, ⟨by show (0 : Int) ≤ 2; decide, by show (2 : Int) ≤ 255; decide⟩, ⟨Nat.zero_le _, Nat.zero_le _, by show tk53.length ≤ _; omega⟩, RdSl.nil, RdSl.nil, by omega, by omega, by omega⟩
theorem pre2 {s : List UInt8} {j : Nat} (hj : j ≤ s.length) : ((s.drop j).take 2 = [60, 47]) ↔ (nb (pkB s j) = 60 ∧ nb (pkB s (j + 1)) = 47) := by
 have e0 : ∀ i, pkB s i = ((s.drop i).head?).getD 0 := fun i => by unfold pkB; rw [List.head?_drop]
 have e1 : pkB s (j + 1) = (((s.drop j).drop 1).head?).getD 0 := by rw [e0, List.drop_drop]
 rw [e0 j, e1]
 generalize s.drop j = l
 have nb_inj : ∀ {c : UInt8} {k : Nat}, k < 256 → (nb c = (k : Int) ↔ c = UInt8.ofNat k) := fun {c k} hk => by
  constructor
  ·intro h
   have h1 : c.toNat = k := by simp only [nb] at h; omega
   rw [← h1]; simp
  ·rintro rfl
   simp only [nb, UInt8.toNat_ofNat']; omega
 match l with
 | [] => simp [nb]
 | [a] =>
  simp only [List.take_succ_cons, List.take_nil, List.drop_succ_cons, List.drop_zero, List.head?_nil, Option.getD_none]
  constructor
  ·intro h; simp at h
  ·rintro ⟨_, h⟩; simp [nb] at h
 | a :: b :: l =>
  simp only [List.take_succ_cons, List.take_zero, List.head?_cons, Option.getD_some, List.drop_succ_cons, List.drop_zero, List.cons.injEq, and_true]
  rw [show (60 : Int) = ((60 : Nat) : Int) from rfl, show (47 : Int) = ((47 : Nat) : Int) from rfl, nb_inj (by decide), nb_inj (by decide)]
  rfl
theorem haspi_spec {w0 w : World} {G : Ghost} {L : List Res} (M : Mem w0 G L w) {z : List UInt8} (ha : z.length ≤ 9223372036854775807) : Calls Tryz.prog 127 #[.string (str z), .string (str [60, 47])] w (RetS w0 G L fun v => v = .bool (decide (z.take 2 = [60, 47]))) := by
 refine calls_start (vs := [_, _]) Tryz.func127 rfl (n := 18) rfl rfl ?_
 intro a F
 refine wp_seq <| w_reg <| rl_run F (run_assign (F.ev rfl)) rfl ?_; clear F a; intro a F
 refine rl_nil <| q_tn <| wp_seq ?_
 have hl2 : ([60, 47] : List UInt8).length = 2 := rfl
 refine w_reg <| rl_run F (run_move (F.ev rfl)) rfl ?_; clear F a; intro a F
 refine rl_run F (run_lenStr tok9.k (F.ev rfl)) rfl ?_; clear F a; intro a F
 refine rl_run F (run_move (F.ev rfl)) rfl ?_; clear F a; intro a F
 refine rl_run F (run_lenStr tok9.k (F.ev rfl)) rfl ?_; clear F a; intro a F
 refine rl_run F (run_geq (F.ev rfl) (F.ev rfl)) rfl ?_; clear F a; intro a F
 refine rl_run F (run_move (F.ev rfl)) rfl ?_; clear F a; intro a F
 rcases Bool.eq_false_or_eq_true (decide (2 ≤ (((z).length : Nat) : Int))) with hc | hc
 ·skip
  have h1b := hc; clear hc
  have h1 : 2 ≤ (((z).length : Nat) : Int) := of_decide_eq_true h1b
  refine rl_guard_t F rfl rfl rfl h1b ?_
  refine rl_run F (run_move (F.ev rfl)) rfl ?_; clear F a; intro a F
  refine rl_guard_t F rfl rfl rfl h1b ?_
  refine rl_run F (run_move (F.ev rfl)) rfl ?_; clear F a; intro a F
  refine rl_guard_t F rfl rfl rfl h1b ?_
  refine rl_run F (run_lenStr tok9.k (F.ev rfl)) rfl ?_; clear F a; intro a F
  refine rl_guard_t F rfl rfl rfl h1b ?_
  refine rl_run F (run_strSlice (a := 0) (b := 2) (ka := .i64) (za := 0) tok9.k (F.ev rfl) rfl ⟨(F.ev rfl), by omega⟩ (by omega) (by omega)) rfl ?_; clear F a; intro a F
  refine rl_guard_t F rfl rfl rfl h1b ?_
  refine rl_run F (run_move (F.ev rfl)) rfl ?_; clear F a; intro a F
  refine rl_guard_t F rfl rfl rfl h1b ?_
  refine rl_run F (run_strEq (F.ev rfl) (F.ev rfl)) rfl ?_; clear F a; intro a F
  refine rl_run F (run_pick_t (F.ev rfl) h1b (F.ev rfl)) rfl ?_; clear F a; intro a F
  refine rl_run F (run_assign (F.ev rfl)) rfl ?_; clear F a; intro a F
  refine rl_nil <| q_tn <| wp_ret <| fin1 F rfl rfl ?_
  exact ⟨M, by first | (congr 1; done) | (simp only [List.drop_zero, List.length_cons, List.length_nil, Nat.zero_add, Nat.reduceAdd]; done) | (simp only [Value.bool.injEq]; symm; apply decide_eq_false; intro h_; have := congrArg List.length h_; simp only [List.length_take, List.length_cons, List.length_nil] at this; omega)⟩
 ·skip
  have h2b := hc; clear hc
  have h2 : ¬ (2 ≤ (((z).length : Nat) : Int)) := of_decide_eq_false h2b
  iterate 6 (refine rl_guard_f F rfl rfl rfl h2b ?_; clear F a; intro a F)
  refine rl_run F (run_pick_f (F.ev rfl) h2b (F.ev rfl)) rfl ?_; clear F a; intro a F
  refine rl_run F (run_assign (F.ev rfl)) rfl ?_; clear F a; intro a F
  refine rl_nil <| q_tn <| wp_ret <| fin1 F rfl rfl ?_
  exact ⟨M, by first | (congr 1; done) | (simp only [List.drop_zero, List.length_cons, List.length_nil, Nat.zero_add, Nat.reduceAdd]; done) | (simp only [Value.bool.injEq]; symm; apply decide_eq_false; intro h_; have := congrArg List.length h_; simp only [List.length_take, List.length_cons, List.length_nil] at this; omega)⟩
theorem hasp_spec {w0 w : World} {G : Ghost} {L : List Res} (M : Mem w0 G L w) {z : List UInt8} (ha : z.length ≤ 9223372036854775807) : Calls Tryz.prog 120 #[.string (str z), .string (str [60, 47])] w (RetS w0 G L fun v => v = .bool (decide (z.take 2 = [60, 47]))) := by
 refine calls_start (vs := [_, _]) Tryz.func120 rfl (n := 8) rfl rfl ?_
 intro a F
 refine wp_seq <| w_reg <| rl_run F (run_assign (F.ev rfl)) rfl ?_; clear F a; intro a F
 refine rl_nil <| q_tn <| wp_seq <| w_reg ?_
 iterate 2 (refine rl_run F (run_move (F.ev rfl)) rfl ?_; clear F a; intro a F)
 refine rl_callS F ent127 rfl rfl (haspi_spec (z := z) M (by omega)) ?_; clear F M a; rintro _ w a M rfl F
 refine rl_run F (run_assign (F.ev rfl)) rfl ?_; clear F a; intro a F
 refine rl_nil <| q_tn <| wp_ret <| fin1 F rfl rfl ?_
 exact ⟨M, rfl⟩
end Go.Proofs.YtlnehkjmmegkhaaGreat
