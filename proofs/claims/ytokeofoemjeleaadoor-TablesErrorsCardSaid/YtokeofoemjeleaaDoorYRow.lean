/- The proof core, slices: rows that the call owns; append, make, slicing; a row that becomes persistent. -/
import Derived.Test.YtokeofoemjeleaaDoorYRd
namespace Go.Y
open Go Go.RowKit

/-- The cells read as the elements, one after the other. -/
def Els {α : Type} (rd : Rd α) (sz : Nat) (G : Ghost) : List Value → List α → Prop
  | cs, [] => cs = []
  | cs, x :: xs => ∃ c r, cs = c ++ r ∧ c.length = sz ∧ rd G c x ∧ Els rd sz G r xs

section
variable {α : Type} {rd : Rd α} {sz : Nat} {G G' : Ghost} {cs cs' : List Value} {xs ys : List α}

theorem Els.length : ∀ {xs : List α} {cs : List Value}, Els rd sz G cs xs → cs.length = xs.length * sz
  | [], cs, h => by simp only [Els] at h; subst h; simp
  | x :: xs, cs, h => by
    obtain ⟨c, r, rfl, h1, _, h3⟩ := h
    simp only [List.length_append, List.length_cons, h1, Els.length h3, Nat.add_mul, Nat.one_mul]
    omega
theorem Els.nil : Els rd sz G [] [] := rfl
theorem Els.one {x : α} (h : rd G cs x) (hl : cs.length = sz) : Els rd sz G cs [x] := ⟨cs, [], by simp, hl, h, rfl⟩
theorem Els.append : ∀ {xs : List α} {cs : List Value}, Els rd sz G cs xs → Els rd sz G cs' ys → Els rd sz G (cs ++ cs') (xs ++ ys)
  | [], cs, h, h' => by simp only [Els] at h; subst h; simpa using h'
  | x :: xs, cs, h, h' => by
    obtain ⟨c, r, rfl, h1, h2, h3⟩ := h
    exact ⟨c, r ++ cs', by simp, h1, h2, Els.append h3 h'⟩
theorem Els.mono (hm : Mono rd) (hg : Gle G G') : ∀ {xs : List α} {cs : List Value}, Els rd sz G cs xs → Els rd sz G' cs xs
  | [], cs, h => h
  | x :: xs, cs, h => by
    obtain ⟨c, r, rfl, h1, h2, h3⟩ := h
    exact ⟨c, r, rfl, h1, hm _ _ _ _ hg h2, Els.mono hm hg h3⟩
theorem Els.get : ∀ {xs : List α} {cs : List Value}, Els rd sz G cs xs → ∀ {i : Nat} {x : α}, xs[i]? = some x → ∃ l c r, cs = l ++ c ++ r ∧ l.length = i * sz ∧ c.length = sz ∧ rd G c x ∧
    ∀ c' x', c'.length = sz → rd G c' x' → Els rd sz G (l ++ c' ++ r) (xs.set i x')
  | [], cs, h, i, x, hx => by simp at hx
  | y :: xs, cs, h, i, x, hx => by
    obtain ⟨c, r, rfl, h1, h2, h3⟩ := h
    cases i with
    | zero =>
      simp at hx
      subst hx
      exact ⟨[], c, r, by simp, by simp, h1, h2, fun c' x' hc hr => ⟨c', r, by simp, hc, hr, h3⟩⟩
    | succ i =>
      obtain ⟨l, c1, r1, rfl, h4, h5, h6, h7⟩ := Els.get h3 (i := i) (x := x) (by simpa using hx)
      refine ⟨c ++ l, c1, r1, by simp, by simp [h1, h4, Nat.add_mul]; omega, h5, h6, fun c' x' hc hr => ?_⟩
      exact ⟨c, l ++ c' ++ r1, by simp, h1, h2, h7 c' x' hc hr⟩
end

theorem RdSl.cells {α : Type} {rd : Rd α} {sz : Nat} {G : Ghost} {a : Option Addr} {n c : Nat} {xs : List α} (S : RdSl rd sz G (.slice a n c) xs) :
    n = xs.length ∧ n ≤ c ∧ c ≤ 9223372036854775807 ∧ ∃ news, Els rd sz G news xs ∧ (∀ u ∈ news, u.oneCell' = true) ∧
      ((c = 0 ∧ xs = []) ∨ ∃ b o, a = some ⟨b, o, none⟩ ∧ ∀ (j : Nat) (u : Value), news[j]? = some u → gcell G b (o + j) = some u) := by
  obtain ⟨a', c', h1, h2, h3, h4⟩ := S
  simp only [Value.slice.injEq] at h1
  obtain ⟨rfl, rfl, rfl⟩ := h1
  refine ⟨rfl, h2, h3, ?_⟩
  rcases h4 with ⟨rfl, rfl⟩ | ⟨b, o, rfl, h6⟩
  · exact ⟨[], rfl, by simp, Or.inl ⟨rfl, rfl⟩⟩
  · have key : ∀ (m : Nat), m ≤ xs.length → ∃ news, Els rd sz G news (xs.drop (xs.length - m)) ∧ (∀ u ∈ news, u.oneCell' = true) ∧
        ∀ (j : Nat) (u : Value), news[j]? = some u → gcell G b (o + (xs.length - m) * sz + j) = some u := by
      intro m
      induction m with
      | zero => intro _; exact ⟨[], by simp [Els], by simp, by simp⟩
      | succ m ih =>
        intro hm
        obtain ⟨news, h7, h8, h9⟩ := ih (by omega)
        have hlt : xs.length - (m + 1) < xs.length := by omega
        obtain ⟨cs, h10, h11, h12, h13⟩ := h6 (xs.length - (m + 1)) xs[xs.length - (m + 1)] (List.getElem?_eq_getElem hlt)
        refine ⟨cs ++ news, ?_, ?_, ?_⟩
        · rw [List.drop_eq_getElem_cons hlt]
          refine ⟨cs, news, rfl, h10, h13, ?_⟩
          rw [show xs.length - (m + 1) + 1 = xs.length - m by omega]
          exact h7
        · intro u hu
          rcases List.mem_append.1 hu with hu | hu
          · exact h11 u hu
          · exact h8 u hu
        · intro j u hj
          rcases Nat.lt_or_ge j cs.length with hlt' | hge
          · rw [List.getElem?_append_left hlt'] at hj
            exact h12 j u hj
          · rw [List.getElem?_append_right hge] at hj
            have := h9 (j - cs.length) u hj
            rw [← this]
            congr 1
            have e1 : xs.length - m = (xs.length - (m + 1)) + 1 := by omega
            rw [e1, Nat.add_mul, Nat.one_mul, h10]
            omega
    obtain ⟨news, h7, h8, h9⟩ := key xs.length (Nat.le_refl _)
    simp only [Nat.sub_self, List.drop_zero, Nat.zero_mul, Nat.add_zero] at h7 h9
    exact ⟨news, h7, h8, Or.inr ⟨b, o, rfl, h9⟩⟩

/-- A slice of cells that are there reads as the elements. -/
theorem RdSl.of_cells {α : Type} {rd : Rd α} {sz : Nat} {G : Ghost} {b o c : Nat} {xs : List α} {cs : List Value} (hE : Els rd sz G cs xs) (h1 : ∀ u ∈ cs, u.oneCell' = true)
    (hc : ∀ (j : Nat) (u : Value), cs[j]? = some u → gcell G b (o + j) = some u) (hle : xs.length ≤ c) (hm : c ≤ 9223372036854775807) :
    RdSl rd sz G (.slice (some ⟨b, o, none⟩) xs.length c) xs := by
  refine ⟨_, _, rfl, hle, hm, Or.inr ⟨b, o, rfl, fun i x hx => ?_⟩⟩
  obtain ⟨l, c1, r, rfl, h3, h4, h5, _⟩ := hE.get hx
  refine ⟨c1, h4, fun u hu => h1 u (by simp [hu]), fun j v hj => ?_, h5⟩
  have hlt : j < c1.length := by
    rcases Nat.lt_or_ge j c1.length with h' | h'
    · exact h'
    · simp [List.getElem?_eq_none h'] at hj
  have := hc (i * sz + j) v (by
    rw [List.append_assoc, List.getElem?_append_right (by omega), h3, Nat.add_sub_cancel_left, List.getElem?_append_left hlt, hj])
  rw [← this]
  congr 1
  omega

section
variable {P : Program} {w0 w : World} {G : Ghost} {L : List Res}

theorem Mem.nilrow (M : Mem w0 G L w) (t : TypeId) (sz : Nat) : Mem w0 G (.row (.slice none 0 0) 0 [] t sz :: L) w :=
  ⟨M.os, M.tape, M.output, M.grow, M.pers,
    fun x hx => by
      rcases List.mem_cons.1 hx with rfl | hx
      · exact ⟨World.ownsRow_nil w 0 t sz, by simp⟩
      · exact M.own x hx,
    fun x hx b hb => by
      rcases List.mem_cons.1 hx with rfl | hx
      · simp [Res.foot, Value.ownBlock] at hb
      · exact M.free x hx b hb,
    List.pairwise_cons.2 ⟨fun y _ b hb => by simp [Res.foot, Value.ownBlock] at hb, M.apart⟩⟩

theorem Mem.row_at (M : Mem w0 G L w) {k n : Nat} {v : Value} {cs : List Value} {t : TypeId} {sz : Nat} (hk : L[k]? = some (.row v n cs t sz)) :
    w.ownsRow 0 t sz v n cs ∧ ∀ u ∈ cs, u.oneCell' = true := M.own _ (List.mem_of_getElem? hk)

/-- A row of zeros or of given cells, new. -/
theorem Mem.newrow (M : Mem w0 G L w) {t : TypeId} {sz n c : Nat} {cs spare : List Value} (h1 : ∀ u ∈ cs, u.oneCell' = true) (hl : cs.length = n * sz) (hs : (cs ++ spare).length = c * sz) (hnc : n ≤ c) (hc : c ≤ maxLen) :
    Mem w0 G (.row (.slice (some ⟨w.heap.size, 0, none⟩) n c) n cs t sz :: L) { w with heap := w.heap.push (.cells (cs ++ spare).toArray t (0, 0)) } := by
  have M' := M.new (.cells (cs ++ spare).toArray t (0, 0))
  refine M'.swap_head (x := .obj w.heap.size _) rfl ?_ rfl rfl rfl rfl (fun _ _ => rfl)
  refine ⟨⟨hl, Or.inr ⟨w.heap.size, c, (cs ++ spare).toArray, rfl, Nat.zero_le _, ?_, hnc, hc, by simpa using hs, ?_⟩⟩, h1⟩
  · exact M'.own (.obj w.heap.size _) (by simp)
  · rw [← hl]; simp

/-- What append leaves, wherever its source lies. -/
theorem Mem.append (M : Mem w0 G L w) {k n : Nat} {v : Value} {cs : List Value} {t ty e : TypeId} {i : TI} (hk : L[k]? = some (.row v n cs e i.size)) (ht : tk P t = .slice e) (hi : TOK P e i) (hz : i.zero.cells.size = i.size) (hs : 0 < i.size)
    {ad : Addr} {m c : Nat} {news : List Value} (hl : news.length = m * i.size) (hnews : ∀ j u, news[j]? = some u → w.cell? (ad.add j) = some u) (h1 : ∀ u ∈ news, u.oneCell' = true)
    (h63 : n + m ≤ maxLen) (hbytes : (n + m) * i.bytes ≤ 140737488355328) :
    ∃ v' w', (Builtin.append_ #[t, t] ty #[v, .slice (some ad) m c]).run P w = .ok v' w' ∧ Mem w0 G (L.set k (.row v' (n + m) (cs ++ news) e i.size)) w' := by
  obtain ⟨x, hx1, hx2, hx3, hx4⟩ := hi.info
  obtain ⟨hown, h2⟩ := M.row_at hk
  have hu := under_slice ht
  obtain ⟨v', w', hr, ho, hg, _⟩ := run_append_own (P := P) w 0 t ty e x i.zero i.size i.bytes hu hx1 hx4 hx2 hx3 hz hs v n cs hown ad m c news hl hnews h1 h63 hbytes (Nat.zero_le _)
  refine ⟨v', w', hr, M.grow_at hk ?_ ⟨ho, fun u hu => ?_⟩ hg.os hg.tape hg.output hg.size (fun b hb hne => hg.block b hb (fun e => hne e.symm))⟩
  · intro b hb
    have h63' : ((n + m : Nat) : Int) ≤ 9223372036854775807 := by simp only [maxLen] at h63; omega
    rcases hown.2 with ⟨rfl, rfl⟩ | ⟨g, cap, cur, rfl, hbg, hgg, hnc, hcm, hcs, htake⟩
    · by_cases hm : m = 0
      · subst hm
        have hn : news = [] := List.eq_nil_of_length_eq_zero (by simpa using hl)
        subst hn
        have : (Builtin.append_ #[t, t] ty #[.slice none 0 0, .slice (some ad) 0 c]).run P w = .ok (.slice none 0 0) w := by
          simp [Builtin.append_, run_underlying hu, sizeOf, typeInfo, hx1, Builtin.lenOf, Builtin.firstCells, loadCells, loadCellsFrom]
        rw [this] at hr
        simp only [Result.ok.injEq] at hr
        obtain ⟨rfl, rfl⟩ := hr
        simp [Res.foot, Value.ownBlock] at hb
      · have hr' := run_append_nil (P := P) w t ty e x i.zero hu hx1 hx4 ad m c news (by rw [hx2]; exact hl) hnews (by omega) (by omega) (by rw [hx3]; simp only [Nat.zero_add] at hbytes; omega)
        rw [hr'] at hr
        simp only [Result.ok.injEq] at hr
        obtain ⟨rfl, rfl⟩ := hr
        simp only [Res.foot, Value.ownBlock, Option.some.injEq] at hb
        right; omega
    · by_cases hroom : n + m ≤ cap
      · obtain ⟨w2, hr', _⟩ := run_append_fits (P := P) w 0 t ty e x i.size hu hx1 hx2 g n cap cs hown ad m c news hl hnews h1 hroom
        rw [hr'] at hr
        simp only [Result.ok.injEq] at hr
        obtain ⟨rfl, rfl⟩ := hr
        left; exact hb
      · have holds := hown.cells (g := g) rfl
        have hr' := run_append_grow (P := P) w t ty e x i.zero hu hx1 hx4 ⟨g, 0, none⟩ n cap cs (by rw [hx2]; exact hown.1) holds ad m c news (by rw [hx2]; exact hl) hnews (by omega) h63'
          (by rw [hx3]; exact growslice_fits (by omega) hbytes)
        rw [hr'] at hr
        simp only [Result.ok.injEq] at hr
        obtain ⟨rfl, rfl⟩ := hr
        simp only [Res.foot, Value.ownBlock, Option.some.injEq] at hb
        right; omega
  · rcases List.mem_append.1 hu with hu | hu
    · exact h2 u hu
    · exact h1 u hu

theorem Mem.append_none (M : Mem w0 G L w) {k n : Nat} {v : Value} {cs : List Value} {t ty e : TypeId} {i : TI} (hk : L[k]? = some (.row v n cs e i.size)) (ht : tk P t = .slice e) (hi : TOK P e i) :
    (Builtin.append_ #[t, t] ty #[v, .slice none 0 0]).run P w = .ok v w := by
  obtain ⟨x, hx1, hx2, _⟩ := hi.info
  exact run_append_owned_none (P := P) (w := w) 0 t ty e x i.size (under_slice ht) hx1 v n cs (M.row_at hk).1

/-- An owned row becomes a persistent slice. -/
theorem Mem.freeze_row {α : Type} {rd : Rd α} (hm : Mono rd) (M : Mem w0 G L w) {k n : Nat} {v : Value} {cs : List Value} {t : TypeId} {sz : Nat} (hk : L[k]? = some (.row v n cs t sz)) {xs : List α} (hE : Els rd sz G cs xs) (hs : 0 < sz) :
    n = xs.length ∧ ∃ G' a c, Gle G G' ∧ v = .slice a xs.length c ∧ RdSl rd sz G' v xs ∧ Mem w0 G' (L.eraseIdx k) w := by
  obtain ⟨⟨hl, h2⟩, h1⟩ := M.row_at hk
  have hn : n = xs.length := by
    have := hE.length
    rw [hl] at this
    exact Nat.eq_of_mul_eq_mul_right hs this
  refine ⟨hn, ?_⟩
  subst hn
  have M' := M.perm (perm_front L k _ hk)
  rcases h2 with ⟨rfl, h0⟩ | ⟨g, cap, cur, rfl, _, hg, hnc, hcm, hcs, htake⟩
  · have : xs = [] := List.eq_nil_of_length_eq_zero h0
    subst this
    exact ⟨G, none, 0, Gle.refl G, rfl, RdSl.nil, M.weaken (List.eraseIdx_sublist _ _)⟩
  · have hb : G g = none := M'.free (.row (.slice (some ⟨g, 0, none⟩) xs.length cap) xs.length cs t sz) (by simp) g rfl
    have hap := List.pairwise_cons.1 M'.apart
    refine ⟨fun r => if r = g then some (.cells cur t (0, 0)) else G r, some ⟨g, 0, none⟩, cap, ?_, rfl, ?_, ?_⟩
    · intro r o hr
      by_cases h : r = g
      · subst h; rw [hb] at hr; cases hr
      · simp [h, hr]
    · refine RdSl.of_cells (cs := cs) (hE.mono hm ?_) h1 ?_ hnc (by simpa [maxLen] using hcm)
      · intro r o hr
        by_cases h : r = g
        · subst h; rw [hb] at hr; cases hr
        · simp [h, hr]
      · intro j u hj
        have hj' : j < xs.length * sz := by
          rw [← hl]
          rcases Nat.lt_or_ge j cs.length with h' | h'
          · exact h'
          · simp [List.getElem?_eq_none h'] at hj
        rw [← htake, List.getElem?_take, if_pos hj'] at hj
        simp only [gcell, if_true, Nat.zero_add]
        simpa using hj
    · refine ⟨M.os, M.tape, M.output, M.grow, ?_, ?_, ?_, hap.2⟩
      · intro r o hr
        by_cases h : r = g
        · subst h; simp at hr; subst hr; exact hg
        · simp only [h, if_false] at hr; exact M.pers r o hr
      · exact fun x hx => M'.own x (by simp [hx])
      · intro x hx c hc
        have hne : c ≠ g := fun e => hap.1 x hx g rfl (e ▸ hc)
        simp only [hne, if_false]
        exact M'.free x (by simp [hx]) c hc
end
end Go.Y
