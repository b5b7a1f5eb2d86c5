/- The text of a valid tree is read as the tree again. -/
import Derived.Test.YtlnehkjmmegkhaaGreatWalkNX
namespace Go.Proofs.YtlnehkjmmegkhaaGreat
open Go Go.Y Go.Proofs
set_option linter.unusedVariables false
/-- A text stands at a place of a text. -/
def Pre (s : List UInt8) (i : Nat) (t : List UInt8) : Prop := ∃ r, s.drop i = t ++ r
section
variable {s : List UInt8} {i : Nat}
theorem Pre.self (s : List UInt8) : Pre s 0 s := ⟨[], by simp⟩
theorem Pre.left {t u : List UInt8} (h : Pre s i (t ++ u)) : Pre s i t := by
 obtain ⟨r, h⟩ := h; exact ⟨u ++ r, by rw [h, List.append_assoc]⟩
theorem Pre.right {t u : List UInt8} (h : Pre s i (t ++ u)) : Pre s (i + t.length) u := by
 obtain ⟨r, h⟩ := h; exact ⟨r, by rw [← List.drop_drop, h, List.append_assoc, List.drop_left]⟩
theorem Pre.pk {b : UInt8} {t : List UInt8} (h : Pre s i (b :: t)) : pkB s i = b := by
 obtain ⟨r, h⟩ := h
 have : s[i]? = some b := by rw [← List.head?_drop, h]; rfl
 exact pkB_some this
theorem Pre.tl {b : UInt8} {t : List UInt8} (h : Pre s i (b :: t)) : Pre s (i + 1) t := Pre.right (t := [b]) h
theorem Pre.len {t : List UInt8} (h : Pre s i t) : t.length + i ≤ s.length ∨ t = [] := by
 obtain ⟨r, h⟩ := h
 have h2 := congrArg List.length h
 rw [List.length_drop, List.length_append] at h2
 rcases Nat.eq_zero_or_pos t.length with h3 | h3
 ·exact Or.inr (List.eq_nil_of_length_eq_zero h3)
 ·left; omega
theorem take_pre : ∀ {wd : List UInt8} {i : Nat}, Pre s i wd → takeF s wd i = .ok (i + wd.length)
 | [], i, h => rfl
 | b :: wd, i, h => by
  simp only [takeF]
  rw [if_pos (by rw [h.pk]), take_pre h.tl, List.length_cons]
  congr 1; omega
theorem runN_pre : ∀ {t : List UInt8} {f i : Nat}, (∀ c ∈ t, NameB c) → Pre s i t → ¬ NameB (pkB s (i + t.length)) → t.length ≤ f → runN s f i = t.length
 | [], f, i, _, h, hn, _ => runN_no hn
 | b :: t, 0, i, _, h, hn, hl => by simp at hl
 | b :: t, f + 1, i, ht, h, hn, hl => by
  rw [runN_yes (by rw [h.pk]; exact ht b (by simp)), runN_pre (fun c hc => ht c (by simp [hc])) h.tl (by rw [show i + 1 + t.length = i + (b :: t).length by rw [List.length_cons]; omega]; exact hn) (by simp at hl; omega)]; rfl
theorem name_pre {t : List UInt8} (ht : Name t) (h : Pre s i t) (hn : ¬ NameB (pkB s (i + t.length))) : nameF s i = .ok (t, i + t.length) := by
 have hl := ht.1
 unfold nameF
 simp only [runN_pre ht.2 h hn (show t.length ≤ 17 by omega)]
 rw [if_neg (by omega), if_neg (by omega)]
 obtain ⟨r, h⟩ := h
 rw [h, List.take_left]
theorem val_pre : ∀ {t : List UInt8} {f j : Nat} {out : List UInt8}, (∀ c ∈ t, StrB c) → out.length + t.length ≤ 64 → t.length < f → Pre s j (escF t ++ [34]) → valF s f j out = .ok (out ++ t, j + (escF t).length + 1)
 | [], 0, j, out, _, _, hf, _ => by simp at hf
 | [], f + 1, j, out, _, hl, hf, h => by
  have h1 : pkB s j = 34 := Pre.pk (t := []) h
  rw [valF, if_pos (by rw [h1]; rfl), List.append_nil]; rfl
 | c :: t, 0, j, out, _, _, hf, _ => by simp at hf
 | c :: t, f + 1, j, out, hc, hl, hf, h => by
  have hc1 := hc c (by simp)
  have h3 : out.length < 64 := by rw [List.length_cons] at hl; omega
  by_cases e : c = 92 ∨ c = 34
  ·have he : escF (c :: t) = 92 :: c :: escF t := by
    rcases e with rfl | rfl <;> rfl
   rw [he] at h ⊢
   have h1 : pkB s j = 92 := h.pk
   have h2 : pkB s (j + 1) = c := h.tl.pk
   rw [valF, if_neg (by rw [h1]; decide), if_neg (by rw [h1]; simp only [nb]; show ¬ (((92 : UInt8).toNat : Int) < 32 ∨ 126 < ((92 : UInt8).toNat : Int) ∨ _); rintro (a | a | a); exact absurd a (by decide); exact absurd a (by decide); omega), if_pos (by rw [h1]; rfl), if_neg (by rw [h2]; rcases e with rfl | rfl <;> decide), h2]
   rw [val_pre (fun d hd => hc d (by simp [hd])) (by rw [List.length_append, List.length_singleton]; rw [List.length_cons] at hl; omega) (by rw [List.length_cons] at hf; omega) h.tl.tl]
   simp only [List.append_assoc, List.singleton_append, List.length_cons]
   congr 2; omega
  ·have e1 : ¬ c = 92 := fun h => e (Or.inl h)
   have e2 : ¬ c = 34 := fun h => e (Or.inr h)
   have he : escF (c :: t) = c :: escF t := by rw [escF, if_neg e1, if_neg e2]; rfl
   rw [he] at h ⊢
   have h1 : pkB s j = c := h.pk
   have n1 : ¬ nb c = 34 := fun h => e2 ((nbk (by decide)).1 (show c.toNat = 34 by simp only [nb] at h; omega))
   have n2 : ¬ nb c = 92 := fun h => e1 ((nbk (by decide)).1 (show c.toNat = 92 by simp only [nb] at h; omega))
   have n3 := hc1.1
   have n4 := hc1.2
   rw [valF, if_neg (by rw [h1]; exact n1), if_neg (by rw [h1]; omega), if_neg (by rw [h1]; exact n2), h1]
   rw [val_pre (fun d hd => hc d (by simp [hd])) (by rw [List.length_append, List.length_singleton]; rw [List.length_cons] at hl; omega) (by rw [List.length_cons] at hf; omega) h.tl]
   simp only [List.append_assoc, List.singleton_append, List.length_cons]
   congr 2; omega
theorem value_pre {t : List UInt8} (ht : Str t) (h : Pre s i (quoteF t)) : valueF s i = .ok (t, i + (quoteF t).length) := by
 have h1 : Pre s i ([34] ++ (escF t ++ [34])) := by rw [← List.append_assoc]; exact h
 unfold valueF
 rw [take_pre h1.left]
 simp only
 rw [val_pre ht.2 (by simpa using ht.1) (by have := ht.1; omega) h1.right]
 simp only [quoteF, List.nil_append, List.length_append, List.length_cons, List.length_nil]
 congr 2; omega
theorem nn {b : UInt8} (h : b = 61 ∨ b = 32 ∨ b = 47 ∨ b = 62 ∨ b = 58) : ¬ NameB b := by
 rcases h with rfl | rfl | rfl | rfl | rfl <;> (unfold NameB; decide)
/-- The first byte behind a name. -/
theorem Pre.nn {t u : List UInt8} {b : UInt8} (h : Pre s i (t ++ b :: u)) (hb : b = 61 ∨ b = 32 ∨ b = 47 ∨ b = 62 ∨ b = 58) : ¬ NameB (pkB s (i + t.length)) := by
 rw [h.right.pk]; exact YtlnehkjmmegkhaaGreat.nn hb
/-- What begins with a sign that ends a name. -/
def Ends (u : List UInt8) : Prop := ∃ b r, u = b :: r ∧ (b = 61 ∨ b = 32 ∨ b = 47 ∨ b = 62 ∨ b = 58)
theorem Ends.nn {t u : List UInt8} (hu : Ends u) (h : Pre s i (t ++ u)) : ¬ NameB (pkB s (i + t.length)) := by
 obtain ⟨b, r, rfl, hb⟩ := hu; exact h.nn hb
theorem ends_attrs {l : List AttrD} {u : List UInt8} (hu : Ends u) : Ends (attrsT l ++ u) := by
 cases l with
 | nil => exact hu
 | cons a l => exact ⟨32, _, rfl, by simp⟩
theorem rest_attrs {ch : List UInt8 → Nat → Nat → PRes (List NT × Nat × Nat)} {tag key : List UInt8} {nd : Nat} {u : List UInt8} (hu : Ends u) : ∀ {l : List AttrD} {f j : Nat} {al : List AttrD}, (∀ a ∈ l, Name a.n ∧ Str a.v) → Pre s j (attrsT l ++ u) → l.length < f →
  restF ch s f j nd tag key al = restF ch s (f - l.length) (j + (attrsT l).length) nd tag key (al ++ l)
 | [], f, j, al, _, _, _ => by simp [attrsT]
 | a :: l, 0, j, al, _, _, hf => by simp at hf
 | a :: l, f + 1, j, al, ha, h, hf => by
  have e : attrsT (a :: l) ++ u = 32 :: (a.n ++ (61 :: (quoteF a.v ++ (attrsT l ++ u)))) := by simp [attrsT, attrT]
  rw [e] at h
  have h0 : pkB s j = 32 := h.pk
  have h1 := name_pre (ha a (by simp)).1 h.tl.left (h.tl.nn (by simp))
  have h2 := h.tl.right
  have h3 := take_pre (Pre.left (t := [61]) h2)
  have h4 := value_pre (ha a (by simp)).2 h2.tl.left
  have h5 := h2.tl.right
  rw [rest_at rfl (by rw [h0]; decide) (by rw [h0]; rfl) h1 h3 h4]
  rw [rest_attrs hu (fun b hb => ha b (by simp [hb])) h5 (by simp at hf; omega)]
  simp only [List.append_assoc, List.singleton_append, List.length_cons, Nat.add_sub_add_right, attrsT, attrT, List.length_append, List.length_nil]
  congr 1; omega
theorem node_first {d : Nat} {x : NT} (h : Tr.Ok Alone d x) (hp : Pre s i (textN x)) : (x.kind = 2 ∧ pkB s i = 34) ∨ (¬ x.kind = 2 ∧ pkB s i = 60 ∧ NameB (pkB s (i + 1))) := by
 cases d with
 | zero => exact h.elim
 | succ d =>
  rcases h.1 with ⟨a, b, _⟩ | ⟨a, _, c, _⟩
  ·left; rw [textN_words a] at hp; exact ⟨a, Pre.pk (t := escF x.text ++ [34]) (by simpa [quoteF] using hp)⟩
  ·right
   have : ∃ r, textN x = 60 :: (x.tag ++ r) := by
    by_cases h2 : x.kids.length = 0
    ·rw [textN_leaf a h2]; exact ⟨keyT x.key ++ attrsT x.as ++ [47, 62], by simp⟩
    ·rw [textN_node a h2]; exact ⟨keyT x.key ++ attrsT x.as ++ ([62] ++ textsN x.kids ++ ([60, 47] ++ x.tag ++ [62])), by simp⟩
   obtain ⟨r, hr⟩ := this
   rw [hr] at hp
   refine ⟨a, hp.pk, ?_⟩
   obtain ⟨⟨h1, _⟩, h3⟩ := c
   obtain ⟨b, t, ht⟩ : ∃ b t, x.tag = b :: t := by
    cases hq : x.tag with
    | nil => rw [hq] at h1; simp at h1
    | cons b t => exact ⟨b, t, rfl⟩
   rw [ht] at hp
   rw [show pkB s (i + 1) = b from hp.tl.pk]
   exact h3 b (by rw [ht]; simp)
theorem child_pre {no : Nat → Nat → PRes (NT × Nat × Nat)} {tag : List UInt8} {d : Nat} : ∀ {l : List NT} {f j nd : Nat} {acc : List NT}, (∀ x ∈ l, Tr.Ok Alone d x) → (∀ x ∈ l, ∀ j nd, Pre s j (textN x) → nd + x.size ≤ 64 → no j nd = .ok (x, j + (textN x).length, nd + x.size)) →
  Pre s j (textsN l ++ ([60, 47] ++ tag ++ [62])) → nd + Tr.sizes l ≤ 64 → l.length < f → (acc.length = 0 → l ≠ []) → childF no s tag f j nd acc = .ok (acc ++ l, j + (textsN l).length + tag.length + 3, nd + Tr.sizes l)
 | [], 0, j, nd, acc, _, _, _, _, hf, _ => by simp at hf
 | [], f + 1, j, nd, acc, _, _, h, _, _, ha => by
  have h : Pre s j ([60, 47] ++ tag ++ [62]) := h
  have h1 : pkB s j = 60 := Pre.pk (t := [47] ++ tag ++ [62]) (by simpa using h)
  have h2 : pkB s (j + 1) = 47 := Pre.pk (t := tag ++ [62]) (Pre.tl (b := 60) (by simpa using h))
  rw [child_end rfl (by rw [h1, h2]; rintro (a | a); exact ha a rfl; exact a ⟨rfl, rfl⟩) (take_pre h)]
  simp only [textsN, Tr.sizes, List.append_nil, List.length_append, List.length_cons, List.length_nil]
  congr 3; omega
 | x :: l, 0, j, nd, acc, _, _, _, _, hf, _ => by simp at hf
 | x :: l, f + 1, j, nd, acc, ho, hn, h, hs, hf, ha => by
  have h : Pre s j (textN x ++ (textsN l ++ ([60, 47] ++ tag ++ [62]))) := by rw [textsN, List.append_assoc] at h; exact h
  simp only [Tr.sizes] at hs
  have h1 := hn x (by simp) j nd h.left (by omega)
  have hb : acc.length = 0 ∨ ¬ (nb (pkB s j) = 60 ∧ nb (pkB s (j + 1)) = 47) := by
   right
   rcases node_first (ho x (by simp)) h.left with ⟨_, h2⟩ | ⟨_, _, h2⟩
   ·rw [h2]; intro hh; exact absurd hh.1 (by decide)
   ·intro hh; rcases h2 with h2 | h2 <;> omega
  rw [child_more rfl hb h1]
  rw [child_pre (fun y hy => ho y (by simp [hy])) (fun y hy => hn y (by simp [hy])) h.right (by omega) (by simp at hf; omega) (by simp)]
  simp only [textsN, Tr.sizes, List.append_assoc, List.singleton_append, List.length_append]
  congr 3 <;> omega
end
theorem node_pre {s : List UInt8} : ∀ {d : Nat} {x : NT} {i nd : Nat}, Tr.Ok Alone d x → Pre s i (textN x) → nd + x.size ≤ 64 → nodeF s d i nd = .ok (x, i + (textN x).length, nd + x.size)
 | 0, x, i, nd, h, _, _ => h.elim
 | d + 1, x, i, nd, h, hp, hs => by
  have hpos := Tr.size_pos x
  rcases h.1 with ⟨a, b, c, e, f, g⟩ | ⟨a, a1, c, e, f, g, g1, g2, g3⟩
  ·rcases node_first h hp with ⟨_, h1⟩ | ⟨h1, _⟩
   ·have hx : x = .mk 2 [] [] [] x.text [] := by
     have h2 := Tr.eta x; rw [a, c, e, List.eq_nil_of_length_eq_zero f, List.eq_nil_of_length_eq_zero g] at h2; exact h2
    rw [textN_words a] at hp ⊢
    rw [node_val (by omega) (by rw [h1]; rfl) (value_pre b hp)]
    have hz : x.size = 1 := by rw [Tr.size_eq, List.eq_nil_of_length_eq_zero g]; rfl
    rw [hz, ← hx]
   ·exact absurd a h1
  ·rcases node_first h hp with ⟨h1, _⟩ | ⟨_, h1, _⟩
   ·exact absurd h1 a
   have hx : x = .mk 1 x.tag x.key x.as [] x.kids := by
    have h2 := Tr.eta x; rw [a1, f] at h2; exact h2
   -- the end of the opening tag
   obtain ⟨u, hu, hT⟩ : ∃ u, Ends u ∧ textN x = [60] ++ (x.tag ++ (keyT x.key ++ (attrsT x.as ++ u))) ∧ (x.kids.length = 0 → u = [47, 62]) ∧ (¬ x.kids.length = 0 → u = [62] ++ (textsN x.kids ++ ([60, 47] ++ x.tag ++ [62]))) := by
    by_cases h2 : x.kids.length = 0
    ·refine ⟨[47, 62], ⟨47, _, rfl, by simp⟩, ?_, fun _ => rfl, fun h3 => absurd h2 h3⟩
     rw [textN_leaf a h2]; simp
    ·refine ⟨[62] ++ (textsN x.kids ++ ([60, 47] ++ x.tag ++ [62])), ⟨62, _, rfl, by simp⟩, ?_, fun h3 => absurd h3 h2, fun _ => rfl⟩
     rw [textN_node a h2]; simp
   obtain ⟨hT, hu0, hu1⟩ := hT
   have hlen : (textN x).length + i ≤ s.length := by
    rcases hp.len with h2 | h2
    ·exact h2
    ·rw [hT] at h2; cases h2
   have hTl := congrArg List.length hT
   simp only [List.length_append, List.length_cons, List.length_nil] at hTl
   rw [hT] at hp
   have p1 := hp.right
   have hk : Ends (keyT x.key ++ (attrsT x.as ++ u)) := by
    by_cases hkk : x.key = []
    ·rw [keyT_no hkk]; exact ends_attrs hu
    ·rw [keyT_yes hkk]; exact ⟨58, _, rfl, by simp⟩
   have t1 := take_pre hp.left
   have t2 := name_pre c p1.left (hk.nn p1)
   rw [node_rest (by omega) (by rw [h1]; decide) (by rw [h1]; decide) t1 t2]
   have p2 := p1.right
   have ha : ∀ b ∈ x.as, Name b.n ∧ Str b.v := fun b hb => by
    obtain ⟨q, hq⟩ := List.getElem?_of_mem hb
    exact (g2 q b hq).1
   have hal : x.as.length ≤ (attrsT x.as).length := by
    have : ∀ l : List AttrD, l.length ≤ (attrsT l).length := by
     intro l
     induction l with
     | nil => exact Nat.zero_le _
     | cons b l ih => simp only [attrsT, attrT, List.length_append, List.length_cons, List.length_nil]; omega
    exact this _
   -- the key and the attributes
   have step : ∃ f, s.length < f + x.as.length + 2 ∧ f ≤ s.length + 1 ∧ restF (chF s d) s (s.length + 1) (i + ([60] : List UInt8).length + x.tag.length) (nd + 1) x.tag [] [] = restF (chF s d) s (f + 1) (i + 1 + x.tag.length + (keyT x.key).length + (attrsT x.as).length) (nd + 1) x.tag x.key x.as := by
    by_cases hkk : x.key = []
    ·rw [keyT_no hkk] at p2 ⊢
     rw [hkk]
     refine ⟨s.length - x.as.length, by omega, by omega, ?_⟩
     rw [rest_attrs hu ha p2 (by omega)]
     simp only [List.length_cons, List.length_nil, List.nil_append, Nat.add_zero]
     congr 1; omega
    ·rw [keyT_yes hkk] at p2 ⊢
     have hkn : Name x.key := e.resolve_left hkk
     have h2 : pkB s (i + ([60] : List UInt8).length + x.tag.length) = 58 := Pre.pk (t := x.key ++ (attrsT x.as ++ u)) (by simpa using p2)
     have p3 : Pre s (i + ([60] : List UInt8).length + x.tag.length + 1) (x.key ++ (attrsT x.as ++ u)) := Pre.tl (b := 58) (by simpa using p2)
     have t3 := name_pre hkn p3.left ((ends_attrs hu).nn p3)
     have hkl := hkn.1.1
     have hkt := (keyT_len x.key).2 hkk
     refine ⟨s.length - 1 - x.as.length, by omega, by omega, ?_⟩
     rw [rest_key rfl (by rw [h2]; rfl) (by simp) t3]
     rw [rest_attrs hu ha p3.right (by omega)]
     simp only [List.length_cons, List.length_nil, List.nil_append, List.length_append]
     congr 1 <;> omega
   obtain ⟨ff, _, _, hstep⟩ := step
   rw [hstep]
   have p3 := p2.right.right
   have hj : i + ([60] : List UInt8).length + x.tag.length + (keyT x.key).length + (attrsT x.as).length = i + 1 + x.tag.length + (keyT x.key).length + (attrsT x.as).length := rfl
   rw [hj] at p3
   by_cases h2 : x.kids.length = 0
   ·have hu2 := hu0 h2
    subst hu2
    have h3 := p3.pk
    rw [rest_end rfl (by rw [h3]; decide) (by rw [h3]; decide) (by rw [h3]; rfl) (take_pre p3)]
    have hz : x.size = 1 := by rw [Tr.size_eq, List.eq_nil_of_length_eq_zero h2]; rfl
    rw [List.eq_nil_of_length_eq_zero h2] at hx
    rw [hz, ← hx]
    simp only [List.length_cons, List.length_nil] at hTl ⊢
    congr 3; omega
   ·have hu2 := hu1 h2
    subst hu2
    have h3 : pkB s _ = 62 := Pre.pk (t := textsN x.kids ++ ([60, 47] ++ x.tag ++ [62])) p3
    have p4 : Pre s (i + 1 + x.tag.length + (keyT x.key).length + (attrsT x.as).length + 1) (textsN x.kids ++ ([60, 47] ++ x.tag ++ [62])) := Pre.tl (b := 62) p3
    have hsz := Tr.size_eq x
    have hsl : x.kids.length ≤ Tr.sizes x.kids := len_le_sizesN _
    have hlk : x.kids.length ≤ (textsN x.kids).length := by
     have : ∀ l : List NT, l.length ≤ (textsN l).length := by
      intro l
      induction l with
      | nil => exact Nat.zero_le _
      | cons y l ih =>
       have : 0 < (textN y).length := by
        by_cases hy : y.kind = 2
        ·rw [(textN_len y).1 hy]; simp [quoteF]
        ·rw [(textN_len y).2 hy]; omega
       simp only [textsN, List.length_append, List.length_cons]; omega
     exact this _
    simp only [List.length_append, List.length_cons, List.length_nil] at hTl
    have hc : chF s d x.tag (i + 1 + x.tag.length + (keyT x.key).length + (attrsT x.as).length + 1) (nd + 1) = .ok (x.kids, i + 1 + x.tag.length + (keyT x.key).length + (attrsT x.as).length + 1 + (textsN x.kids).length + x.tag.length + 3, nd + 1 + Tr.sizes x.kids) :=
     child_pre (d := d) (l := x.kids) (acc := []) (fun y hy => h.2 y hy) (fun y hy j nd hj hn => node_pre (h.2 y hy) hj hn) p4 (by omega) (by omega) (fun _ hh => h2 (by rw [hh]; rfl))
    rw [rest_kids rfl (by rw [h3]; decide) (by rw [h3]; decide) (by rw [h3]; decide) (by rw [h3]; rfl) hc]
    rw [← hx, hsz]
    congr 3 <;> omega
theorem size_lim : ∀ (n : Nat) (x : NT), Tr.Ok Alone n x → (textN x).length ≤ 2000 * x.size
 | 0, x, h => h.elim
 | n + 1, x, h => by
  obtain ⟨h1, h2⟩ := textN_len x
  rw [Tr.size_eq]
  rcases h.1 with ⟨a, b, _⟩ | ⟨a, _, c, d, _, e, f, g, _⟩
  ·have := h1 a; have := quoteF_len x.text; have := b.1; omega
  ·have h3 := h2 a
   have h4 : (keyT x.key).length ≤ 17 := by
    rcases d with d | d
    ·rw [keyT_no d]; exact Nat.zero_le _
    ·have := d.1.2; have := keyT_len x.key
     by_cases hk : x.key = []
     ·rw [keyT_no hk]; exact Nat.zero_le _
     ·have := this.2 hk; omega
   have h5 := attrsT_lim x.as (fun b hb => by
    obtain ⟨i, hi⟩ := List.getElem?_of_mem hb
    have := (g i b hi).1; exact ⟨this.1.1.2, this.2.1⟩)
   have h6 : (textsN x.kids).length ≤ 2000 * Tr.sizes x.kids := by
    have : ∀ l : List NT, (∀ y ∈ l, (textN y).length ≤ 2000 * y.size) → (textsN l).length ≤ 2000 * Tr.sizes l := by
     intro l
     induction l with
     | nil => intro _; exact Nat.zero_le _
     | cons y l ih => intro hy; have h7 := hy y (by simp); have h8 := ih fun z hz => hy z (by simp [hz]); simp only [textsN, Tr.sizes, List.length_append]; omega
    exact this _ fun y hy => size_lim n y (h.2 y hy)
   have := c.1.2
   split at h3 <;> omega
/-- The text of a valid tree is read as the tree. -/
theorem parR_text {x : NT} (h : Valid x) : parR (textN x) = (x, 0, 0) := by
 have h1 := size_lim 6 x h.1
 have h2 := h.2
 have h3 : nodeF (textN x) 6 0 0 = .ok (x, 0 + (textN x).length, 0 + x.size) := node_pre h.1 (Pre.self _) (by omega)
 rw [parR_ok (by omega) h3 (by omega) (chkF_yes h)]
 rfl
end Go.Proofs.YtlnehkjmmegkhaaGreat
