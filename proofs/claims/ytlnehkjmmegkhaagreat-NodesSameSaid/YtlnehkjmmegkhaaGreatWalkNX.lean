/- The walks, part NX. -/
import Derived.Test.YtlnehkjmmegkhaaGreatWalkNW
namespace Go.Proofs.YtlnehkjmmegkhaaGreat
open Go Go.Y Go.Proofs
set_option linter.unusedSimpArgs false
set_option linter.unusedVariables false
theorem replaceF_spec {w0 w : World} {G : Ghost} {L : List Res} {b : Nat} {ra : Option Addr} {rc : Nat} {s : List UInt8} (hs : s.length ≤ 70000) (M : Mem w0 G (.blk b [.int .u32 (0), .int .i32 (0), .int .u32 (0), .nilIface, .slice (ra) (4) (rc)] 177 :: .row (.slice (ra) (4) (rc)) (4) ([.string (str ([92] : List UInt8)), .string (str ([92, 92] : List UInt8)), .string (str ([34] : List UInt8)), .string (str ([92, 34] : List UInt8))]) 9 1 :: L) w) : Calls Tryz.prog 118 #[.pointer (some ⟨b, 0, none⟩), .string (str s)] w (RetS w0 G L fun v => v = .string (str (escF s))) := by
 refine calls_start (vs := [_, _]) Tryz.func118 rfl (n := 17) rfl rfl ?_
 intro a F
 refine wp_seq <| w_reg <| rl_run F (run_assign (F.ev rfl)) rfl ?_; clear F a; intro a F
 refine rl_nil <| q_tn <| wp_seq <| w_reg <| rl_run F (run_move (F.ev rfl)) rfl ?_; clear F a; intro a F
 refine rl_run F (run_nilCheck (F.ev rfl)) rfl ?_; clear F a; intro a F
 refine rl_run F (run_fieldAddr tok177.k rfl rfl (F.ev rfl)) rfl ?_; clear F a; intro a F
 refine rl_run F (run_move (F.ev rfl)) rfl ?_; clear F a; intro a F
 refine rl_run F (run_makeFunc1 (F.ev rfl)) rfl ?_; clear F a; intro a F
 replace M := M.perm (perm_front _ 1 _ rfl)
 replace M := M.perm (perm_front _ 1 _ rfl)
 change Mem w0 G (_ :: _ :: L) _ at M
 refine rl_callL F ent125 rfl rfl (once_repF M) ?_; clear F M a; rintro _ _ w a M ⟨rfl, bq1, csq1, taq1, tcq1, b1q1, c1q1, o1q1, b2q1, c2q1, o2q1, Tq1, hlq1, hv1q1, hBv1q1, hv2q1, hBv2q1, rfl⟩ F
 refine rl_nil <| q_tn <| wp_seq <| w_reg <| rl_run F (run_move (F.ev rfl)) rfl ?_; clear F a; intro a F
 refine rl_run F (run_nilCheck (F.ev rfl)) rfl ?_; clear F a; intro a F
 refine rl_run F (run_fieldAddr tok177.k rfl rfl (F.ev rfl)) rfl ?_; clear F a; intro a F
 refine rl_run F (run_load1 (agf tok175 rfl) (F.ev rfl) (M.cellL (k := 0) rfl rfl)) rfl ?_; clear F a; intro a F
 refine rl_run F (run_move (F.ev rfl)) rfl ?_; clear F a; intro a F
 replace M := M.perm (perm_front _ 4 _ rfl)
 replace M := M.perm (perm_front _ 4 _ rfl)
 replace M := M.perm (perm_front _ 4 _ rfl)
 replace M := M.perm (perm_front _ 4 _ rfl)
 change Mem w0 G (_ :: _ :: _ :: _ :: _ :: L) _ at M
 refine rl_invokeS F ent188 (fun _ => meth_rep) rfl rfl rfl (brepF_spec Tq1 hlq1 hv1q1 hBv1q1 hv2q1 hBv2q1 (s := s) hs M) ?_; clear F M a; rintro _ w a M rfl F
 refine rl_run F (run_assign (F.ev rfl)) rfl ?_; clear F a; intro a F
 refine rl_nil <| q_tn <| wp_ret <| fin1 F rfl rfl ?_
 exact ⟨M.weaken (.cons _ (.cons _ (.cons _ (.cons _ (.cons _ (List.Sublist.refl _)))))), rfl⟩
theorem quotedF_spec {w0 w : World} {G : Ghost} {L : List Res} (M : Mem w0 G L w) {s : List UInt8} (hs : s.length ≤ 70000) : Calls Tryz.prog 99 #[.string (str s)] w (RetS w0 G L fun v => v = .string (str (quoteF s))) := by
 refine calls_start (vs := [_]) Tryz.func99 rfl (n := 9) rfl rfl ?_
 intro a F
 refine wp_seq <| w_reg <| rl_run F (run_assign (F.ev rfl)) rfl ?_; clear F a; intro a F
 refine rl_nil <| q_tn <| wp_seq ?_
 have hel9 := escF_le s
 refine w_reg <| rl_buildSliceN F M tok49.k tok9 (ps := [(0, .string (str ([92] : List UInt8))), (1, .string (str ([92, 92] : List UInt8))), (2, .string (str ([34] : List UInt8))), (3, .string (str ([92, 34] : List UInt8)))]) (cs := [[.string (str ([92] : List UInt8))], [.string (str ([92, 92] : List UInt8))], [.string (str ([34] : List UInt8))], [.string (str ([92, 34] : List UInt8))]]) (fl := [.string (str ([92] : List UInt8)), .string (str ([92, 92] : List UInt8)), .string (str ([34] : List UInt8)), .string (str ([92, 34] : List UInt8))]) rfl rfl (by simp [Parts, Value.cells]) (by simp [ti9]) rfl (by simp [Value.oneCell']) (by decide) (by decide) rfl ?_; clear F M a; intro v1 w a M F
 obtain ⟨av1, cv1, rfl, hlev1, hcmv1, hlv1⟩ := M.row_shape (k := 0) rfl
 change Mem w0 G (_ :: L) _ at M
 refine rl_callL F ent117 rfl rfl (newrep_spec M) ?_; clear F M a; rintro _ _ w a M ⟨bq2, aq2, cq2, rfl, rfl⟩ F
 refine rl_run F (run_move (F.ev rfl)) rfl ?_; clear F a; intro a F
 replace M := M.perm (perm_front _ 1 _ rfl)
 replace M := M.perm (perm_front _ 1 _ rfl)
 change Mem w0 G (_ :: _ :: L) _ at M
 refine rl_callS F ent118 rfl rfl (replaceF_spec (s := s) hs M) ?_; clear F M a; rintro _ w a M rfl F
 iterate 2 (refine rl_run F (run_strAdd (F.ev rfl) (F.ev rfl) (by (try simp only [List.length_append, List.length_cons, List.length_nil]); omega)) rfl ?_; clear F a; intro a F)
 refine rl_run F (run_assign (F.ev rfl)) rfl ?_; clear F a; intro a F
 refine rl_nil <| q_tn <| wp_ret <| fin1 F rfl rfl ?_
 exact ⟨M.weaken (List.Sublist.refl _), rfl⟩
/-- A node of a valid tree: no string is long. -/
def LimA (x : NT) : Prop := x.text.length ≤ 70000 ∧ ∀ a ∈ x.as, a.v.length ≤ 70000
theorem alone_lim {x : NT} (h : Alone x) : LimA x := by
 rcases h with ⟨_, h, _, _, h2, _⟩ | ⟨_, _, _, _, h, _, _, h2, _⟩
 ·refine ⟨by have := h.1; omega, fun a ha => ?_⟩
  rw [List.eq_nil_of_length_eq_zero h2] at ha; cases ha
 ·refine ⟨by rw [h]; exact Nat.zero_le _, fun a ha => ?_⟩
  obtain ⟨i, hi⟩ := List.getElem?_of_mem ha
  have := ((h2 i a hi).1).2.1; omega
theorem ok_lim : ∀ {n : Nat} {x : NT}, Tr.Ok Alone n x → Tr.Ok LimA n x
 | 0, x, h => h
 | n + 1, x, h => ⟨alone_lim h.1, fun y hy => ok_lim (h.2 y hy)⟩
theorem quoteF_len (s : List UInt8) : (quoteF s).length ≤ 2 * s.length + 2 := by
 have := (escF_le s).2
 simp only [quoteF, List.length_append, List.length_cons, List.length_nil]; omega
theorem attrsT_lim : ∀ (l : List AttrD), (∀ a ∈ l, a.n.length ≤ 16 ∧ a.v.length ≤ 64) → (attrsT l).length ≤ 148 * l.length
 | [], _ => Nat.le_refl _
 | a :: l, h => by
  have h1 := h a (by simp)
  have h2 := attrsT_lim l (fun b hb => h b (by simp [hb]))
  have h3 := quoteF_len a.v
  simp only [attrsT, attrT, List.length_append, List.length_cons, List.length_nil] at h2 ⊢; omega
theorem textsN_lim {B : Nat} : ∀ (l : List NT), (∀ x ∈ l, (textN x).length ≤ B) → (textsN l).length ≤ B * l.length
 | [], _ => Nat.zero_le _
 | x :: l, h => by
  have h1 := h x (by simp)
  have h2 := textsN_lim l (fun b hb => h b (by simp [hb]))
  simp only [textsN, List.length_append, List.length_cons, Nat.mul_add, Nat.mul_one]; omega
theorem textN_lim : ∀ (n : Nat) (x : NT), Tr.Ok Alone n x → (textN x).length ≤ 2000 * 17 ^ n
 | 0, x, h => h.elim
 | n + 1, x, h => by
  obtain ⟨h1, h2⟩ := textN_len x
  have hp : 1 ≤ 17 ^ n := Nat.pos_of_ne_zero (by simp)
  rw [Nat.pow_succ]
  rcases h.1 with ⟨a, b, _⟩ | ⟨a, _, c, d, _, e, f, g, _⟩
  ·have := h1 a; have := quoteF_len x.text; have := b.1; omega
  ·have h3 := h2 a
   have h4 : (keyT x.key).length ≤ 17 := by
    rcases d with d | d
    ·rw [keyT_no d]; exact Nat.zero_le _
    ·have := d.1.2; have := keyT_len x.key
     by_cases hk : x.key = []
     ·rw [keyT_no hk]; exact Nat.zero_le _
     ·have := this.2 hk; omega
   have h5 := attrsT_lim x.as (fun b hb => by
    obtain ⟨i, hi⟩ := List.getElem?_of_mem hb
    have := (g i b hi).1; exact ⟨this.1.1.2, this.2.1⟩)
   have h6 := textsN_lim x.kids (fun y hy => textN_lim n y (h.2 y hy))
   have h7 : (textsN x.kids).length ≤ 2000 * 17 ^ n * 16 := Nat.le_trans h6 (Nat.mul_le_mul_left _ f)
   have := c.1.2
   split at h3 <;> omega
theorem valid_len {x : NT} (h : Valid x) : (textN x).length ≤ 140737488355328 := Nat.le_trans (textN_lim 6 x h.1) (by decide)
def WrF (x : NT) : Prop := ∀ (d : Nat) (w0 w : World) (G : Ghost) (L : List Res) (b n c : Nat) (ad : Option Addr) (l : List UInt8) (p : Value) (ta ka : Option Addr) (tc kc : Nat), Tr.Ok LimA d x → (p = .pointer none ∨ p = .pointer (some ⟨b, 0, none⟩)) → Mem w0 G (.blk b [p, .slice ad n c] 113 :: .row (.slice ad n c) n (bc l) 5 1 :: L) w → n = l.length → (l = [] → ad = none) → inKind .u8 x.kind → (x.tag.length ≤ 9223372036854775807 ∧ x.key.length ≤ 9223372036854775807 ∧ x.text.length ≤ 9223372036854775807) →
  RdSl rdAttr 2 G (.slice ta x.as.length tc) x.as → RdSl rdN 6 G (.slice ka x.kids.length kc) x.kids → l.length + (textN x).length ≤ 140737488355328 →
  Calls Tryz.prog 77 #[.pointer (some ⟨b, 0, none⟩), .agg #[.int .u8 (x.kind), .string (str (x.tag)), .string (str (x.key)), .slice (ta) (x.as.length) (tc), .string (str (x.text)), .slice (ka) (x.kids.length) (kc)]] w (RetL w0 G fun L' v => v = .tuple #[] ∧ ∃ a' n' c', L' = (.blk b [.pointer (some ⟨b, 0, none⟩), .slice a' n' c'] 113 :: .row (.slice a' n' c') n' (bc (l ++ textN x)) 5 1 :: L) ∧ n' = (l ++ textN x).length ∧ (l ++ textN x = [] → a' = none))
set_option maxHeartbeats 2000000 in
theorem writeF_step {x : NT} (ih : ∀ y ∈ x.kids, WrF y) {d : Nat} {w0 w : World} {G : Ghost} {L : List Res} {b n c : Nat} {ad : Option Addr} {l : List UInt8} {p : Value} {ta ka : Option Addr} {tc kc : Nat} (hok : Tr.Ok LimA (d + 1) x) (hp : p = .pointer none ∨ p = .pointer (some ⟨b, 0, none⟩)) (M : Mem w0 G (.blk b [p, .slice ad n c] 113 :: .row (.slice ad n c) n (bc l) 5 1 :: L) w) (hn : n = l.length) (hnil : l = [] → ad = none) (hk : inKind .u8 x.kind) (hl : (x.tag.length ≤ 9223372036854775807 ∧ x.key.length ≤ 9223372036854775807 ∧ x.text.length ≤ 9223372036854775807))
  (SA : RdSl rdAttr 2 G (.slice ta x.as.length tc) x.as) (SK : RdSl rdN 6 G (.slice ka x.kids.length kc) x.kids) (hT : l.length + (textN x).length ≤ 140737488355328) :
  Calls Tryz.prog 77 #[.pointer (some ⟨b, 0, none⟩), .agg #[.int .u8 (x.kind), .string (str (x.tag)), .string (str (x.key)), .slice (ta) (x.as.length) (tc), .string (str (x.text)), .slice (ka) (x.kids.length) (kc)]] w (RetL w0 G fun L' v => v = .tuple #[] ∧ ∃ a' n' c', L' = (.blk b [.pointer (some ⟨b, 0, none⟩), .slice a' n' c'] 113 :: .row (.slice a' n' c') n' (bc (l ++ textN x)) 5 1 :: L) ∧ n' = (l ++ textN x).length ∧ (l ++ textN x = [] → a' = none)) := by
 refine calls_start (vs := [_, _]) Tryz.func77 rfl (n := 72) rfl rfl ?_
 intro a F
 refine wp_seq <| w_reg <| rl_box F M rfl (cs := [.int .u8 (x.kind), .string (str (x.tag)), .string (str (x.key)), .slice (ta) (x.as.length) (tc), .string (str (x.text)), .slice (ka) (x.kids.length) (kc)]) rfl rfl ?_; clear F M a; intro b1 w a M F
 refine rl_nil <| q_tn ?_
 iterate 2 (refine wp_seq ?_)
 have bA := SA.bound
 have bK := SK.bound
 obtain ⟨hTW, hTE⟩ := textN_len x
 obtain ⟨hK1, hK2⟩ := keyT_len x.key
 refine w_reg <| rl_run F (run_fieldAddr tok30.k rfl rfl (F.ev rfl)) rfl ?_; clear F a; intro a F
 refine rl_run F (run_load1 (agf tok5 rfl) (F.ev rfl) (M.cellL (k := 0) rfl rfl)) rfl ?_; clear F a; intro a F
 refine rl_run F (run_eqi (F.ev rfl) (F.ev rfl)) rfl ?_; clear F a; intro a F
 refine rl_nil <| q_tn <| w_cond F rfl ?_ ?_
 ·intro hc
  have h2b := hc; clear hc
  have h2 : x.kind = 2 := of_decide_eq_true h2b
  refine wp_seq ?_
  have hT2 := hTW (by omega)
  refine w_reg <| rl_run F (run_move (F.ev rfl)) rfl ?_; clear F a; intro a F
  refine rl_run F (run_fieldAddr tok30.k rfl rfl (F.ev rfl)) rfl ?_; clear F a; intro a F
  refine rl_run F (run_load1 (agf tok9 rfl) (F.ev rfl) (M.cellL (k := 0) rfl rfl)) rfl ?_; clear F a; intro a F
  refine rl_callS F ent99 rfl rfl (quotedF_spec (s := x.text) M hok.1.1) ?_; clear F M a; rintro _ w a M rfl F
  replace M := M.perm (perm_front _ 2 _ rfl)
  replace M := M.perm (perm_front _ 2 _ rfl)
  change Mem w0 G (_ :: _ :: _ :: L) _ at M
  refine rl_callL F ent98 rfl rfl (wstr_spec (s := (quoteF x.text)) hp M hn hnil (by ((try simp only [List.length_append, List.length_cons, List.length_nil]); omega))) ?_; clear F M a; rintro _ _ w a M ⟨rfl, au3, nu3, cu3, rfl, hnu3, hnilu3⟩ F
  refine rl_nil <| q_tn <| wp_ret <| q_tr <| fin0 F rfl ?_
  replace M := M.perm (perm_front _ 1 _ rfl)
  replace M := M.perm (perm_front _ 1 _ rfl)
  change Mem w0 G (_ :: _ :: _ :: L) _ at M
  have hsn : l ++ (quoteF x.text) = l ++ textN x := by first | (rw [textN_words (by omega)]; done) | (rw [textN_leaf (by omega) (by omega), keyT_yes (by assumption), attrsT_all (by omega)]; simp only [List.append_assoc]; done) | (rw [textN_leaf (by omega) (by omega), keyT_no (by assumption), attrsT_all (by omega)]; simp only [List.append_assoc, List.nil_append]; done) | (rw [textN_node (by omega) (by omega), keyT_yes (by assumption), attrsT_all (by omega), textsN_all (by omega)]; simp only [List.append_assoc]; done) | (rw [textN_node (by omega) (by omega), keyT_no (by assumption), attrsT_all (by omega), textsN_all (by omega)]; simp only [List.append_assoc, List.nil_append]; done)
  rw [hsn] at M hnu3 hnilu3
  exact ⟨_, M.weaken (.cons_cons _ (.cons_cons _ (.cons _ (List.Sublist.refl _)))), rfl, _, _, _, rfl, hnu3, hnilu3⟩
 ·intro hc
  have h4b := hc; clear hc
  have h4 : ¬ (x.kind = 2) := of_decide_eq_false h4b
  refine wp_skip <| q_tn <| wp_seq ?_
  have hT2 := hTE (by omega)
  refine w_reg <| rl_run F (run_move (F.ev rfl)) rfl ?_; clear F a; intro a F
  refine rl_run F (run_fieldAddr tok30.k rfl rfl (F.ev rfl)) rfl ?_; clear F a; intro a F
  refine rl_run F (run_load1 (agf tok9 rfl) (F.ev rfl) (M.cellL (k := 0) rfl rfl)) rfl ?_; clear F a; intro a F
  refine rl_run F (run_strAdd (F.ev rfl) (F.ev rfl) (by ((try simp only [List.length_append, List.length_cons, List.length_nil]); omega))) rfl ?_; clear F a; intro a F
  replace M := M.perm (perm_front _ 2 _ rfl)
  replace M := M.perm (perm_front _ 2 _ rfl)
  change Mem w0 G (_ :: _ :: _ :: L) _ at M
  refine rl_callL F ent98 rfl rfl (wstr_spec (s := (([60] : List UInt8) ++ x.tag)) hp M hn hnil (by ((try simp only [List.length_append, List.length_cons, List.length_nil]); omega))) ?_; clear F M a; rintro _ _ w a M ⟨rfl, au5, nu5, cu5, rfl, hnu5, hnilu5⟩ F
  refine rl_nil <| q_tn ?_
  iterate 2 (refine wp_seq ?_)
  refine w_reg <| rl_run F (run_fieldAddr tok30.k rfl rfl (F.ev rfl)) rfl ?_; clear F a; intro a F
  refine rl_run F (run_load1 (agf tok9 rfl) (F.ev rfl) (M.cellL (k := 2) rfl rfl)) rfl ?_; clear F a; intro a F
  refine rl_run F (run_strNe (F.ev rfl) (F.ev rfl)) rfl ?_; clear F a; intro a F
  refine rl_nil <| q_tn <| w_cond F rfl ?_ ?_
  ·intro hc
   have h6b := hc; clear hc
   have h6 : ¬ (x.key = ([] : List UInt8)) := of_decide_eq_false (of_not_t h6b)
   have h6c : (decide (x.key = ([] : List UInt8))) = false := (of_not_t h6b)
   have hK3 := hK2 (by assumption)
   refine w_reg <| rl_run F (run_move (F.ev rfl)) rfl ?_; clear F a; intro a F
   refine rl_run F (run_fieldAddr tok30.k rfl rfl (F.ev rfl)) rfl ?_; clear F a; intro a F
   refine rl_run F (run_load1 (agf tok9 rfl) (F.ev rfl) (M.cellL (k := 2) rfl rfl)) rfl ?_; clear F a; intro a F
   refine rl_run F (run_strAdd (F.ev rfl) (F.ev rfl) (by ((try simp only [List.length_append, List.length_cons, List.length_nil]); omega))) rfl ?_; clear F a; intro a F
   replace M := M.perm (perm_front _ 1 _ rfl)
   replace M := M.perm (perm_front _ 1 _ rfl)
   change Mem w0 G (_ :: _ :: _ :: L) _ at M
   refine rl_callL F ent98 rfl rfl (wstr_spec (s := (([58] : List UInt8) ++ x.key)) (Or.inr rfl) M hnu5 hnilu5 (by ((try simp only [List.length_append, List.length_cons, List.length_nil]); omega))) ?_; clear F M a; rintro _ _ w a M ⟨rfl, au7, nu7, cu7, rfl, hnu7, hnilu7⟩ F
   refine rl_nil <| q_tn ?_
   iterate 2 (refine wp_seq ?_)
   refine w_reg <| rl_run F (run_fieldAddr tok30.k rfl rfl (F.ev rfl)) rfl ?_; clear F a; intro a F
   refine rl_run F (run_load1 (agf tok27 rfl) (F.ev rfl) (M.cellL (k := 2) rfl rfl)) rfl ?_; clear F a; intro a F
   refine rl_run F (run_lenSl tok27.k (F.ev rfl)) rfl ?_; clear F a; intro a F
   refine rl_run F (run_move (F.ev rfl)) rfl ?_; clear F a; intro a F
   refine rl_nil <| q_tn <| wp_block ?_
   have hz : (l ++ (([60] : List UInt8) ++ x.tag)) ++ (([58] : List UInt8) ++ x.key) = ((l ++ (([60] : List UInt8) ++ x.tag)) ++ (([58] : List UInt8) ++ x.key)) ++ attrsT (x.as.take 0) := by simp [attrsT]
   rw [hz] at M hnu7 hnilu7
   refine w_loopN (fun m a' w' => ∃ (i : Nat), ∃ (am : Option Addr), ∃ (nm : Nat), ∃ (cm : Nat), ∃ (pm : Value), m = x.as.length - i ∧ Fits 72 a' [(0, .pointer (some ⟨b, 0, none⟩)), (3, .pointer (some ⟨b1, 0, none⟩)), (30, .slice (ta) (x.as.length) (tc)), (31, .int .i64 (((x.as.length : Nat) : Int))), (32, .int .i64 (((i : Nat) : Int)))] ∧ Mem w0 G (.blk b [pm, .slice (am) (nm) (cm)] 113 :: .row (.slice (am) (nm) (cm)) (nm) (bc (((l ++ (([60] : List UInt8) ++ x.tag)) ++ (([58] : List UInt8) ++ x.key)) ++ attrsT (x.as.take i))) 5 1 :: .blk b1 [.int .u8 (x.kind), .string (str (x.tag)), .string (str (x.key)), .slice (ta) (x.as.length) (tc), .string (str (x.text)), .slice (ka) (x.kids.length) (kc)] 30 :: L) w' ∧ (i ≤ x.as.length) ∧ (pm = .pointer none ∨ pm = .pointer (some ⟨b, 0, none⟩)) ∧ (nm = (((l ++ (([60] : List UInt8) ++ x.tag)) ++ (([58] : List UInt8) ++ x.key)) ++ attrsT (x.as.take i)).length) ∧ ((((l ++ (([60] : List UInt8) ++ x.tag)) ++ (([58] : List UInt8) ++ x.key)) ++ attrsT (x.as.take i)) = [] → am = none)) _ ⟨0, (au7), (nu7), (cu7), (.pointer (some ⟨b, 0, none⟩)), rfl, F.to ⟨rfl, rfl, rfl, rfl, rfl, trivial⟩, M, Nat.zero_le _, (Or.inr rfl), hnu7, hnilu7⟩ ?_
   clear F M
   rintro m a w ⟨i, am, nm, cm, pm, rfl, F, M, hi, hpm, hnm, hnilm⟩
   refine wp_seq <| w_reg <| rl_run F (run_lss (F.ev rfl) (F.ev rfl)) rfl ?_; clear F a; intro a F
   refine rl_nil <| q_tn <| wp_seq <| w_cond F rfl ?_ ?_
   ·intro hc
    have h8b := hc; clear hc
    have h8 : ((i : Nat) : Int) < ((x.as.length : Nat) : Int) := of_decide_eq_true h8b
    refine wp_skip <| q_tn <| wp_seq <| wp_block <| wp_seq <| w_reg ?_
    obtain ⟨Xe9, hXe9⟩ := get_of_lt (xs := x.as) (i := i) (by omega)
    obtain ⟨be9, oe9, _, Ie9, _, Ae9, ⟨rfl, hn1e9, hv1e9⟩⟩ := SA.at hXe9
    refine rl_run F (run_indexI tok27.k tok87 (F.ev rfl) (F.ev rfl) (by omega) Ie9) rfl ?_; clear F a; intro a F
    refine rl_run F (run_loadA tok87 rfl (F.ev rfl) (cs := [.string (str (Xe9.n)), .string (str (Xe9.v))]) rfl (M.cellsA Ae9 0 (by omega) rfl)) rfl ?_; clear F a; intro a F
    refine rl_alloc F M tok87 rfl rfl ?_; clear F M a; intro b10 w a M F
    refine rl_storeA F M tok87 (k := 0) rfl rfl rfl (us := [.string (str (Xe9.n)), .string (str (Xe9.v))]) rfl rfl (by simp [Value.oneCell']) (by simp) ?_; clear F M a; intro w a M F
    change Mem w0 G (.blk b10 [.string (str (Xe9.n)), .string (str (Xe9.v))] 87 :: _ :: _ :: _ :: L) _ at M
    refine rl_nil <| q_tn ?_
    have hA9 := attrsT_le hXe9
    refine w_plan [(true, 0), (true, 1), (true, 2), (true, 3), (true, 4), (true, 5), (true, 6), (false, 7), (true, 8), (false, 9)] (Keep G [.blk b10 [.string (str (Xe9.n)), .string (str (Xe9.v))] 87, .blk b1 [.int .u8 (x.kind), .string (str (x.tag)), .string (str (x.key)), .slice (ta) (x.as.length) (tc), .string (str (x.text)), .slice (ka) (x.kids.length) (kc)] 30]) rfl (by kernel_rfl) (fun c a d v w h => by cases d <;> exact h) ((M.drew _).keep (Gle.refl _) (by simp)) ?_
    replace M := M.drew (w.drawn + 1)
    refine pl_run F (fun w M => run_move (F.ev rfl)) rfl ?_; clear F a; intro a F
    refine pl_run F (fun w M => run_fieldAddr tok87.k rfl rfl (F.ev rfl)) rfl ?_; clear F a; intro a F
    refine pl_run F (fun w M => run_load1 (agf tok9 rfl) (F.ev rfl) (M.cellL (k := 0) rfl rfl)) rfl ?_; clear F a; intro a F
    iterate 2 (refine pl_run F (fun w M => run_strAdd (F.ev rfl) (F.ev rfl) (by ((try simp only [List.length_append, List.length_cons, List.length_nil]); omega))) rfl ?_; clear F a; intro a F)
    refine pl_run F (fun w M => run_fieldAddr tok87.k rfl rfl (F.ev rfl)) rfl ?_; clear F a; intro a F
    refine pl_run F (fun w M => run_load1 (agf tok9 rfl) (F.ev rfl) (M.cellL (k := 0) rfl rfl)) rfl ?_; clear F a; intro a F
    refine pl_act ?_ rfl
    refine rl_callS F ent99 rfl rfl (quotedF_spec (s := Xe9.v) M (hok.1.2 _ (List.mem_of_getElem? hXe9))) ?_; clear F M a; rintro _ w a M rfl F
    refine rl_nil <| ⟨Keep G [.blk b10 [.string (str (Xe9.n)), .string (str (Xe9.v))] 87, .blk b1 [.int .u8 (x.kind), .string (str (x.tag)), .string (str (x.key)), .slice (ta) (x.as.length) (tc), .string (str (x.text)), .slice (ka) (x.kids.length) (kc)] 30], M.keep (Gle.refl _) (by simp), fun w h => h.mono (Gle.refl _) (by simp), ?_⟩
    refine pl_run F (fun w M => run_strAdd (F.ev rfl) (F.ev rfl) (by ((try simp only [List.length_append, List.length_cons, List.length_nil]); omega))) rfl ?_; clear F a; intro a F
    refine pl_act ?_ rfl
    replace M := M.perm (perm_front _ 2 _ rfl)
    replace M := M.perm (perm_front _ 2 _ rfl)
    change Mem w0 G (_ :: _ :: .blk b10 [.string (str (Xe9.n)), .string (str (Xe9.v))] 87 :: _ :: L) _ at M
    refine rl_callL F ent98 rfl rfl (wstr_spec (s := (((([32] : List UInt8) ++ Xe9.n) ++ ([61] : List UInt8)) ++ (quoteF Xe9.v))) hpm M hnm hnilm (by ((try simp only [List.length_append, List.length_cons, List.length_nil]); omega))) ?_; clear F M a; rintro _ _ w a M ⟨rfl, au12, nu12, cu12, rfl, hnu12, hnilu12⟩ F
    refine rl_nil <| ⟨Keep G [.blk b10 [.string (str (Xe9.n)), .string (str (Xe9.v))] 87, .blk b1 [.int .u8 (x.kind), .string (str (x.tag)), .string (str (x.key)), .slice (ta) (x.as.length) (tc), .string (str (x.text)), .slice (ka) (x.kids.length) (kc)] 30], M.keep (Gle.refl _) (by simp), fun w h => h.mono (Gle.refl _) (by simp), ?_⟩
    refine pl_nil <| q_bn <| q_tn <| w_reg <| rl_run F (run_addi (F.ev rfl) (F.ev rfl) (in_i64 (by omega) (by omega))) rfl ?_; clear F a; intro a F
    refine rl_run F (run_move (F.ev rfl)) rfl ?_; clear F a; intro a F
    refine rl_nil <| q_tn ?_
    have hsn : (((l ++ (([60] : List UInt8) ++ x.tag)) ++ (([58] : List UInt8) ++ x.key)) ++ attrsT (x.as.take i)) ++ (((([32] : List UInt8) ++ Xe9.n) ++ ([61] : List UInt8)) ++ (quoteF Xe9.v)) = ((l ++ (([60] : List UInt8) ++ x.tag)) ++ (([58] : List UInt8) ++ x.key)) ++ attrsT (x.as.take (i + 1)) := by rw [attrsT_snoc hXe9, attrT]; simp only [List.append_assoc]
    rw [hsn] at M hnu12 hnilu12
    exact ⟨_, by omega, i + 1, (au12), (nu12), (cu12), (.pointer (some ⟨b, 0, none⟩)), rfl, F.to ⟨rfl, rfl, rfl, rfl, rfl, trivial⟩, (M.weaken (.cons_cons _ (.cons_cons _ (.cons _ (.cons_cons _ (List.Sublist.refl _)))))), by omega, (Or.inr rfl), hnu12, hnilu12⟩
   ·intro hc
    have h13b := hc; clear hc
    have h13 : ¬ (((i : Nat) : Int) < ((x.as.length : Nat) : Int)) := of_decide_eq_false h13b
    refine wp_exit ?_
    iterate 2 (refine q_te ?_)
    refine q_bh <| q_tn ?_
    iterate 2 (refine wp_seq ?_)
    have hA0 : (attrsT (x.as.take i)).length = (attrsT x.as).length := by rw [attrsT_all (by omega)]
    refine w_reg <| rl_run F (run_fieldAddr tok30.k rfl rfl (F.ev rfl)) rfl ?_; clear F a; intro a F
    refine rl_run F (run_load1 (agf tok28 rfl) (F.ev rfl) (M.cellL (k := 2) rfl rfl)) rfl ?_; clear F a; intro a F
    refine rl_run F (run_lenSl tok28.k (F.ev rfl)) rfl ?_; clear F a; intro a F
    refine rl_run F (run_eqi (F.ev rfl) (F.ev rfl)) rfl ?_; clear F a; intro a F
    refine rl_nil <| q_tn <| w_cond F rfl ?_ ?_
    ·intro hc
     have h14b := hc; clear hc
     have h14 : ((x.kids.length : Nat) : Int) = 0 := of_decide_eq_true h14b
     refine wp_seq ?_
     rw [if_pos (by omega)] at hT2
     refine w_reg <| rl_run F (run_move (F.ev rfl)) rfl ?_; clear F a; intro a F
     replace M := M.perm (perm_front _ 1 _ rfl)
     replace M := M.perm (perm_front _ 1 _ rfl)
     change Mem w0 G (_ :: _ :: _ :: L) _ at M
     refine rl_callL F ent98 rfl rfl (wstr_spec (s := ([47, 62] : List UInt8)) hpm M hnm hnilm (by ((try simp only [List.length_append, List.length_cons, List.length_nil]); omega))) ?_; clear F M a; rintro _ _ w a M ⟨rfl, au15, nu15, cu15, rfl, hnu15, hnilu15⟩ F
     refine rl_nil <| q_tn <| wp_ret <| q_tr <| fin0 F rfl ?_
     replace M := M.perm (perm_front _ 1 _ rfl)
     replace M := M.perm (perm_front _ 1 _ rfl)
     change Mem w0 G (_ :: _ :: _ :: L) _ at M
     have hsn : (((l ++ (([60] : List UInt8) ++ x.tag)) ++ (([58] : List UInt8) ++ x.key)) ++ attrsT (x.as.take i)) ++ ([47, 62] : List UInt8) = l ++ textN x := by first | (rw [textN_words (by omega)]; done) | (rw [textN_leaf (by omega) (by omega), keyT_yes (by assumption), attrsT_all (by omega)]; simp only [List.append_assoc]; done) | (rw [textN_leaf (by omega) (by omega), keyT_no (by assumption), attrsT_all (by omega)]; simp only [List.append_assoc, List.nil_append]; done) | (rw [textN_node (by omega) (by omega), keyT_yes (by assumption), attrsT_all (by omega), textsN_all (by omega)]; simp only [List.append_assoc]; done) | (rw [textN_node (by omega) (by omega), keyT_no (by assumption), attrsT_all (by omega), textsN_all (by omega)]; simp only [List.append_assoc, List.nil_append]; done)
     rw [hsn] at M hnu15 hnilu15
     exact ⟨_, M.weaken (.cons_cons _ (.cons_cons _ (.cons _ (List.Sublist.refl _)))), rfl, _, _, _, rfl, hnu15, hnilu15⟩
    ·intro hc
     have h16b := hc; clear hc
     have h16 : ¬ (((x.kids.length : Nat) : Int) = 0) := of_decide_eq_false h16b
     refine wp_skip <| q_tn <| wp_seq ?_
     rw [if_neg (by omega)] at hT2
     refine w_reg <| rl_run F (run_move (F.ev rfl)) rfl ?_; clear F a; intro a F
     replace M := M.perm (perm_front _ 1 _ rfl)
     replace M := M.perm (perm_front _ 1 _ rfl)
     change Mem w0 G (_ :: _ :: _ :: L) _ at M
     refine rl_callL F ent98 rfl rfl (wstr_spec (s := ([62] : List UInt8)) hpm M hnm hnilm (by ((try simp only [List.length_append, List.length_cons, List.length_nil]); omega))) ?_; clear F M a; rintro _ _ w a M ⟨rfl, au17, nu17, cu17, rfl, hnu17, hnilu17⟩ F
     refine rl_nil <| q_tn ?_
     iterate 2 (refine wp_seq ?_)
     refine w_reg <| rl_run F (run_fieldAddr tok30.k rfl rfl (F.ev rfl)) rfl ?_; clear F a; intro a F
     refine rl_run F (run_load1 (agf tok28 rfl) (F.ev rfl) (M.cellL (k := 2) rfl rfl)) rfl ?_; clear F a; intro a F
     refine rl_run F (run_lenSl tok28.k (F.ev rfl)) rfl ?_; clear F a; intro a F
     refine rl_run F (run_move (F.ev rfl)) rfl ?_; clear F a; intro a F
     refine rl_nil <| q_tn <| wp_block ?_
     have hz2 : (((l ++ (([60] : List UInt8) ++ x.tag)) ++ (([58] : List UInt8) ++ x.key)) ++ attrsT (x.as.take i)) ++ ([62] : List UInt8) = ((((l ++ (([60] : List UInt8) ++ x.tag)) ++ (([58] : List UInt8) ++ x.key)) ++ attrsT (x.as.take i)) ++ ([62] : List UInt8)) ++ textsN (x.kids.take 0) := by simp [textsN]
     rw [hz2] at M hnu17 hnilu17
     refine w_loopN (fun m a' w' => ∃ (j : Nat), ∃ (ak : Option Addr), ∃ (nk : Nat), ∃ (ck : Nat), ∃ (pk : Value), m = x.kids.length - j ∧ Fits 72 a' [(0, .pointer (some ⟨b, 0, none⟩)), (3, .pointer (some ⟨b1, 0, none⟩)), (56, .slice (ka) (x.kids.length) (kc)), (57, .int .i64 (((x.kids.length : Nat) : Int))), (58, .int .i64 (((j : Nat) : Int)))] ∧ Mem w0 G (.blk b [pk, .slice (ak) (nk) (ck)] 113 :: .row (.slice (ak) (nk) (ck)) (nk) (bc (((((l ++ (([60] : List UInt8) ++ x.tag)) ++ (([58] : List UInt8) ++ x.key)) ++ attrsT (x.as.take i)) ++ ([62] : List UInt8)) ++ textsN (x.kids.take j))) 5 1 :: .blk b1 [.int .u8 (x.kind), .string (str (x.tag)), .string (str (x.key)), .slice (ta) (x.as.length) (tc), .string (str (x.text)), .slice (ka) (x.kids.length) (kc)] 30 :: L) w' ∧ (j ≤ x.kids.length) ∧ (pk = .pointer none ∨ pk = .pointer (some ⟨b, 0, none⟩)) ∧ (nk = (((((l ++ (([60] : List UInt8) ++ x.tag)) ++ (([58] : List UInt8) ++ x.key)) ++ attrsT (x.as.take i)) ++ ([62] : List UInt8)) ++ textsN (x.kids.take j)).length) ∧ ((((((l ++ (([60] : List UInt8) ++ x.tag)) ++ (([58] : List UInt8) ++ x.key)) ++ attrsT (x.as.take i)) ++ ([62] : List UInt8)) ++ textsN (x.kids.take j)) = [] → ak = none)) _ ⟨0, (au17), (nu17), (cu17), (.pointer (some ⟨b, 0, none⟩)), rfl, F.to ⟨rfl, rfl, rfl, rfl, rfl, trivial⟩, M, Nat.zero_le _, (Or.inr rfl), hnu17, hnilu17⟩ ?_
     clear F M
     rintro m a w ⟨j, ak, nk, ck, pk, rfl, F, M, hj, hpk, hnk, hnilk⟩
     refine wp_seq <| w_reg <| rl_run F (run_lss (F.ev rfl) (F.ev rfl)) rfl ?_; clear F a; intro a F
     refine rl_nil <| q_tn <| wp_seq <| w_cond F rfl ?_ ?_
     ·intro hc
      have h18b := hc; clear hc
      have h18 : ((j : Nat) : Int) < ((x.kids.length : Nat) : Int) := of_decide_eq_true h18b
      refine wp_skip <| q_tn <| wp_seq <| wp_block <| wp_seq <| w_reg ?_
      obtain ⟨Xe19, hXe19⟩ := get_of_lt (xs := x.kids) (i := j) (by omega)
      obtain ⟨be19, oe19, _, Ie19, _, Ae19, hTe19⟩ := SK.at hXe19
      obtain ⟨tae19, tce19, kae19, kce19, rfl, hke19, hle19, SAe19, SKe19⟩ := rdT_open hTe19
      refine rl_run F (run_indexI tok28.k tok30 (F.ev rfl) (F.ev rfl) (by omega) Ie19) rfl ?_; clear F a; intro a F
      refine rl_run F (run_loadA tok30 rfl (F.ev rfl) (cs := [.int .u8 (Xe19.kind), .string (str (Xe19.tag)), .string (str (Xe19.key)), .slice (tae19) (Xe19.as.length) (tce19), .string (str (Xe19.text)), .slice (kae19) (Xe19.kids.length) (kce19)]) rfl (M.cellsA Ae19 0 (by omega) rfl)) rfl ?_; clear F a; intro a F
      refine rl_alloc F M tok30 rfl rfl ?_; clear F M a; intro b20 w a M F
      refine rl_storeA F M tok30 (k := 0) rfl rfl rfl (us := [.int .u8 (Xe19.kind), .string (str (Xe19.tag)), .string (str (Xe19.key)), .slice (tae19) (Xe19.as.length) (tce19), .string (str (Xe19.text)), .slice (kae19) (Xe19.kids.length) (kce19)]) rfl rfl (by simp [Value.oneCell']) (by simp) ?_; clear F M a; intro w a M F
      change Mem w0 G (.blk b20 [.int .u8 (Xe19.kind), .string (str (Xe19.tag)), .string (str (Xe19.key)), .slice (tae19) (Xe19.as.length) (tce19), .string (str (Xe19.text)), .slice (kae19) (Xe19.kids.length) (kce19)] 30 :: _ :: _ :: _ :: L) _ at M
      refine rl_nil <| q_tn ?_
      have hK9 := textsN_le hXe19
      refine w_reg <| rl_run F (run_move (F.ev rfl)) rfl ?_; clear F a; intro a F
      refine rl_run F (run_loadA tok30 rfl (F.ev rfl) (cs := [.int .u8 (Xe19.kind), .string (str (Xe19.tag)), .string (str (Xe19.key)), .slice (tae19) (Xe19.as.length) (tce19), .string (str (Xe19.text)), .slice (kae19) (Xe19.kids.length) (kce19)]) rfl (M.cellsL (k := 0) rfl rfl)) rfl ?_; clear F a; intro a F
      replace M := M.perm (perm_front _ 2 _ rfl)
      replace M := M.perm (perm_front _ 2 _ rfl)
      change Mem w0 G (_ :: _ :: .blk b20 [.int .u8 (Xe19.kind), .string (str (Xe19.tag)), .string (str (Xe19.key)), .slice (tae19) (Xe19.as.length) (tce19), .string (str (Xe19.text)), .slice (kae19) (Xe19.kids.length) (kce19)] 30 :: _ :: L) _ at M
      refine rl_callL F ent77 rfl rfl (ih Xe19 (List.mem_of_getElem? hXe19) d _ _ _ _ _ _ _ _ _ _ _ _ _ _ (hok.2 _ (List.mem_of_getElem? hXe19)) hpk M hnk hnilk hke19 hle19 SAe19 SKe19 (by (try simp only [List.length_append, List.length_cons, List.length_nil]); omega)) ?_; clear F M a; rintro _ _ w a M ⟨rfl, au22, nu22, cu22, rfl, hnu22, hnilu22⟩ F
      refine rl_nil <| q_bn <| q_tn <| w_reg <| rl_run F (run_addi (F.ev rfl) (F.ev rfl) (in_i64 (by omega) (by omega))) rfl ?_; clear F a; intro a F
      refine rl_run F (run_move (F.ev rfl)) rfl ?_; clear F a; intro a F
      refine rl_nil <| q_tn ?_
      have hsn : (((((l ++ (([60] : List UInt8) ++ x.tag)) ++ (([58] : List UInt8) ++ x.key)) ++ attrsT (x.as.take i)) ++ ([62] : List UInt8)) ++ textsN (x.kids.take j)) ++ textN Xe19 = ((((l ++ (([60] : List UInt8) ++ x.tag)) ++ (([58] : List UInt8) ++ x.key)) ++ attrsT (x.as.take i)) ++ ([62] : List UInt8)) ++ textsN (x.kids.take (j + 1)) := by rw [textsN_snoc hXe19]; simp only [List.append_assoc]
      rw [hsn] at M hnu22 hnilu22
      exact ⟨_, by omega, j + 1, (au22), (nu22), (cu22), (.pointer (some ⟨b, 0, none⟩)), rfl, F.to ⟨rfl, rfl, rfl, rfl, rfl, trivial⟩, (M.weaken (.cons_cons _ (.cons_cons _ (.cons _ (.cons_cons _ (List.Sublist.refl _)))))), by omega, (Or.inr rfl), hnu22, hnilu22⟩
     ·intro hc
      have h23b := hc; clear hc
      have h23 : ¬ (((j : Nat) : Int) < ((x.kids.length : Nat) : Int)) := of_decide_eq_false h23b
      refine wp_exit ?_
      iterate 2 (refine q_te ?_)
      refine q_bh <| q_tn ?_
      have hS0 : (textsN (x.kids.take j)).length = (textsN x.kids).length := by rw [textsN_all (by omega)]
      refine w_reg <| rl_run F (run_move (F.ev rfl)) rfl ?_; clear F a; intro a F
      refine rl_run F (run_fieldAddr tok30.k rfl rfl (F.ev rfl)) rfl ?_; clear F a; intro a F
      refine rl_run F (run_load1 (agf tok9 rfl) (F.ev rfl) (M.cellL (k := 2) rfl rfl)) rfl ?_; clear F a; intro a F
      iterate 2 (refine rl_run F (run_strAdd (F.ev rfl) (F.ev rfl) (by ((try simp only [List.length_append, List.length_cons, List.length_nil]); omega))) rfl ?_; clear F a; intro a F)
      replace M := M.perm (perm_front _ 1 _ rfl)
      replace M := M.perm (perm_front _ 1 _ rfl)
      change Mem w0 G (_ :: _ :: _ :: L) _ at M
      refine rl_callL F ent98 rfl rfl (wstr_spec (s := ((([60, 47] : List UInt8) ++ x.tag) ++ ([62] : List UInt8))) hpk M hnk hnilk (by ((try simp only [List.length_append, List.length_cons, List.length_nil]); omega))) ?_; clear F M a; rintro _ _ w a M ⟨rfl, au24, nu24, cu24, rfl, hnu24, hnilu24⟩ F
      refine rl_nil <| fin0n F rfl ?_
      replace M := M.perm (perm_front _ 1 _ rfl)
      replace M := M.perm (perm_front _ 1 _ rfl)
      change Mem w0 G (_ :: _ :: _ :: L) _ at M
      have hsn : (((((l ++ (([60] : List UInt8) ++ x.tag)) ++ (([58] : List UInt8) ++ x.key)) ++ attrsT (x.as.take i)) ++ ([62] : List UInt8)) ++ textsN (x.kids.take j)) ++ ((([60, 47] : List UInt8) ++ x.tag) ++ ([62] : List UInt8)) = l ++ textN x := by first | (rw [textN_words (by omega)]; done) | (rw [textN_leaf (by omega) (by omega), keyT_yes (by assumption), attrsT_all (by omega)]; simp only [List.append_assoc]; done) | (rw [textN_leaf (by omega) (by omega), keyT_no (by assumption), attrsT_all (by omega)]; simp only [List.append_assoc, List.nil_append]; done) | (rw [textN_node (by omega) (by omega), keyT_yes (by assumption), attrsT_all (by omega), textsN_all (by omega)]; simp only [List.append_assoc]; done) | (rw [textN_node (by omega) (by omega), keyT_no (by assumption), attrsT_all (by omega), textsN_all (by omega)]; simp only [List.append_assoc, List.nil_append]; done)
      rw [hsn] at M hnu24 hnilu24
      exact ⟨_, M.weaken (.cons_cons _ (.cons_cons _ (.cons _ (List.Sublist.refl _)))), rfl, _, _, _, rfl, hnu24, hnilu24⟩
  ·intro hc
   have h25b := hc; clear hc
   have h25 : x.key = ([] : List UInt8) := of_decide_eq_true (of_not_f h25b)
   have h25c : (decide (x.key = ([] : List UInt8))) = true := (of_not_f h25b)
   refine wp_skip <| q_tn ?_
   iterate 2 (refine wp_seq ?_)
   refine w_reg <| rl_run F (run_fieldAddr tok30.k rfl rfl (F.ev rfl)) rfl ?_; clear F a; intro a F
   refine rl_run F (run_load1 (agf tok27 rfl) (F.ev rfl) (M.cellL (k := 2) rfl rfl)) rfl ?_; clear F a; intro a F
   refine rl_run F (run_lenSl tok27.k (F.ev rfl)) rfl ?_; clear F a; intro a F
   refine rl_run F (run_move (F.ev rfl)) rfl ?_; clear F a; intro a F
   refine rl_nil <| q_tn <| wp_block ?_
   have hz : l ++ (([60] : List UInt8) ++ x.tag) = (l ++ (([60] : List UInt8) ++ x.tag)) ++ attrsT (x.as.take 0) := by simp [attrsT]
   rw [hz] at M hnu5 hnilu5
   refine w_loopN (fun m a' w' => ∃ (i : Nat), ∃ (am : Option Addr), ∃ (nm : Nat), ∃ (cm : Nat), ∃ (pm : Value), m = x.as.length - i ∧ Fits 72 a' [(0, .pointer (some ⟨b, 0, none⟩)), (3, .pointer (some ⟨b1, 0, none⟩)), (30, .slice (ta) (x.as.length) (tc)), (31, .int .i64 (((x.as.length : Nat) : Int))), (32, .int .i64 (((i : Nat) : Int)))] ∧ Mem w0 G (.blk b [pm, .slice (am) (nm) (cm)] 113 :: .row (.slice (am) (nm) (cm)) (nm) (bc ((l ++ (([60] : List UInt8) ++ x.tag)) ++ attrsT (x.as.take i))) 5 1 :: .blk b1 [.int .u8 (x.kind), .string (str (x.tag)), .string (str (x.key)), .slice (ta) (x.as.length) (tc), .string (str (x.text)), .slice (ka) (x.kids.length) (kc)] 30 :: L) w' ∧ (i ≤ x.as.length) ∧ (pm = .pointer none ∨ pm = .pointer (some ⟨b, 0, none⟩)) ∧ (nm = ((l ++ (([60] : List UInt8) ++ x.tag)) ++ attrsT (x.as.take i)).length) ∧ (((l ++ (([60] : List UInt8) ++ x.tag)) ++ attrsT (x.as.take i)) = [] → am = none)) _ ⟨0, (au5), (nu5), (cu5), (.pointer (some ⟨b, 0, none⟩)), rfl, F.to ⟨rfl, rfl, rfl, rfl, rfl, trivial⟩, M, Nat.zero_le _, (Or.inr rfl), hnu5, hnilu5⟩ ?_
   clear F M
   rintro m a w ⟨i, am, nm, cm, pm, rfl, F, M, hi, hpm, hnm, hnilm⟩
   refine wp_seq <| w_reg <| rl_run F (run_lss (F.ev rfl) (F.ev rfl)) rfl ?_; clear F a; intro a F
   refine rl_nil <| q_tn <| wp_seq <| w_cond F rfl ?_ ?_
   ·intro hc
    have h26b := hc; clear hc
    have h26 : ((i : Nat) : Int) < ((x.as.length : Nat) : Int) := of_decide_eq_true h26b
    refine wp_skip <| q_tn <| wp_seq <| wp_block <| wp_seq <| w_reg ?_
    obtain ⟨Xe27, hXe27⟩ := get_of_lt (xs := x.as) (i := i) (by omega)
    obtain ⟨be27, oe27, _, Ie27, _, Ae27, ⟨rfl, hn1e27, hv1e27⟩⟩ := SA.at hXe27
    refine rl_run F (run_indexI tok27.k tok87 (F.ev rfl) (F.ev rfl) (by omega) Ie27) rfl ?_; clear F a; intro a F
    refine rl_run F (run_loadA tok87 rfl (F.ev rfl) (cs := [.string (str (Xe27.n)), .string (str (Xe27.v))]) rfl (M.cellsA Ae27 0 (by omega) rfl)) rfl ?_; clear F a; intro a F
    refine rl_alloc F M tok87 rfl rfl ?_; clear F M a; intro b28 w a M F
    refine rl_storeA F M tok87 (k := 0) rfl rfl rfl (us := [.string (str (Xe27.n)), .string (str (Xe27.v))]) rfl rfl (by simp [Value.oneCell']) (by simp) ?_; clear F M a; intro w a M F
    change Mem w0 G (.blk b28 [.string (str (Xe27.n)), .string (str (Xe27.v))] 87 :: _ :: _ :: _ :: L) _ at M
    refine rl_nil <| q_tn ?_
    have hA9 := attrsT_le hXe27
    refine w_plan [(true, 0), (true, 1), (true, 2), (true, 3), (true, 4), (true, 5), (true, 6), (false, 7), (true, 8), (false, 9)] (Keep G [.blk b28 [.string (str (Xe27.n)), .string (str (Xe27.v))] 87, .blk b1 [.int .u8 (x.kind), .string (str (x.tag)), .string (str (x.key)), .slice (ta) (x.as.length) (tc), .string (str (x.text)), .slice (ka) (x.kids.length) (kc)] 30]) rfl (by kernel_rfl) (fun c a d v w h => by cases d <;> exact h) ((M.drew _).keep (Gle.refl _) (by simp)) ?_
    replace M := M.drew (w.drawn + 1)
    refine pl_run F (fun w M => run_move (F.ev rfl)) rfl ?_; clear F a; intro a F
    refine pl_run F (fun w M => run_fieldAddr tok87.k rfl rfl (F.ev rfl)) rfl ?_; clear F a; intro a F
    refine pl_run F (fun w M => run_load1 (agf tok9 rfl) (F.ev rfl) (M.cellL (k := 0) rfl rfl)) rfl ?_; clear F a; intro a F
    iterate 2 (refine pl_run F (fun w M => run_strAdd (F.ev rfl) (F.ev rfl) (by ((try simp only [List.length_append, List.length_cons, List.length_nil]); omega))) rfl ?_; clear F a; intro a F)
    refine pl_run F (fun w M => run_fieldAddr tok87.k rfl rfl (F.ev rfl)) rfl ?_; clear F a; intro a F
    refine pl_run F (fun w M => run_load1 (agf tok9 rfl) (F.ev rfl) (M.cellL (k := 0) rfl rfl)) rfl ?_; clear F a; intro a F
    refine pl_act ?_ rfl
    refine rl_callS F ent99 rfl rfl (quotedF_spec (s := Xe27.v) M (hok.1.2 _ (List.mem_of_getElem? hXe27))) ?_; clear F M a; rintro _ w a M rfl F
    refine rl_nil <| ⟨Keep G [.blk b28 [.string (str (Xe27.n)), .string (str (Xe27.v))] 87, .blk b1 [.int .u8 (x.kind), .string (str (x.tag)), .string (str (x.key)), .slice (ta) (x.as.length) (tc), .string (str (x.text)), .slice (ka) (x.kids.length) (kc)] 30], M.keep (Gle.refl _) (by simp), fun w h => h.mono (Gle.refl _) (by simp), ?_⟩
    refine pl_run F (fun w M => run_strAdd (F.ev rfl) (F.ev rfl) (by ((try simp only [List.length_append, List.length_cons, List.length_nil]); omega))) rfl ?_; clear F a; intro a F
    refine pl_act ?_ rfl
    replace M := M.perm (perm_front _ 2 _ rfl)
    replace M := M.perm (perm_front _ 2 _ rfl)
    change Mem w0 G (_ :: _ :: .blk b28 [.string (str (Xe27.n)), .string (str (Xe27.v))] 87 :: _ :: L) _ at M
    refine rl_callL F ent98 rfl rfl (wstr_spec (s := (((([32] : List UInt8) ++ Xe27.n) ++ ([61] : List UInt8)) ++ (quoteF Xe27.v))) hpm M hnm hnilm (by ((try simp only [List.length_append, List.length_cons, List.length_nil]); omega))) ?_; clear F M a; rintro _ _ w a M ⟨rfl, au30, nu30, cu30, rfl, hnu30, hnilu30⟩ F
    refine rl_nil <| ⟨Keep G [.blk b28 [.string (str (Xe27.n)), .string (str (Xe27.v))] 87, .blk b1 [.int .u8 (x.kind), .string (str (x.tag)), .string (str (x.key)), .slice (ta) (x.as.length) (tc), .string (str (x.text)), .slice (ka) (x.kids.length) (kc)] 30], M.keep (Gle.refl _) (by simp), fun w h => h.mono (Gle.refl _) (by simp), ?_⟩
    refine pl_nil <| q_bn <| q_tn <| w_reg <| rl_run F (run_addi (F.ev rfl) (F.ev rfl) (in_i64 (by omega) (by omega))) rfl ?_; clear F a; intro a F
    refine rl_run F (run_move (F.ev rfl)) rfl ?_; clear F a; intro a F
    refine rl_nil <| q_tn ?_
    have hsn : ((l ++ (([60] : List UInt8) ++ x.tag)) ++ attrsT (x.as.take i)) ++ (((([32] : List UInt8) ++ Xe27.n) ++ ([61] : List UInt8)) ++ (quoteF Xe27.v)) = (l ++ (([60] : List UInt8) ++ x.tag)) ++ attrsT (x.as.take (i + 1)) := by rw [attrsT_snoc hXe27, attrT]; simp only [List.append_assoc]
    rw [hsn] at M hnu30 hnilu30
    exact ⟨_, by omega, i + 1, (au30), (nu30), (cu30), (.pointer (some ⟨b, 0, none⟩)), rfl, F.to ⟨rfl, rfl, rfl, rfl, rfl, trivial⟩, (M.weaken (.cons_cons _ (.cons_cons _ (.cons _ (.cons_cons _ (List.Sublist.refl _)))))), by omega, (Or.inr rfl), hnu30, hnilu30⟩
   ·intro hc
    have h31b := hc; clear hc
    have h31 : ¬ (((i : Nat) : Int) < ((x.as.length : Nat) : Int)) := of_decide_eq_false h31b
    refine wp_exit ?_
    iterate 2 (refine q_te ?_)
    refine q_bh <| q_tn ?_
    iterate 2 (refine wp_seq ?_)
    have hA0 : (attrsT (x.as.take i)).length = (attrsT x.as).length := by rw [attrsT_all (by omega)]
    refine w_reg <| rl_run F (run_fieldAddr tok30.k rfl rfl (F.ev rfl)) rfl ?_; clear F a; intro a F
    refine rl_run F (run_load1 (agf tok28 rfl) (F.ev rfl) (M.cellL (k := 2) rfl rfl)) rfl ?_; clear F a; intro a F
    refine rl_run F (run_lenSl tok28.k (F.ev rfl)) rfl ?_; clear F a; intro a F
    refine rl_run F (run_eqi (F.ev rfl) (F.ev rfl)) rfl ?_; clear F a; intro a F
    refine rl_nil <| q_tn <| w_cond F rfl ?_ ?_
    ·intro hc
     have h32b := hc; clear hc
     have h32 : ((x.kids.length : Nat) : Int) = 0 := of_decide_eq_true h32b
     refine wp_seq ?_
     rw [if_pos (by omega)] at hT2
     refine w_reg <| rl_run F (run_move (F.ev rfl)) rfl ?_; clear F a; intro a F
     replace M := M.perm (perm_front _ 1 _ rfl)
     replace M := M.perm (perm_front _ 1 _ rfl)
     change Mem w0 G (_ :: _ :: _ :: L) _ at M
     refine rl_callL F ent98 rfl rfl (wstr_spec (s := ([47, 62] : List UInt8)) hpm M hnm hnilm (by ((try simp only [List.length_append, List.length_cons, List.length_nil]); omega))) ?_; clear F M a; rintro _ _ w a M ⟨rfl, au33, nu33, cu33, rfl, hnu33, hnilu33⟩ F
     refine rl_nil <| q_tn <| wp_ret <| q_tr <| fin0 F rfl ?_
     replace M := M.perm (perm_front _ 1 _ rfl)
     replace M := M.perm (perm_front _ 1 _ rfl)
     change Mem w0 G (_ :: _ :: _ :: L) _ at M
     have hsn : ((l ++ (([60] : List UInt8) ++ x.tag)) ++ attrsT (x.as.take i)) ++ ([47, 62] : List UInt8) = l ++ textN x := by first | (rw [textN_words (by omega)]; done) | (rw [textN_leaf (by omega) (by omega), keyT_yes (by assumption), attrsT_all (by omega)]; simp only [List.append_assoc]; done) | (rw [textN_leaf (by omega) (by omega), keyT_no (by assumption), attrsT_all (by omega)]; simp only [List.append_assoc, List.nil_append]; done) | (rw [textN_node (by omega) (by omega), keyT_yes (by assumption), attrsT_all (by omega), textsN_all (by omega)]; simp only [List.append_assoc]; done) | (rw [textN_node (by omega) (by omega), keyT_no (by assumption), attrsT_all (by omega), textsN_all (by omega)]; simp only [List.append_assoc, List.nil_append]; done)
     rw [hsn] at M hnu33 hnilu33
     exact ⟨_, M.weaken (.cons_cons _ (.cons_cons _ (.cons _ (List.Sublist.refl _)))), rfl, _, _, _, rfl, hnu33, hnilu33⟩
    ·intro hc
     have h34b := hc; clear hc
     have h34 : ¬ (((x.kids.length : Nat) : Int) = 0) := of_decide_eq_false h34b
     refine wp_skip <| q_tn <| wp_seq ?_
     rw [if_neg (by omega)] at hT2
     refine w_reg <| rl_run F (run_move (F.ev rfl)) rfl ?_; clear F a; intro a F
     replace M := M.perm (perm_front _ 1 _ rfl)
     replace M := M.perm (perm_front _ 1 _ rfl)
     change Mem w0 G (_ :: _ :: _ :: L) _ at M
     refine rl_callL F ent98 rfl rfl (wstr_spec (s := ([62] : List UInt8)) hpm M hnm hnilm (by ((try simp only [List.length_append, List.length_cons, List.length_nil]); omega))) ?_; clear F M a; rintro _ _ w a M ⟨rfl, au35, nu35, cu35, rfl, hnu35, hnilu35⟩ F
     refine rl_nil <| q_tn ?_
     iterate 2 (refine wp_seq ?_)
     refine w_reg <| rl_run F (run_fieldAddr tok30.k rfl rfl (F.ev rfl)) rfl ?_; clear F a; intro a F
     refine rl_run F (run_load1 (agf tok28 rfl) (F.ev rfl) (M.cellL (k := 2) rfl rfl)) rfl ?_; clear F a; intro a F
     refine rl_run F (run_lenSl tok28.k (F.ev rfl)) rfl ?_; clear F a; intro a F
     refine rl_run F (run_move (F.ev rfl)) rfl ?_; clear F a; intro a F
     refine rl_nil <| q_tn <| wp_block ?_
     have hz2 : ((l ++ (([60] : List UInt8) ++ x.tag)) ++ attrsT (x.as.take i)) ++ ([62] : List UInt8) = (((l ++ (([60] : List UInt8) ++ x.tag)) ++ attrsT (x.as.take i)) ++ ([62] : List UInt8)) ++ textsN (x.kids.take 0) := by simp [textsN]
     rw [hz2] at M hnu35 hnilu35
     refine w_loopN (fun m a' w' => ∃ (j : Nat), ∃ (ak : Option Addr), ∃ (nk : Nat), ∃ (ck : Nat), ∃ (pk : Value), m = x.kids.length - j ∧ Fits 72 a' [(0, .pointer (some ⟨b, 0, none⟩)), (3, .pointer (some ⟨b1, 0, none⟩)), (56, .slice (ka) (x.kids.length) (kc)), (57, .int .i64 (((x.kids.length : Nat) : Int))), (58, .int .i64 (((j : Nat) : Int)))] ∧ Mem w0 G (.blk b [pk, .slice (ak) (nk) (ck)] 113 :: .row (.slice (ak) (nk) (ck)) (nk) (bc ((((l ++ (([60] : List UInt8) ++ x.tag)) ++ attrsT (x.as.take i)) ++ ([62] : List UInt8)) ++ textsN (x.kids.take j))) 5 1 :: .blk b1 [.int .u8 (x.kind), .string (str (x.tag)), .string (str (x.key)), .slice (ta) (x.as.length) (tc), .string (str (x.text)), .slice (ka) (x.kids.length) (kc)] 30 :: L) w' ∧ (j ≤ x.kids.length) ∧ (pk = .pointer none ∨ pk = .pointer (some ⟨b, 0, none⟩)) ∧ (nk = ((((l ++ (([60] : List UInt8) ++ x.tag)) ++ attrsT (x.as.take i)) ++ ([62] : List UInt8)) ++ textsN (x.kids.take j)).length) ∧ (((((l ++ (([60] : List UInt8) ++ x.tag)) ++ attrsT (x.as.take i)) ++ ([62] : List UInt8)) ++ textsN (x.kids.take j)) = [] → ak = none)) _ ⟨0, (au35), (nu35), (cu35), (.pointer (some ⟨b, 0, none⟩)), rfl, F.to ⟨rfl, rfl, rfl, rfl, rfl, trivial⟩, M, Nat.zero_le _, (Or.inr rfl), hnu35, hnilu35⟩ ?_
     clear F M
     rintro m a w ⟨j, ak, nk, ck, pk, rfl, F, M, hj, hpk, hnk, hnilk⟩
     refine wp_seq <| w_reg <| rl_run F (run_lss (F.ev rfl) (F.ev rfl)) rfl ?_; clear F a; intro a F
     refine rl_nil <| q_tn <| wp_seq <| w_cond F rfl ?_ ?_
     ·intro hc
      have h36b := hc; clear hc
      have h36 : ((j : Nat) : Int) < ((x.kids.length : Nat) : Int) := of_decide_eq_true h36b
      refine wp_skip <| q_tn <| wp_seq <| wp_block <| wp_seq <| w_reg ?_
      obtain ⟨Xe37, hXe37⟩ := get_of_lt (xs := x.kids) (i := j) (by omega)
      obtain ⟨be37, oe37, _, Ie37, _, Ae37, hTe37⟩ := SK.at hXe37
      obtain ⟨tae37, tce37, kae37, kce37, rfl, hke37, hle37, SAe37, SKe37⟩ := rdT_open hTe37
      refine rl_run F (run_indexI tok28.k tok30 (F.ev rfl) (F.ev rfl) (by omega) Ie37) rfl ?_; clear F a; intro a F
      refine rl_run F (run_loadA tok30 rfl (F.ev rfl) (cs := [.int .u8 (Xe37.kind), .string (str (Xe37.tag)), .string (str (Xe37.key)), .slice (tae37) (Xe37.as.length) (tce37), .string (str (Xe37.text)), .slice (kae37) (Xe37.kids.length) (kce37)]) rfl (M.cellsA Ae37 0 (by omega) rfl)) rfl ?_; clear F a; intro a F
      refine rl_alloc F M tok30 rfl rfl ?_; clear F M a; intro b38 w a M F
      refine rl_storeA F M tok30 (k := 0) rfl rfl rfl (us := [.int .u8 (Xe37.kind), .string (str (Xe37.tag)), .string (str (Xe37.key)), .slice (tae37) (Xe37.as.length) (tce37), .string (str (Xe37.text)), .slice (kae37) (Xe37.kids.length) (kce37)]) rfl rfl (by simp [Value.oneCell']) (by simp) ?_; clear F M a; intro w a M F
      change Mem w0 G (.blk b38 [.int .u8 (Xe37.kind), .string (str (Xe37.tag)), .string (str (Xe37.key)), .slice (tae37) (Xe37.as.length) (tce37), .string (str (Xe37.text)), .slice (kae37) (Xe37.kids.length) (kce37)] 30 :: _ :: _ :: _ :: L) _ at M
      refine rl_nil <| q_tn ?_
      have hK9 := textsN_le hXe37
      refine w_reg <| rl_run F (run_move (F.ev rfl)) rfl ?_; clear F a; intro a F
      refine rl_run F (run_loadA tok30 rfl (F.ev rfl) (cs := [.int .u8 (Xe37.kind), .string (str (Xe37.tag)), .string (str (Xe37.key)), .slice (tae37) (Xe37.as.length) (tce37), .string (str (Xe37.text)), .slice (kae37) (Xe37.kids.length) (kce37)]) rfl (M.cellsL (k := 0) rfl rfl)) rfl ?_; clear F a; intro a F
      replace M := M.perm (perm_front _ 2 _ rfl)
      replace M := M.perm (perm_front _ 2 _ rfl)
      change Mem w0 G (_ :: _ :: .blk b38 [.int .u8 (Xe37.kind), .string (str (Xe37.tag)), .string (str (Xe37.key)), .slice (tae37) (Xe37.as.length) (tce37), .string (str (Xe37.text)), .slice (kae37) (Xe37.kids.length) (kce37)] 30 :: _ :: L) _ at M
      refine rl_callL F ent77 rfl rfl (ih Xe37 (List.mem_of_getElem? hXe37) d _ _ _ _ _ _ _ _ _ _ _ _ _ _ (hok.2 _ (List.mem_of_getElem? hXe37)) hpk M hnk hnilk hke37 hle37 SAe37 SKe37 (by (try simp only [List.length_append, List.length_cons, List.length_nil]); omega)) ?_; clear F M a; rintro _ _ w a M ⟨rfl, au40, nu40, cu40, rfl, hnu40, hnilu40⟩ F
      refine rl_nil <| q_bn <| q_tn <| w_reg <| rl_run F (run_addi (F.ev rfl) (F.ev rfl) (in_i64 (by omega) (by omega))) rfl ?_; clear F a; intro a F
      refine rl_run F (run_move (F.ev rfl)) rfl ?_; clear F a; intro a F
      refine rl_nil <| q_tn ?_
      have hsn : ((((l ++ (([60] : List UInt8) ++ x.tag)) ++ attrsT (x.as.take i)) ++ ([62] : List UInt8)) ++ textsN (x.kids.take j)) ++ textN Xe37 = (((l ++ (([60] : List UInt8) ++ x.tag)) ++ attrsT (x.as.take i)) ++ ([62] : List UInt8)) ++ textsN (x.kids.take (j + 1)) := by rw [textsN_snoc hXe37]; simp only [List.append_assoc]
      rw [hsn] at M hnu40 hnilu40
      exact ⟨_, by omega, j + 1, (au40), (nu40), (cu40), (.pointer (some ⟨b, 0, none⟩)), rfl, F.to ⟨rfl, rfl, rfl, rfl, rfl, trivial⟩, (M.weaken (.cons_cons _ (.cons_cons _ (.cons _ (.cons_cons _ (List.Sublist.refl _)))))), by omega, (Or.inr rfl), hnu40, hnilu40⟩
     ·intro hc
      have h41b := hc; clear hc
      have h41 : ¬ (((j : Nat) : Int) < ((x.kids.length : Nat) : Int)) := of_decide_eq_false h41b
      refine wp_exit ?_
      iterate 2 (refine q_te ?_)
      refine q_bh <| q_tn ?_
      have hS0 : (textsN (x.kids.take j)).length = (textsN x.kids).length := by rw [textsN_all (by omega)]
      refine w_reg <| rl_run F (run_move (F.ev rfl)) rfl ?_; clear F a; intro a F
      refine rl_run F (run_fieldAddr tok30.k rfl rfl (F.ev rfl)) rfl ?_; clear F a; intro a F
      refine rl_run F (run_load1 (agf tok9 rfl) (F.ev rfl) (M.cellL (k := 2) rfl rfl)) rfl ?_; clear F a; intro a F
      iterate 2 (refine rl_run F (run_strAdd (F.ev rfl) (F.ev rfl) (by ((try simp only [List.length_append, List.length_cons, List.length_nil]); omega))) rfl ?_; clear F a; intro a F)
      replace M := M.perm (perm_front _ 1 _ rfl)
      replace M := M.perm (perm_front _ 1 _ rfl)
      change Mem w0 G (_ :: _ :: _ :: L) _ at M
      refine rl_callL F ent98 rfl rfl (wstr_spec (s := ((([60, 47] : List UInt8) ++ x.tag) ++ ([62] : List UInt8))) hpk M hnk hnilk (by ((try simp only [List.length_append, List.length_cons, List.length_nil]); omega))) ?_; clear F M a; rintro _ _ w a M ⟨rfl, au42, nu42, cu42, rfl, hnu42, hnilu42⟩ F
      refine rl_nil <| fin0n F rfl ?_
      replace M := M.perm (perm_front _ 1 _ rfl)
      replace M := M.perm (perm_front _ 1 _ rfl)
      change Mem w0 G (_ :: _ :: _ :: L) _ at M
      have hsn : ((((l ++ (([60] : List UInt8) ++ x.tag)) ++ attrsT (x.as.take i)) ++ ([62] : List UInt8)) ++ textsN (x.kids.take j)) ++ ((([60, 47] : List UInt8) ++ x.tag) ++ ([62] : List UInt8)) = l ++ textN x := by first | (rw [textN_words (by omega)]; done) | (rw [textN_leaf (by omega) (by omega), keyT_yes (by assumption), attrsT_all (by omega)]; simp only [List.append_assoc]; done) | (rw [textN_leaf (by omega) (by omega), keyT_no (by assumption), attrsT_all (by omega)]; simp only [List.append_assoc, List.nil_append]; done) | (rw [textN_node (by omega) (by omega), keyT_yes (by assumption), attrsT_all (by omega), textsN_all (by omega)]; simp only [List.append_assoc]; done) | (rw [textN_node (by omega) (by omega), keyT_no (by assumption), attrsT_all (by omega), textsN_all (by omega)]; simp only [List.append_assoc, List.nil_append]; done)
      rw [hsn] at M hnu42 hnilu42
      exact ⟨_, M.weaken (.cons_cons _ (.cons_cons _ (.cons _ (List.Sublist.refl _)))), rfl, _, _, _, rfl, hnu42, hnilu42⟩
theorem writeF_all (x : NT) : WrF x := by
 induction x using Tr.ind with
 | _ x ih =>
  intro d w0 w G L b n c ad l p ta ka tc kc hok hp M hn hnil hk hl SA SK hT
  cases d with
  | zero => exact hok.elim
  | succ d => exact writeF_step ih hok hp M hn hnil hk hl SA SK hT
theorem ntextF_spec {w0 w : World} {G : Ghost} {L : List Res} (M : Mem w0 G L w) {x : NT} {ta : Option Addr} {tc : Nat} {ka : Option Addr} {kc : Nat} (hk : inKind .u8 x.kind) (hl : (x.tag.length ≤ 9223372036854775807 ∧ x.key.length ≤ 9223372036854775807 ∧ x.text.length ≤ 9223372036854775807)) (SA : RdSl rdAttr 2 G (.slice ta x.as.length tc) x.as) (SK : RdSl rdN 6 G (.slice ka x.kids.length kc) x.kids) :
  Calls Tryz.prog 38 #[.agg #[.int .u8 (x.kind), .string (str (x.tag)), .string (str (x.key)), .slice (ta) (x.as.length) (tc), .string (str (x.text)), .slice (ka) (x.kids.length) (kc)]] w (RetS w0 G L fun v => v = .tuple #[.string (str (if chkF x = 0 then textN x else [])), .int .i64 (chkF x)]) := by
 refine calls_start (vs := [_]) Tryz.func38 rfl (n := 14) rfl rfl ?_
 intro a F
 refine wp_seq <| w_reg <| rl_box F M rfl (cs := [.int .u8 (x.kind), .string (str (x.tag)), .string (str (x.key)), .slice (ta) (x.as.length) (tc), .string (str (x.text)), .slice (ka) (x.kids.length) (kc)]) rfl rfl ?_; clear F M a; intro b1 w a M F
 iterate 2 (refine rl_run F (run_assign (F.ev rfl)) rfl ?_; clear F a; intro a F)
 refine rl_nil <| q_tn ?_
 iterate 2 (refine wp_seq ?_)
 refine w_reg <| rl_run F (run_loadA tok30 rfl (F.ev rfl) (cs := [.int .u8 (x.kind), .string (str (x.tag)), .string (str (x.key)), .slice (ta) (x.as.length) (tc), .string (str (x.text)), .slice (ka) (x.kids.length) (kc)]) rfl (M.cellsL (k := 0) rfl rfl)) rfl ?_; clear F a; intro a F
 refine rl_callS F ent30 rfl rfl (ncheck_spec (x := x) M hk hl SA SK) ?_; clear F M a; rintro _ w a M rfl F
 refine rl_run F (run_assign (F.ev rfl)) rfl ?_; clear F a; intro a F
 refine rl_nil <| q_tn <| wp_seq <| w_reg <| rl_run F (run_move (F.ev rfl)) rfl ?_; clear F a; intro a F
 refine rl_run F (run_nei (F.ev rfl) (F.ev rfl)) rfl ?_; clear F a; intro a F
 refine rl_nil <| q_tn <| w_cond F rfl ?_ ?_
 ·intro hc
  have h2b := hc; clear hc
  have h2 : ¬ (chkF x = 0) := of_decide_eq_false (of_not_t h2b)
  have h2c : (decide (chkF x = 0)) = false := (of_not_t h2b)
  refine wp_seq <| w_reg <| rl_run F (run_move (F.ev rfl)) rfl ?_; clear F a; intro a F
  iterate 2 (refine rl_run F (run_assign (F.ev rfl)) rfl ?_; clear F a; intro a F)
  refine rl_nil <| q_tn <| wp_ret <| q_tr <| fin2 F rfl rfl rfl ?_
  exact ⟨(M.weaken (.cons _ (List.Sublist.refl _))), by rw [if_neg (by omega)]; rfl⟩
 ·intro hc
  have h3b := hc; clear hc
  have h3 : chkF x = 0 := of_decide_eq_true (of_not_f h3b)
  have h3c : (decide (chkF x = 0)) = true := (of_not_f h3b)
  refine wp_skip <| q_tn <| wp_seq <| w_reg <| rl_alloc F M tok113 rfl rfl ?_; clear F M a; intro b4 w a M F
  refine rl_nil <| q_tn <| wp_seq ?_
  have hV : Valid x := chkF_zero.1 (by omega)
  change Mem w0 G (_ :: _ :: L) _ at M
  have M := (M.nilrow 5 1).perm (List.Perm.swap _ _ _)
  rw [show ([] : List Value) = bc [] from rfl] at M
  refine w_reg <| rl_run F (run_loadA tok30 rfl (F.ev rfl) (cs := [.int .u8 (x.kind), .string (str (x.tag)), .string (str (x.key)), .slice (ta) (x.as.length) (tc), .string (str (x.text)), .slice (ka) (x.kids.length) (kc)]) rfl (M.cellsL (k := 2) rfl rfl)) rfl ?_; clear F a; intro a F
  replace M := M.perm (perm_front _ 1 _ rfl)
  replace M := M.perm (perm_front _ 1 _ rfl)
  change Mem w0 G (_ :: _ :: _ :: L) _ at M
  refine rl_callL F ent77 rfl rfl (writeF_all x 6 _ _ _ _ _ _ _ _ _ _ _ _ _ _ (ok_lim hV.1) (Or.inl rfl) M rfl (fun _ => rfl) hk hl SA SK (by simpa using valid_len hV)) ?_; clear F M a; rintro _ _ w a M ⟨rfl, au6, nu6, cu6, rfl, hnu6, hnilu6⟩ F
  refine rl_nil <| q_tn <| wp_seq <| w_reg ?_
  replace M := M.perm (perm_front _ 1 _ rfl)
  replace M := M.perm (perm_front _ 1 _ rfl)
  change Mem w0 G (_ :: _ :: _ :: L) _ at M
  refine rl_callS F ent78 rfl rfl (bstr_spec M hnu6 hnilu6) ?_; clear F M a; rintro _ w a M rfl F
  iterate 2 (refine rl_run F (run_assign (F.ev rfl)) rfl ?_; clear F a; intro a F)
  refine rl_nil <| q_tn <| wp_ret <| fin2 F rfl rfl rfl ?_
  have hz : chkF x = 0 := by omega
  exact ⟨(M.weaken (.cons _ (List.Sublist.refl _))), by rw [if_pos hz, hz]; rfl⟩
theorem ntextF_at {w0 w : World} {G : Ghost} {L : List Res} (M : Mem w0 G L w) {x : NT} {ta : Option Addr} {tc : Nat} {ka : Option Addr} {kc : Nat} (hk : inKind .u8 x.kind) (hl : (x.tag.length ≤ 9223372036854775807 ∧ x.key.length ≤ 9223372036854775807 ∧ x.text.length ≤ 9223372036854775807)) (SA : RdSl rdAttr 2 G (.slice ta x.as.length tc) x.as) (SK : RdSl rdN 6 G (.slice ka x.kids.length kc) x.kids) {y : List UInt8} {e : Int} (h : chkF x = e ∧ (if chkF x = 0 then textN x else []) = y) : Calls Tryz.prog 38 #[.agg #[.int .u8 (x.kind), .string (str (x.tag)), .string (str (x.key)), .slice (ta) (x.as.length) (tc), .string (str (x.text)), .slice (ka) (x.kids.length) (kc)]] w (RetS w0 G L fun v => v = .tuple #[.string (str y), .int .i64 e]) := by
 obtain ⟨rfl, rfl⟩ := h; exact ntextF_spec M hk hl SA SK
end Go.Proofs.YtlnehkjmmegkhaaGreat
