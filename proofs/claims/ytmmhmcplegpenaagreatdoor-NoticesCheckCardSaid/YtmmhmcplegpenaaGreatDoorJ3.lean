/- The walks, part TH. · The walks, part TI. · The walks, part TJ. · The walks, part TK. · The walks, part TL. · The walks, part TM. · Items: names, texts, the item as it is read; which items are valid. · Lists: rules, entries, what is valid, totals, the errors. -/
import Derived.Test.YtmmhmcplegpenaaGreatDoorJ2
import Derived.Test.YtmmhmcplegpenaaGreatDoorYC
import Derived.Laws.RangeAny
import Derived.Laws.RangeString
import Derived.Shelf.GgClosure.StringsIndexFunc
namespace Go.Proofs.YtmmhmcplegpenaaGreatDoor.T
open Go Go.Y Go.Proofs
set_option linter.unusedSimpArgs false
set_option linter.unusedVariables false
theorem ci1_spec {w0 w:World} {G:Ghost} {L:List Res} (M:Mem w0 G L w) {s:List UInt8} (hs:s.length≤9223372036854775807):Calls Tryz.prog 215 #[.string (str s)] w (RetS w0 G L fun v=>∃ b:Bool,v=.bool b∧(b=true↔¬ Name s)):=by
 refine e_start (vs:=[_]) Tryz.func215 rfl (n:=6) rfl rfl<|e_seq<|e_reg<|s_as rfl<|e_nil<|e_tn<|e_seq<|e_reg<|s_mv rfl<|s_cS ent216 rfl rfl (tnamed_spec (s:=s) M (by assumption))<|?_;clear M;rintro _ w M ⟨b1,rfl,hb1⟩
 refine s_not rfl<|s_as rfl<|e_nil<|e_tn<|e_ret<|e_fin1 rfl rfl<|?_
 exact ⟨M,(!(b1)),rfl,(by clear M;grind)⟩
theorem idxs_spec {w0 w:World} {G:Ghost} {L:List Res} (M:Mem w0 G L w) {ad:Option Addr} {cd:Nat} {xs:List (List UInt8)} (S:RdSl rdStr 1 G (.slice ad xs.length cd) xs):Calls Tryz.prog 104 #[.slice ad xs.length cd,.func (.func 215) #[] #[]] w (RetS w0 G L fun v=>∃ z:Int,v=.int .i64 z∧(0≤z↔¬ ∀ s∈xs,Name s)):=by
 have bS:=S.bound
 refine e_start (vs:=[_,_]) Tryz.func104 rfl (n:=19) rfl rfl<|e_seq<|e_reg<|s_as rfl<|e_nil<|e_tn<|e_seq<|e_seq<|e_reg<|s_mv rfl<|s_ls tok24.k rfl<|s_mv rfl<|e_nil<|e_tn<|e_block<|fun a F=>w_loopN (fun m a' w'=>∃ (i:Nat),m=xs.length - i∧Fits 19 a' [(0,.slice (ad) (xs.length) (cd)),(1,.func (.func 215) #[] #[]),(7,.int .i64 (((xs.length:Nat):Int))),(8,.int .i64 (((i:Nat):Int)))]∧Mem w0 G (L) w'∧(i≤xs.length)∧(∀ (m:Nat) (s:List UInt8),m < i→xs[m]?=some s→Name s)) _ ⟨0,rfl,F.to ⟨rfl,rfl,rfl,rfl,trivial⟩,M,Nat.zero_le _,fun m d h=>by omega⟩ ?_
 clear F M
 rintro m a w ⟨i,rfl,F,M,hi,hA⟩
 revert a
 refine e_seq<|e_reg<|s_lt rfl rfl<|e_nil<|e_tn<|e_seq<|e_cond rfl ?_ ?_
 ·intro hc
  have h1b:=hc;clear hc
  have h1:((i:Nat):Int) < ((xs.length:Nat):Int):=of_decide_eq_true h1b
  refine e_skip<|e_tn<|e_seq<|e_block<|e_seq<|e_reg<|s_mv rfl<|s_as rfl<|e_nil<|e_tn<|e_seq<|e_reg<|s_mv rfl<|s_mv rfl<|s_mv rfl<|?_
  obtain ⟨Xe2,hXe2⟩:=get_of_lt (xs:=xs) (i:=i) (by omega)
  obtain ⟨be2,oe2,_,Ie2,_,Ae2,⟨rfl,hsle2⟩⟩:=S.at hXe2
  refine s_ix tok24.k tok9 Ie2 rfl rfl<|s_la tok9 M Ae2 0 rfl rfl (by omega) rfl<|s_vS ent215 (caps:=[]) rfl rfl rfl (ci1_spec (s:=Xe2) M (by omega))<|?_;clear M;rintro _ w M ⟨b3,rfl,hb3⟩
  refine e_nil<|e_tn<|e_cond rfl ?_ ?_
  ·intro hc
   have h4b:=hc;clear hc
   have h4:(b3)=true:=h4b
   refine e_seq<|e_reg<|s_mv rfl<|s_as rfl<|e_nil<|e_tn<|e_ret<|e_br<|e_tr<|e_tr<|e_br<|e_tr<|e_fin1 rfl rfl<|?_
   exact ⟨M,_,rfl,⟨fun _ h_=>(hb3.1 (by assumption)) (h_ _ (List.mem_of_getElem? hXe2)),fun _=>by omega⟩⟩
  ·intro hc
   have h5b:=hc;clear hc
   have h5:(b3)=false:=h5b
   refine e_skip<|e_bn<|e_tn<|e_reg<|s_add rfl rfl<|s_mv rfl<|e_nil<|e_tn<|fun a F=>?_
   exact ⟨_,by omega,i+1,rfl,F.to ⟨rfl,rfl,rfl,rfl,trivial⟩,M,by omega,none_snoc hA hXe2 (by clear F M;grind)⟩
 ·intro hc
  have h6b:=hc;clear hc
  have h6:¬ (((i:Nat):Int) < ((xs.length:Nat):Int)):=of_decide_eq_false h6b
  refine e_exit<|e_te<|e_te<|e_bh<|e_tn<|e_seq<|e_reg<|s_as rfl<|e_nil<|e_tn<|e_ret<|e_fin1 rfl rfl<|?_
  exact ⟨M,_,rfl,⟨fun h=>by omega,fun h=>absurd (marks_all hA (by omega)) h⟩⟩
theorem conts_spec {w0 w:World} {G:Ghost} {L:List Res} (M:Mem w0 G L w) {ad:Option Addr} {cd:Nat} {xs:List (List UInt8)} (S:RdSl rdStr 1 G (.slice ad xs.length cd) xs):Calls Tryz.prog 51 #[.slice ad xs.length cd,.func (.func 215) #[] #[]] w (RetS w0 G L fun v=>∃ b:Bool,v=.bool b∧(b=true↔¬ ∀ s∈xs,Name s)):=by
 refine e_start (vs:=[_,_]) Tryz.func51 rfl (n:=9) rfl rfl<|e_seq<|e_reg<|s_as rfl<|e_nil<|e_tn<|e_seq<|e_reg<|s_mv rfl<|s_mv rfl<|s_cS ent104 rfl rfl (idxs_spec (xs:=xs) M S)<|?_;clear M;rintro _ w M ⟨z1,rfl,hz1⟩
 refine s_gq rfl rfl<|s_as rfl<|e_nil<|e_tn<|e_ret<|e_fin1 rfl rfl<|?_
 exact ⟨M,_,rfl,decide_eq_true_iff.trans hz1⟩
theorem checkitem_spec {w0 w:World} {G:Ghost} {L:List Res} (M:Mem w0 G L w) {x:ItemD} {ma:Option Addr} {mc:Nat} (ht:x.text.length≤9223372036854775807) (SM:RdSl rdStr 1 G (.slice ma x.marks.length mc) x.marks):Calls Tryz.prog 191 #[.agg #[.int .u64 (x.key),.int .u8 (x.typ),.string (str (x.text)),.slice (ma) (x.marks.length) (mc)]] w (RetS w0 G L fun v=>v=.int .i64 (itmF x)):=by
 refine e_start (vs:=[_]) Tryz.func191 rfl (n:=23) rfl rfl<|e_seq<|e_reg<|s_bx M rfl rfl rfl<|?_;clear M;intro b1 w M
 refine s_as rfl<|e_nil<|e_tn<|e_seq<|e_seq<|e_reg<|s_fa tok26.k rfl rfl<|s_ld tok23 M 0 rfl rfl rfl rfl<|s_eq rfl rfl<|s_mv rfl<|?_
 rcases Bool.eq_false_or_eq_true (decide (x.key=0)) with hc | hc
 ·skip
  have h2b:=hc;clear hc
  have h2:x.key=0:=of_decide_eq_true h2b
  refine g_f rfl h2b<|g_f rfl h2b<|g_f rfl h2b<|g_f rfl h2b<|s_pt rfl h2b rfl<|s_mv rfl<|g_f rfl rfl<|g_f rfl rfl<|g_f rfl rfl<|g_f rfl rfl<|s_pt rfl rfl rfl<|s_mv rfl<|g_f rfl rfl<|g_f rfl rfl<|g_f rfl rfl<|s_pt rfl rfl rfl<|e_nil<|e_tn<|e_cond_t rfl rfl<|e_seq<|e_reg<|s_as rfl<|e_nil<|e_tn<|?_
  refine e_ret<|e_tr<|e_fin1 rfl rfl<|?_
  exact ⟨M.weaken (.cons _ (List.Sublist.refl _)),by rw [itmF_no (by clear M;unfold ItemOk;grind)]⟩
 ·skip
  have h3b:=hc;clear hc
  have h3:¬ (x.key=0):=of_decide_eq_false h3b
  refine g_t rfl h3b<|s_fa tok26.k rfl rfl<|g_t rfl h3b<|s_ld tok9 M 0 rfl rfl rfl rfl<|g_t rfl h3b<|s_cS ent214 rfl rfl (tplain_spec (s:=x.text) M (by omega))<|?_;clear M;rintro _ w M ⟨b4,rfl,hb4⟩
  refine g_t rfl h3b<|s_not rfl<|s_pf rfl h3b rfl<|s_mv rfl<|?_
  rcases Bool.eq_false_or_eq_true (!(b4)) with hc | hc
  ·skip
   have h5b:=hc;clear hc
   have h5:(b4)=false:=(of_not_t h5b)
   have h5c:(b4)=false:=(of_not_t h5b)
   refine g_f rfl (not_t h5c)<|g_f rfl (not_t h5c)<|g_f rfl (not_t h5c)<|g_f rfl (not_t h5c)<|s_pt rfl (not_t h5c) rfl<|s_mv rfl<|g_f rfl rfl<|g_f rfl rfl<|g_f rfl rfl<|s_pt rfl rfl rfl<|e_nil<|e_tn<|e_cond_t rfl rfl<|e_seq<|e_reg<|s_as rfl<|e_nil<|e_tn<|e_ret<|e_tr<|e_fin1 rfl rfl<|?_
   exact ⟨M.weaken (.cons _ (List.Sublist.refl _)),by rw [itmF_no (by clear M;unfold ItemOk;grind)]⟩
  ·skip
   have h6b:=hc;clear hc
   have h6:(b4)=true:=(of_not_f h6b)
   have h6c:(b4)=true:=(of_not_f h6b)
   refine g_t rfl (not_f h6c)<|s_fa tok26.k rfl rfl<|g_t rfl (not_f h6c)<|s_ld tok24 M 0 rfl rfl rfl rfl<|g_t rfl (not_f h6c)<|s_ls tok24.k rfl<|g_t rfl (not_f h6c)<|s_gt rfl rfl<|s_pf rfl (not_f h6c) rfl<|s_mv rfl<|?_
   rcases Bool.eq_false_or_eq_true (decide (8 < ((x.marks.length:Nat):Int))) with hc | hc
   ·skip
    have h7b:=hc;clear hc
    have h7:8 < ((x.marks.length:Nat):Int):=of_decide_eq_true h7b
    refine g_f rfl h7b<|g_f rfl h7b<|g_f rfl h7b<|s_pt rfl h7b rfl<|e_nil<|e_tn<|e_cond_t rfl rfl<|e_seq<|e_reg<|s_as rfl<|e_nil<|e_tn<|e_ret<|e_tr<|e_fin1 rfl rfl<|?_
    exact ⟨M.weaken (.cons _ (List.Sublist.refl _)),by rw [itmF_no (by clear M;unfold ItemOk;grind)]⟩
   ·skip
    have h8b:=hc;clear hc
    have h8:¬ (8 < ((x.marks.length:Nat):Int)):=of_decide_eq_false h8b
    refine g_t rfl h8b<|s_fa tok26.k rfl rfl<|g_t rfl h8b<|s_ld tok24 M 0 rfl rfl rfl rfl<|g_t rfl h8b<|s_cS ent51 rfl rfl (conts_spec (xs:=x.marks) M SM)<|?_;clear M;rintro _ w M ⟨b9,rfl,hb9⟩
    refine s_pf rfl h8b rfl<|e_nil<|e_tn<|e_cond rfl ?_ ?_
    ·intro hc
     have h10b:=hc;clear hc
     have h10:(b9)=true:=h10b
     refine e_seq<|e_reg<|s_as rfl<|e_nil<|e_tn<|e_ret<|e_tr<|e_fin1 rfl rfl<|?_
     exact ⟨M.weaken (.cons _ (List.Sublist.refl _)),by rw [itmF_no (by clear M;unfold ItemOk;grind)]⟩
    ·intro hc
     have h11b:=hc;clear hc
     have h11:(b9)=false:=h11b
     refine e_skip<|e_tn<|e_seq<|e_reg<|s_as rfl<|e_nil<|e_tn<|e_ret<|e_fin1 rfl rfl<|?_
     exact ⟨M.weaken (.cons _ (List.Sublist.refl _)),by rw [itmF_yes (by first | (clear M;unfold ItemOk;grind) | exact ⟨by omega,by clear M;grind,by omega,marks_all hA (by omega)⟩)]⟩
open Go Go.Y Go.Proofs
set_option linter.unusedSimpArgs false
set_option linter.unusedVariables false
theorem deci_spec {w0 w:World} {G:Ghost} {L:List Res} (M:Mem w0 G L w) {u:Nat} (hu:u < 18446744073709551616):Calls Tryz.prog 219 #[.int .u64 (u:Int)] w (RetS w0 G L fun v=>v=.string (str (Lib.decDigits u))):=by
 refine e_start (vs:=[_]) Tryz.func219 rfl (n:=19) rfl rfl<|e_seq<|e_reg<|s_as rfl<|e_nil<|e_tn<|e_seq<|e_reg<|s_al M tok302 rfl rfl<|?_;clear M;intro b1 w M
 refine e_nil<|e_tn<|e_seq<|?_
 replace M:Mem w0 G (.blk b1 (bc (List.replicate 20 0)) 302::L) w:=M
 refine e_reg<|s_as rfl<|e_nil<|e_tn<|e_block<|fun a F=>w_loopN (fun m a' w'=>∃ (i:Nat),∃ (n:Nat),∃ (ls:List UInt8),m=i+1∧Fits 19 a' [(3,.pointer (some ⟨b1,0,none⟩)),(0,.int .u64 (((n:Nat):Int))),(4,.int .i64 (((i:Nat):Int)))]∧Mem w0 G (.blk b1 (bc (ls)) 302::L) w'∧(i≤20)∧(ls.length=20)∧(n < 18446744073709551616)∧(Lib.decDigits u=Lib.decDigits n++ls.drop i)) _ ⟨20,u,List.replicate 20 0,rfl,F.to ⟨rfl,rfl,rfl,trivial⟩,M,Nat.le_refl _,by simp,hu,by simp⟩ ?_
 clear F M
 rintro m a w ⟨i,n,ls,rfl,F,M,hi,hl20,hn64,hD⟩
 revert a
 refine e_block<|e_seq<|?_
 have h1i:=decl_pos hD hu hl20 hi
 refine e_reg<|s_mv rfl<|s_sub rfl rfl<|?_
 have hs3:((((i:Nat):Int)) - 1:Int)=((i - 1:Nat):Int):=by omega
 intro a F
 rw [hs3] at F
 revert a
 refine s_as rfl<|e_nil<|e_tn<|e_seq<|e_reg<|s_mv rfl<|s_mv rfl<|e_run (fun a F=>run_remi (F.ev rfl) (F.ev rfl) (by omega) (by omega)) rfl<|?_
 obtain ⟨B4,hB4⟩:=get_of_lt (xs:=([48,49,50,51,52,53,54,55,56,57]:List UInt8)) (i:=n % 10) (by (show n % 10 < 10;omega))
 have lB4:=nb_hi B4
 refine e_run (fun a F=>run_strIndex (i:=n % 10) tok9.k (F.ev rfl) (F.ev rfl) hB4) rfl<|e_run (fun a F=>run_idxPtr (j:=i - 1) tok302.k tok5 rfl (F.ev rfl) (F.ev rfl) (by omega) (by omega)) rfl<|fun a F=>?_
 refine rl_store1 F M tok5 rfl (k:=0) rfl rfl rfl rfl (List.getElem?_eq_getElem (by rw [bc_len];omega)) ?_;clear F M a;intro w a M F
 rw [Nat.zero_add,bc_set] at M
 change Mem w0 G (.blk b1 (bc ((ls).set (i - 1) B4)) 302::L) _ at M
 have hBt:=hB4
 revert a
 refine e_nil<|e_tn<|e_seq<|e_reg<|s_mv rfl<|e_run (fun a F=>run_quoi (F.ev rfl) (F.ev rfl) (by omega) (by omega) (in_u64 (by omega) (by omega))) rfl<|s_as rfl<|e_nil<|e_tn<|e_seq<|e_reg<|s_mv rfl<|s_eq rfl rfl<|e_nil<|e_tn<|e_cond rfl ?_ ?_
 ·intro hc
  have h5b:=hc;clear hc
  have h5:(((n:Nat):Int)) / 10=0:=of_decide_eq_true h5b
  refine e_seq<|e_reg<|s_mv rfl<|e_run (fun a F=>run_sliceArrL (l:=i - 1) tok302.k tok5 rfl (F.ev rfl) (F.ev rfl) (by omega) (by omega)) rfl<|e_run (fun a F=>run_strOfBlkL M (k:=0) rfl tok32.k tok5.k tok9.k (F.ev rfl) (by rw [List.length_set];omega)) rfl<|s_as rfl<|e_nil<|e_tn<|e_ret<|e_br<|e_tr<|e_br<|e_fin1 rfl rfl<|?_
  have h_:=decl_step hD h1i hi hl20 hBt
  rw [if_pos (by omega),List.nil_append] at h_
  exact ⟨M.weaken (.cons _ (List.Sublist.refl _)),by rw [h_]⟩
 ·intro hc
  have h6b:=hc;clear hc
  have h6:¬ ((((n:Nat):Int)) / 10=0):=of_decide_eq_false h6b
  refine e_skip<|e_bn<|e_tn<|fun a F=>?_
  exact ⟨_,by omega,i - 1,n / 10,(ls).set (i - 1) B4,rfl,F.to ⟨rfl,rfl,rfl,trivial⟩,M,by omega,by rw [List.length_set];exact hl20,by omega,by have h_:=decl_step hD h1i hi hl20 hBt;rw [if_neg (by omega)] at h_;exact h_⟩
open Go Go.Y Go.Proofs
set_option linter.unusedSimpArgs false
set_option linter.unusedVariables false
/-- The cells of a node without spare capacity anywhere. -/
def rdTx:Nat→Rd NT
 | 0=>fun _ _ _=>False
 | d+1=>fun G cs x=>∃ a1 a2,cs=[.int .u8 x.kind,.string (str x.tag),.string (str x.key),.slice a1 x.as.length x.as.length,.string (str x.text),.slice a2 x.kids.length x.kids.length] ∧
   inKind .u8 x.kind∧(x.tag.length≤9223372036854775807∧x.key.length≤9223372036854775807∧x.text.length≤9223372036854775807) ∧
   RdSl rdAttr 2 G (.slice a1 x.as.length x.as.length) x.as∧RdSl (rdTx d) 6 G (.slice a2 x.kids.length x.kids.length) x.kids
def rdNE:Rd NT:=fun G cs x=>∃ d,rdTx d G cs x
theorem rdTx_up:∀ {d:Nat} {G:Ghost} {cs:List Value} {x:NT},rdTx d G cs x→rdTx (d+1) G cs x
 | 0,_,_,_,h=>h.elim
 | d+1,G,cs,x,⟨a1,a2,h1,h2,h3,h4,h5⟩=>⟨a1,a2,h1,h2,h3,h4,h5.imp fun _ _ h=>rdTx_up h⟩
theorem rdTx_le {d e:Nat} {G:Ghost} {cs:List Value} {x:NT} (h:rdTx d G cs x) (hd:d≤e):rdTx e G cs x:=by
 induction hd with
 | refl=>exact h
 | step _ ih=>exact rdTx_up ih
theorem mono_rdTx:∀ d:Nat,Mono (rdTx d)
 | 0=>fun _ _ _ _ _ h=>h
 | d+1=>fun G G' cs x hg ⟨a1,a2,h1,h2,h3,h4,h5⟩=>⟨a1,a2,h1,h2,h3,h4.mono mono_rdAttr hg,h5.mono (mono_rdTx d) hg⟩
theorem mono_rdNE:Mono (rdNE):=fun G G' cs x hg ⟨d,h⟩=>⟨d,mono_rdTx d G G' cs x hg h⟩
theorem rdNE_open {G : Ghost} {cs : List Value} {x : NT} (h : rdNE G cs x) : ∃ a1 a2, cs = [.int .u8 x.kind, .string (str x.tag), .string (str x.key), .slice a1 x.as.length x.as.length, .string (str x.text), .slice a2 x.kids.length x.kids.length] ∧
      inKind .u8 x.kind∧(x.tag.length≤9223372036854775807∧x.key.length≤9223372036854775807∧x.text.length≤9223372036854775807) ∧
      RdSl rdAttr 2 G (.slice a1 x.as.length x.as.length) x.as∧RdSl (rdNE) 6 G (.slice a2 x.kids.length x.kids.length) x.kids:=by
  obtain ⟨d,h⟩:=h
  cases d with
  | zero=>exact h.elim
  | succ d =>
    obtain ⟨a1,a2,h1,h2,h3,h4,h5⟩:=h
    exact ⟨a1,a2,h1,h2,h3,h4,h5.imp fun _ _ h=>⟨d,h⟩⟩
theorem rdTxs_deep {G:Ghost} {v:Value} {xs:List NT} (S:RdSl (rdNE) 6 G v xs):∃ d,RdSl (rdTx d) 6 G v xs:=by
 obtain ⟨a,c,h1,h2,h3,h4⟩:=S
 rcases h4 with h4 | ⟨b,o,h5,h6⟩
 ·exact ⟨0,a,c,h1,h2,h3,Or.inl h4⟩
 ·have key:∀ n,∃ d,∀ i x,i < n→xs[i]?=some x→∃ cs:List Value,cs.length=6∧(∀ u∈cs,u.oneCell' = true)∧At G b (o+i * 6) cs∧rdTx d G cs x:=by
   intro n
   induction n with
   | zero=>exact ⟨0,fun i x h=>by omega⟩
   | succ n ih =>
    obtain ⟨d,hd⟩:=ih
    cases hx:xs[n]? with
    | none =>
     refine ⟨d,fun i x hi hi2=>?_⟩
     rcases Nat.lt_or_ge i n with h | h
     ·exact hd i x h hi2
     ·have:i=n:=by omega
      subst this;rw [hx] at hi2;cases hi2
    | some y =>
     obtain ⟨cs,q1,q2,q3,e,q4⟩:=h6 n y hx
     refine ⟨max d e,fun i x hi hi2=>?_⟩
     rcases Nat.lt_or_ge i n with h | h
     ·obtain ⟨cs',r1,r2,r3,r4⟩:=hd i x h hi2
      exact ⟨cs',r1,r2,r3,rdTx_le r4 (by omega)⟩
     ·have:i=n:=by omega
      subst this
      rw [hx] at hi2
      simp only [Option.some.injEq] at hi2
      subst hi2
      exact ⟨cs,q1,q2,q3,rdTx_le q4 (by omega)⟩
  obtain ⟨d,hd⟩:=key xs.length
  refine ⟨d,a,c,h1,h2,h3,Or.inr ⟨b,o,h5,fun i x hx=>hd i x ?_ hx⟩⟩
  rcases Nat.lt_or_ge i xs.length with h | h
  ·exact h
  ·rw [List.getElem?_eq_none h] at hx;cases hx
theorem rdNE_close {G:Ghost} {a1 a2:Option Addr} {x:NT} (h2:inKind .u8 x.kind) (h3:x.tag.length≤9223372036854775807∧x.key.length≤9223372036854775807∧x.text.length≤9223372036854775807)
  (h4:RdSl rdAttr 2 G (.slice a1 x.as.length x.as.length) x.as) (h5:RdSl (rdNE) 6 G (.slice a2 x.kids.length x.kids.length) x.kids) :
  rdNE G [.int .u8 x.kind,.string (str x.tag),.string (str x.key),.slice a1 x.as.length x.as.length,.string (str x.text),.slice a2 x.kids.length x.kids.length] x:=by
 obtain ⟨d,h5⟩:=rdTxs_deep h5
 exact ⟨d+1,a1,a2,rfl,h2,h3,h4,h5⟩
theorem rdTx_weak:∀ {d:Nat} {G:Ghost} {cs:List Value} {x:NT},rdTx d G cs x→rdTr rdAttr 2 d G cs x
 | 0,_,_,_,h=>h.elim
 | d+1,_,_,_,⟨a1,a2,h1,h2,h3,h4,h5⟩=>⟨a1,_,a2,_,h1,h2,h3,h4,h5.imp fun _ _ h=>rdTx_weak h⟩
theorem weakN {G:Ghost} {v:Value} {xs:List NT} (h:RdSl rdNE 6 G v xs):RdSl rdN 6 G v xs:=h.imp fun _ _ ⟨d,h⟩=>⟨d,rdTx_weak h⟩
theorem mattrs_spec {w0 w:World} {G:Ghost} {L:List Res} (M:Mem w0 G L w) {x:ItemD} {ma:Option Addr} {mc:Nat} (ht:x.text.length≤9223372036854775807) (SM:RdSl rdStr 1 G (.slice ma x.marks.length mc) x.marks) (hik:inKind .u64 x.key) {ad:Option Addr} {cd:Nat} {xs:List SlotD} (S:RdSl rdSlot 3 G (.slice ad xs.length cd) xs) (hxs:xs.length≤8) (hsrc:∀ s∈xs,s.src≤3):Calls Tryz.prog 230 #[.agg #[.int .u64 (x.key),.int .u8 (x.typ),.string (str (x.text)),.slice (ma) (x.marks.length) (mc)],.slice ad xs.length cd] w (Ret w0 G L fun G' v=>∃ a',v=.slice a' ((xs).map (attrF x)).length ((xs).map (attrF x)).length∧RdSl rdAttr 2 G' (.slice a' ((xs).map (attrF x)).length ((xs).map (attrF x)).length) ((xs).map (attrF x))):=by
 refine e_start (vs:=[_,_]) Tryz.func230 rfl (n:=45) rfl rfl<|e_seq<|e_reg<|s_bx M rfl rfl rfl<|?_;clear M;intro b1 w M
 refine s_as rfl<|e_nil<|e_tn<|e_seq<|e_reg<|s_mv rfl<|s_ls tok76.k rfl<|fun a F=>?_
 refine rl_makeE (rd:=rdAttr) (Z:=⟨[],[]⟩) F M tok190.k tok282 rfl (by decide) rfl rfl (l:=xs.length) (by omega) rfl (by omega) (by show 32 * _≤_;omega) (by omega) (by simp [ti282,Value.cells,Value.oneCell']) (⟨rfl,Nat.zero_le _,Nat.zero_le _⟩) rfl ?_;clear F M a;intro bv2 csv2 w a M Ev2 F
 revert a
 refine s_as rfl<|e_nil<|e_tn<|e_seq<|e_seq<|?_
 have bM:=SM.bound
 have hik':0≤x.key∧x.key≤18446744073709551615:=hik
 refine e_reg<|s_mv rfl<|s_ls tok76.k rfl<|s_mv rfl<|e_nil<|e_tn<|e_block<|fun a F=>w_loopN (fun m a' w'=>∃ (i:Nat),∃ (cso:List Value),∃ (ys:List AttrD),m=xs.length - i∧Fits 45 a' [(1,.slice (ad) (xs.length) (cd)),(2,.pointer (some ⟨b1,0,none⟩)),(5,.slice (some ⟨bv2,0,none⟩) (xs.length) (xs.length)),(11,.slice (ad) (xs.length) (cd)),(12,.int .i64 (((xs.length:Nat):Int))),(13,.int .i64 (((i:Nat):Int)))]∧Mem w0 G (.row (.slice (some ⟨bv2,0,none⟩) (xs.length) (xs.length)) (xs.length) (cso) 282 2::.blk b1 [.int .u64 (x.key),.int .u8 (x.typ),.string (str (x.text)),.slice (ma) (x.marks.length) (mc)] 262::L) w'∧(i≤xs.length)∧(ys=(xs.take i).map (attrF x)++List.replicate (xs.length - i) ⟨[],[]⟩)∧(Els rdAttr 2 G cso ys)) _ ⟨0,csv2,_,rfl,F.to ⟨rfl,rfl,rfl,rfl,rfl,rfl,trivial⟩,M,Nat.zero_le _,by simp,Ev2⟩ ?_
 clear F M
 rintro m a w ⟨i,cso,ys,rfl,F,M,hi,hys,Eo⟩
 revert a
 refine e_seq<|e_reg<|s_lt rfl rfl<|e_nil<|e_tn<|e_seq<|e_cond rfl ?_ ?_
 ·intro hc
  have h3b:=hc;clear hc
  have h3:((i:Nat):Int) < ((xs.length:Nat):Int):=of_decide_eq_true h3b
  refine e_skip<|e_tn<|e_seq<|e_block<|e_seq<|e_reg<|s_mv rfl<|?_
  obtain ⟨Xe4,hXe4⟩:=get_of_lt (xs:=xs) (i:=i) (by omega)
  obtain ⟨be4,oe4,_,Ie4,_,Ae4,⟨rfl,hn1e4,hk1e4,hv1e4⟩⟩:=S.at hXe4
  refine s_ix tok76.k tok189 Ie4 rfl rfl<|e_run (fun a F=>run_loadA tok189 rfl (F.ev rfl) (cs:=[.string (str (Xe4.n)),.int .u8 (Xe4.src),.string (str (Xe4.v))]) rfl (M.cellsA Ae4 0 (by omega) rfl)) rfl<|s_al M tok189 rfl rfl<|?_;clear M;intro b5 w M
  refine s_as rfl<|fun a F=>?_
  refine rl_storeA F M tok189 (k:=0) rfl rfl rfl (us:=[.string (str (Xe4.n)),.int .u8 (Xe4.src),.string (str (Xe4.v))]) rfl rfl (by simp [Value.oneCell']) (by simp) ?_;clear F M a;intro w a M F
  change Mem w0 G (.blk b5 [.string (str (Xe4.n)),.int .u8 (Xe4.src),.string (str (Xe4.v))] 189::_::_::L) _ at M
  revert a
  refine e_nil<|e_tn<|?_
  have hyl:ys.length=xs.length:=by rw [hys];simp;omega
  intro a F
  refine w_plan2 [(.free,0),(.free,1),(.free,2),(.pure,3),(.free,4),(.pure,5),(.free,6),(.free,7),(.pure,8),(.free,9),(.free,10),(.pure,11),(.free,13),(.free,14),(.pure,15),(.pure,16),(.free,17),(.free,20),(.pure,21),(.keep,12),(.keep,18),(.free,19),(.free,22),(.free,23),(.free,24),(.keep,25)] [] (Keep G [.blk b5 [.string (str (Xe4.n)),.int .u8 (Xe4.src),.string (str (Xe4.v))] 189,.blk b1 [.int .u64 (x.key),.int .u8 (x.typ),.string (str (x.text)),.slice (ma) (x.marks.length) (mc)] 262]) rfl (by kernel_rfl) (fun c a d v w h=>by cases d <;> exact h) ((M.drew _).keep (Gle.refl _) (by simp)) ?_
  replace M:=M.drew (w.drawn+1)
  revert a
  refine k_f (fun a F w _=>x_mv F rfl) rfl<|k_f (fun a F w _=>x_mv F rfl) rfl<|k_f (fun a F w _=>x_fa tok189.k rfl F rfl) rfl<|k_p (fun a F w M=>run_load1 (agf tok9 rfl) (F.ev rfl) (M.cellL (k:=0) rfl rfl)) rfl<|k_f (fun a F w _=>x_fa tok189.k rfl F rfl) rfl<|k_p (fun a F w M=>run_load1 (agf tok9 rfl) (F.ev rfl) (M.cellL (k:=0) rfl rfl)) rfl<|k_f (fun a F w _=>x_fa tok262.k rfl F rfl) rfl<|k_f (fun a F w _=>x_fa tok26.k rfl F rfl) rfl<|k_p (fun a F w M=>run_load1 (agf tok9 rfl) (F.ev rfl) (M.cellL (k:=1) rfl rfl)) rfl<|k_f (fun a F w _=>x_fa tok262.k rfl F rfl) rfl<|k_f (fun a F w _=>x_fa tok26.k rfl F rfl) rfl<|k_p (fun a F w M=>run_load1 (agf tok23 rfl) (F.ev rfl) (M.cellL (k:=1) rfl rfl)) rfl<|k_f (fun a F w _=>x_fa tok262.k rfl F rfl) rfl<|k_f (fun a F w _=>x_fa tok26.k rfl F rfl) rfl<|k_p (fun a F w M=>run_load1 (agf tok24 rfl) (F.ev rfl) (M.cellL (k:=1) rfl rfl)) rfl<|k_p (fun a F w M=>run_lenSl tok24.k (F.ev rfl)) rfl<|k_f (fun a F w _=>run_conv_int tok23.k ⟨_,by rw [under_int tok3.k]⟩ (F.ev rfl) (in_u64 (by omega) (by omega))) rfl<|k_f (fun a F w _=>x_fa tok189.k rfl F rfl) rfl<|k_p (fun a F w M=>run_load1 (agf tok5 rfl) (F.ev rfl) (M.cellL (k:=0) rfl rfl)) rfl<|k_k rfl<|?_
  have hu7:(x.key:Int)=(((x.key).toNat:Nat):Int):=by omega
  intro a F
  rw [hu7] at F
  revert a
  refine s_cS ent219 rfl rfl (deci_spec (u:=(x.key).toNat) M (by omega))<|?_;clear M;rintro _ w M rfl
  refine e_nil<|eK (C':=Keep G [.blk b5 [.string (str (Xe4.n)),.int .u8 (Xe4.src),.string (str (Xe4.v))] 189,.blk b1 [.int .u64 (x.key),.int .u8 (x.typ),.string (str (x.text)),.slice (ma) (x.marks.length) (mc)] 262]) (M.keep (Gle.refl _) (by simp)) (fun w h=>h.mono (Gle.refl _) (by simp))<|k_k rfl<|s_cS ent219 rfl rfl (deci_spec (u:=x.marks.length) M (by omega))<|?_;clear M;rintro _ w M rfl
  refine e_nil<|eK (C':=Keep G [.blk b5 [.string (str (Xe4.n)),.int .u8 (Xe4.src),.string (str (Xe4.v))] 189,.blk b1 [.int .u64 (x.key),.int .u8 (x.typ),.string (str (x.text)),.slice (ma) (x.marks.length) (mc)] 262]) (M.keep (Gle.refl _) (by simp)) (fun w h=>h.mono (Gle.refl _) (by simp))<|k_f (fun a F w _=>run_buildA F (ps:=[(0,.string (str (Xe4.v))),(1,.string (str (x.text))),(2,.string (str (Lib.decDigits ((x.key).toNat)))),(3,.string (str (Lib.decDigits x.marks.length)))]) (cs:=[.string (str (Xe4.v)),.string (str (x.text)),.string (str (Lib.decDigits ((x.key).toNat))),.string (str (Lib.decDigits x.marks.length))]) tok313.k tok313 tok9 rfl rfl) rfl<|?_
  have hsr:=hsrc Xe4 (List.mem_of_getElem? hXe4)
  have hu4:=u8_b hk1e4
  refine k_f (fun a F w _=>run_idxArr (j:=Xe4.src.toNat) (v:=.string (str (attrV x Xe4))) tok313.k tok9 rfl rfl (F.ev rfl) (F.ev rfl) (by omega) (by omega) (pick4 hu4.1 hsr)) rfl<|k_f (fun a F w _=>run_buildS (cs:=[.string (str (Xe4.n)),.string (str (attrV x Xe4))]) (ps:=[(0,.string (str (Xe4.n))),(1,.string (str (attrV x Xe4)))]) tok282.k rfl tok282 (F.evp rfl) rfl) rfl<|?_
  obtain ⟨Xe8,hXe8⟩:=get_of_lt (xs:=ys) (i:=i) (by omega)
  obtain ⟨be8,_,Ie8,hme8,_,Ae8,⟨rfl,hn1e8,hv1e8⟩⟩:=M.atRow (k:=1) rfl (by decide) Eo hXe8
  refine k_f (fun a F w _=>run_indexI tok190.k tok282 (F.ev rfl) (F.ev rfl) (by omega) Ie8) rfl<|k_k rfl<|fun a F=>?_
  refine rl_storeEl F M tok282 (k:=1) rfl rfl Eo Ie8 (lt_of_get hXe8) rfl rfl (us:=[.string (str (Xe4.n)),.string (str (attrV x Xe4))]) rfl rfl (by simp [Value.oneCell']) (X':=attrF x Xe4) (⟨rfl,hn1e4,attrV_len ht hik (by have:=SM.bound;omega) Xe4 hv1e4⟩) ?_;clear F M a;intro csu9 w a M Eu9 F
  revert a
  refine e_nil<|eK (C':=Keep G [.blk b5 [.string (str (Xe4.n)),.int .u8 (Xe4.src),.string (str (Xe4.v))] 189,.blk b1 [.int .u64 (x.key),.int .u8 (x.typ),.string (str (x.text)),.slice (ma) (x.marks.length) (mc)] 262]) (M.keep (Gle.refl _) (by simp)) (fun w h=>h.mono (Gle.refl _) (by simp))<|k_nil<|e_bn<|e_tn<|e_reg<|s_add rfl rfl<|s_mv rfl<|e_nil<|e_tn<|fun a F=>?_
  exact ⟨_,by omega,i+1,csu9,_,rfl,F.to ⟨rfl,rfl,rfl,rfl,rfl,rfl,trivial⟩,(M.weaken (.cons _ (.cons_cons _ (.cons_cons _ (List.Sublist.refl _))))),by omega,by rw [hys];exact attrs_step hXe4,Eu9⟩
 ·intro hc
  have h10b:=hc;clear hc
  have h10:¬ (((i:Nat):Int) < ((xs.length:Nat):Int)):=of_decide_eq_false h10b
  refine e_exit<|e_te<|e_te<|e_bh<|e_tn<|e_seq<|e_reg<|s_mv rfl<|s_as rfl<|e_nil<|e_tn<|e_ret<|e_fin1 rfl rfl<|?_
  rw [List.take_of_length_le (by omega),show xs.length - i=0 by omega,List.replicate_zero,List.append_nil] at hys
  rw [hys] at Eo
  obtain ⟨hnz11,Gz11,az11,cz11,hGz11,hez11,Sz11,M⟩:=M.freeze_row mono_rdAttr (k:=0) rfl Eo (by decide)
  clear hez11 az11 cz11
  have hlm:((xs).map (attrF x)).length=xs.length:=by simp
  exact ⟨Gz11,hGz11,M.weaken (.cons _ (List.Sublist.refl _)),_,by rw [hlm],by have h_:=Sz11;rw [hnz11] at h_;exact h_⟩
theorem mwords_spec {w0 w:World} {G:Ghost} {L:List Res} (M:Mem w0 G L w) {s:List UInt8}:Calls Tryz.prog 218 #[.string (str s)] w (RetS w0 G L fun v=>v=.agg #[.int .u8 2,.string (str []),.string (str []),.slice none 0 0,.string (str s),.slice none 0 0]):=by
 refine e_start (vs:=[_]) Tryz.func218 rfl (n:=5) rfl rfl<|e_seq<|e_reg<|s_al M tok193 rfl rfl<|?_;clear M;intro b1 w M
 refine e_nil<|e_tn<|e_seq<|e_reg<|s_mv rfl<|e_run (fun a F=>run_buildS (cs:=[.int .u8 2,.string (str ([]:List UInt8)),.string (str ([]:List UInt8)),.slice none 0 0,.string (str (s)),.slice none 0 0]) (ps:=[(0,.int .u8 2),(4,.string (str (s)))]) tok193.k rfl tok193 (F.evp rfl) rfl) rfl<|fun a F=>?_
 refine rl_storeA F M tok193 (k:=0) rfl rfl rfl (us:=[.int .u8 2,.string (str ([]:List UInt8)),.string (str ([]:List UInt8)),.slice none 0 0,.string (str (s)),.slice none 0 0]) rfl rfl (by simp [Value.oneCell']) (by simp) ?_;clear F M a;intro w a M F
 change Mem w0 G (.blk b1 [.int .u8 2,.string (str ([]:List UInt8)),.string (str ([]:List UInt8)),.slice none 0 0,.string (str (s)),.slice none 0 0] 193::L) _ at M
 revert a
 refine e_nil<|e_tn<|e_ret<|fun a F=>fin_c F M (k:=0) rfl rfl tok193 rfl rfl rfl ?_
 exact ⟨M.weaken (.cons _ (List.Sublist.refl _)),rfl⟩
theorem clipn_spec {w0 w:World} {G:Ghost} {L:List Res} (M:Mem w0 G L w) {kad:Option Addr} {kcd:Nat} {ks:List NT} (S:RdSl rdNE 6 G (.slice kad ks.length kcd) ks):Calls Tryz.prog 231 #[.slice kad ks.length kcd] w (RetS w0 G L fun v=>v=.slice kad ks.length ks.length):=by
 have bS:=S.bound
 refine e_start (vs:=[_]) Tryz.func231 rfl (n:=9) rfl rfl<|e_seq<|e_reg<|s_as rfl<|e_nil<|e_tn<|e_seq<|e_reg<|s_mv rfl<|s_mv rfl<|s_ls tok191.k rfl<|s_mv rfl<|s_ls tok191.k rfl<|?_
 have sb1:=S.bound
 refine e_run (fun a F=>run_slice3 (h:=ks.length) (q:=ks.length) tok191.k tok193 (F.ev rfl) (F.ev rfl) (by omega) (F.ev rfl) (by omega) (by omega) (by omega)) rfl<|?_
 have S2:=S.clip
 refine s_as rfl<|e_nil<|e_tn<|e_ret<|e_fin1 rfl rfl<|?_
 exact ⟨M,rfl⟩
theorem melem_spec {w0 w : World} {G : Ghost} {L : List Res} (M : Mem w0 G L w) {x : ItemD} {ma : Option Addr} {mc : Nat} (ht : x.text.length ≤ 9223372036854775807) (SM : RdSl rdStr 1 G (.slice ma x.marks.length mc) x.marks) (hik : inKind .u64 x.key) {p : PT} {tap : Option Addr} {tcp : Nat} {kap : Option Addr} {kcp : Nat} (hkp : inKind .u8 p.kind) (hlp : (p.tag.length ≤ 9223372036854775807 ∧ p.key.length ≤ 9223372036854775807 ∧ p.text.length ≤ 9223372036854775807)) (SAp : RdSl rdSlot 3 G (.slice tap p.as.length tcp) p.as) (SKp : RdSl rdP 6 G (.slice kap p.kids.length kcp) p.kids) (hso : SlotsOk p.as) {kk : List UInt8} {kad : Option Addr} {kcd : Nat} {ks : List NT} (S : RdSl rdNE 6 G (.slice kad ks.length kcd) ks) : Calls Tryz.prog 217 #[.agg #[.int .u64 (x.key), .int .u8 (x.typ), .string (str (x.text)), .slice (ma) (x.marks.length) (mc)], .agg #[.int .u8 (p.kind), .string (str (p.tag)), .string (str (p.key)), .slice (tap) (p.as.length) (tcp), .string (str (p.text)), .slice (kap) (p.kids.length) (kcp)], .string (str kk), .slice kad ks.length kcd] w (Ret w0 G L fun G' v => ∃ a', v = .agg #[.int .u8 1, .string (str p.tag), .string (str kk), .slice a' (p.as.map (attrF x)).length (p.as.map (attrF x)).length, .string (str []), .slice kad ks.length ks.length] ∧
      RdSl rdAttr 2 G' (.slice a' (p.as.map (attrF x)).length (p.as.map (attrF x)).length) (p.as.map (attrF x))∧RdSl rdNE 6 G' (.slice kad ks.length ks.length) ks):=by
  refine e_start (vs:=[_,_,_,_]) Tryz.func217 rfl (n:=19) rfl rfl<|e_seq<|e_reg<|s_bx M rfl rfl rfl<|?_;clear M;intro b1 w M
  refine s_bx M rfl rfl rfl<|?_;clear M;intro b2 w M
  refine s_al M tok193 rfl rfl<|?_;clear M;intro b3 w M
  refine e_nil<|e_tn<|e_seq<|fun a F=>w_plan2 [(.free,0),(.pure,1),(.free,2),(.pure,3),(.free,4),(.pure,5),(.free,7),(.keep,6),(.keep,8),(.free,9),(.keep,10)] [] (Keep G [.blk b2 [.int .u8 (p.kind),.string (str (p.tag)),.string (str (p.key)),.slice (tap) (p.as.length) (tcp),.string (str (p.text)),.slice (kap) (p.kids.length) (kcp)] 79,.blk b1 [.int .u64 (x.key),.int .u8 (x.typ),.string (str (x.text)),.slice (ma) (x.marks.length) (mc)] 262]) rfl (by kernel_rfl) (fun c a d v w h=>by cases d <;> exact h) ((M.drew _).keep (Gle.refl _) (by simp)) ?_
  replace M:=M.drew (w.drawn+1)
  revert a
  refine k_f (fun a F w _=>x_fa tok79.k rfl F rfl) rfl<|k_p (fun a F w M=>run_load1 (agf tok9 rfl) (F.ev rfl) (M.cellL (k:=0) rfl rfl)) rfl<|k_f (fun a F w _=>x_mv F rfl) rfl<|k_p (fun a F w M=>run_loadA tok262 rfl (F.ev rfl) (cs:=[.int .u64 (x.key),.int .u8 (x.typ),.string (str (x.text)),.slice (ma) (x.marks.length) (mc)]) rfl (M.cellsL (k:=1) rfl rfl)) rfl<|k_f (fun a F w _=>x_fa tok79.k rfl F rfl) rfl<|k_p (fun a F w M=>run_load1 (agf tok76 rfl) (F.ev rfl) (M.cellL (k:=0) rfl rfl)) rfl<|k_f (fun a F w _=>x_mv F rfl) rfl<|k_k rfl<|s_cR ent230 rfl rfl (mattrs_spec (x:=x) (xs:=p.as) M ht SM hik SAp hso.1 (fun s_ hs_=>slots_src hso hs_))<|?_;clear M;rintro _ Gt5 w hGt5 M ⟨at5,rfl,St5⟩
  replace SAp:=SAp.mono mono_rdSlot hGt5
  replace SKp:=SKp.mono mono_rdP hGt5
  replace SM:=SM.mono mono_rdStr hGt5
  replace S:=S.mono mono_rdNE hGt5
  refine e_nil<|eK (C':=Keep Gt5 [.blk b2 [.int .u8 (p.kind),.string (str (p.tag)),.string (str (p.key)),.slice (tap) (p.as.length) (tcp),.string (str (p.text)),.slice (kap) (p.kids.length) (kcp)] 79,.blk b1 [.int .u64 (x.key),.int .u8 (x.typ),.string (str (x.text)),.slice (ma) (x.marks.length) (mc)] 262]) (M.keep (Gle.refl _) (by simp)) (fun w h=>h.mono hGt5 (by simp))<|k_k rfl<|s_cS ent231 rfl rfl (clipn_spec (ks:=ks) M S)<|?_;clear M;rintro _ w M rfl
  have S6:=S.clip
  refine e_nil<|eK (C':=Keep Gt5 [.blk b2 [.int .u8 (p.kind),.string (str (p.tag)),.string (str (p.key)),.slice (tap) (p.as.length) (tcp),.string (str (p.text)),.slice (kap) (p.kids.length) (kcp)] 79,.blk b1 [.int .u64 (x.key),.int .u8 (x.typ),.string (str (x.text)),.slice (ma) (x.marks.length) (mc)] 262]) (M.keep (Gle.refl _) (by simp)) (fun w h=>h.mono (Gle.refl _) (by simp))<|k_f (fun a F w _=>run_buildS (cs:=[.int .u8 1,.string (str (p.tag)),.string (str (kk)),.slice (at5) ((p.as.map (attrF x)).length) ((p.as.map (attrF x)).length),.string (str ([]:List UInt8)),.slice (kad) (ks.length) (ks.length)]) (ps:=[(0,.int .u8 1),(1,.string (str (p.tag))),(2,.string (str (kk))),(3,.slice (at5) ((p.as.map (attrF x)).length) ((p.as.map (attrF x)).length)),(5,.slice (kad) (ks.length) (ks.length))]) tok193.k rfl tok193 (F.evp rfl) rfl) rfl<|k_k rfl<|fun a F=>?_
  refine rl_storeA F M tok193 (k:=0) rfl rfl rfl (us:=[.int .u8 1,.string (str (p.tag)),.string (str (kk)),.slice (at5) ((p.as.map (attrF x)).length) ((p.as.map (attrF x)).length),.string (str ([]:List UInt8)),.slice (kad) (ks.length) (ks.length)]) rfl rfl (by simp [Value.oneCell']) (by simp) ?_;clear F M a;intro w a M F
  change Mem w0 Gt5 (.blk b3 [.int .u8 1,.string (str (p.tag)),.string (str (kk)),.slice (at5) ((p.as.map (attrF x)).length) ((p.as.map (attrF x)).length),.string (str ([]:List UInt8)),.slice (kad) (ks.length) (ks.length)] 193::_::_::L) _ at M
  revert a
  refine e_nil<|eK (C':=Keep Gt5 [.blk b2 [.int .u8 (p.kind),.string (str (p.tag)),.string (str (p.key)),.slice (tap) (p.as.length) (tcp),.string (str (p.text)),.slice (kap) (p.kids.length) (kcp)] 79,.blk b1 [.int .u64 (x.key),.int .u8 (x.typ),.string (str (x.text)),.slice (ma) (x.marks.length) (mc)] 262]) (M.keep (Gle.refl _) (by simp)) (fun w h=>h.mono (Gle.refl _) (by simp))<|k_nil<|e_tn<|e_ret<|fun a F=>fin_c F M (k:=0) rfl rfl tok193 rfl rfl rfl ?_
  exact ⟨_,hGt5,M.weaken (.cons _ (.cons _ (.cons _ (List.Sublist.refl _)))),_,rfl,St5,S6⟩
open Go Go.Y Go.Proofs
set_option linter.unusedSimpArgs false
set_option linter.unusedVariables false
def MakeQ (x:ItemD) (ps:List PT):Prop:=∀ (w0 w:World) (G:Ghost) (L:List Res) (ma pa:Option Addr) (mc pc:Nat),Mem w0 G L w→RdSl rdStr 1 G (.slice ma x.marks.length mc) x.marks→RdSl rdP 6 G (.slice pa ps.length pc) ps→ps.length≤16→(∀ p∈ps,∃ n,Tr.Ok AloneP n p) →
  Calls Tryz.prog 192 #[.agg #[.int .u64 (x.key),.int .u8 (x.typ),.string (str (x.text)),.slice (ma) (x.marks.length) (mc)],.slice pa ps.length pc] w (Ret w0 G L fun G' v=>∃ a' c',v=.slice a' (madesF x ps).length c'∧RdSl rdNE 6 G' (.slice a' (madesF x ps).length c') (madesF x ps))
theorem mmake_step {x:ItemD} (hik:inKind .u64 x.key) (hio:ItemOk x) (ht:x.text.length≤9223372036854775807) {ps:List PT} (ih:∀ p∈ps,MakeQ x p.kids) {w0 w:World} {G:Ghost} {L:List Res} (M:Mem w0 G L w) {ma pa:Option Addr} {mc pc:Nat} (SM:RdSl rdStr 1 G (.slice ma x.marks.length mc) x.marks) (S:RdSl rdP 6 G (.slice pa ps.length pc) ps) (hps:ps.length≤16) (hok:∀ p∈ps,∃ n,Tr.Ok AloneP n p) :
  Calls Tryz.prog 192 #[.agg #[.int .u64 (x.key),.int .u8 (x.typ),.string (str (x.text)),.slice (ma) (x.marks.length) (mc)],.slice pa ps.length pc] w (Ret w0 G L fun G' v=>∃ a' c',v=.slice a' (madesF x ps).length c'∧RdSl rdNE 6 G' (.slice a' (madesF x ps).length c') (madesF x ps)):=by
 refine e_start (vs:=[_,_]) Tryz.func192 rfl (n:=82) rfl rfl<|e_seq<|e_reg<|s_bx M rfl rfl rfl<|?_;clear M;intro b1 w M
 refine s_as rfl<|e_nil<|e_tn<|e_seq<|e_reg<|s_as rfl<|e_nil<|e_tn<|e_seq<|e_seq<|?_
 have bM:=SM.bound
 have hio3:=hio.2.2.1
 have hik':0≤x.key∧x.key≤18446744073709551615:=hik
 refine e_reg<|s_mv rfl<|s_ls tok77.k rfl<|s_mv rfl<|e_nil<|e_tn<|e_block<|?_
 have M:=M.nilrow 193 6
 intro a F
 refine w_loopN (fun m a' w'=>∃ (i:Nat),∃ (ay:Option Addr),∃ (ny:Nat),∃ (cy:Nat),∃ (csy:List Value),m=ps.length - i∧∃ G2,Gle G G2∧Fits 82 a' [(2,.pointer (some ⟨b1,0,none⟩)),(10,.slice (pa) (ps.length) (pc)),(11,.int .i64 (((ps.length:Nat):Int))),(5,.slice (ay) (ny) (cy)),(12,.int .i64 (((i:Nat):Int)))]∧Mem w0 G2 (.row (.slice (ay) (ny) (cy)) (ny) (csy) 193 6::.blk b1 [.int .u64 (x.key),.int .u8 (x.typ),.string (str (x.text)),.slice (ma) (x.marks.length) (mc)] 262::L) w'∧(i≤ps.length)∧(ny=(madesF x (ps.take i)).length)∧(Els rdNE 6 G2 csy (madesF x (ps.take i)))) _ ⟨0,(none),(0),(0),([]),rfl,G,Gle.refl _,F.to ⟨rfl,rfl,rfl,rfl,rfl,trivial⟩,M,Nat.zero_le _,rfl,Els.nil⟩ ?_
 clear F M
 rintro m a w ⟨i,ay,ny,cy,csy,rfl,G2,hG2,F,M,hi,hny,Ey⟩
 replace SM:=SM.mono mono_rdStr hG2
 replace S:=S.mono mono_rdP hG2
 revert a
 refine e_seq<|e_reg<|s_lt rfl rfl<|e_nil<|e_tn<|e_seq<|e_cond rfl ?_ ?_
 ·intro hc
  have h3b:=hc;clear hc
  have h3:((i:Nat):Int) < ((ps.length:Nat):Int):=of_decide_eq_true h3b
  refine e_skip<|e_tn<|e_seq<|e_block<|e_seq<|?_
  have hml:=mades_len hio.2.2.1 (ps.take i)
  intro a F
  rw [List.length_take] at hml
  revert a
  refine e_reg<|?_
  obtain ⟨Xe4,hXe4⟩:=get_of_lt (xs:=ps) (i:=i) (by omega)
  obtain ⟨be4,oe4,_,Ie4,_,Ae4,hTe4⟩:=S.at hXe4
  obtain ⟨tae4,tce4,kae4,kce4,rfl,hke4,hle4,SAe4,SKe4⟩:=rdT_open hTe4
  refine s_ix tok77.k tok79 Ie4 rfl rfl<|e_run (fun a F=>run_loadA tok79 rfl (F.ev rfl) (cs:=[.int .u8 (Xe4.kind),.string (str (Xe4.tag)),.string (str (Xe4.key)),.slice (tae4) (Xe4.as.length) (tce4),.string (str (Xe4.text)),.slice (kae4) (Xe4.kids.length) (kce4)]) rfl (M.cellsA Ae4 0 (by omega) rfl)) rfl<|s_al M tok79 rfl rfl<|?_;clear M;intro b5 w M
  intro a F
  refine rl_storeA F M tok79 (k:=0) rfl rfl rfl (us:=[.int .u8 (Xe4.kind),.string (str (Xe4.tag)),.string (str (Xe4.key)),.slice (tae4) (Xe4.as.length) (tce4),.string (str (Xe4.text)),.slice (kae4) (Xe4.kids.length) (kce4)]) rfl rfl (by simp [Value.oneCell']) (by simp) ?_;clear F M a;intro w a M F
  change Mem w0 G2 (.blk b5 [.int .u8 (Xe4.kind),.string (str (Xe4.tag)),.string (str (Xe4.key)),.slice (tae4) (Xe4.as.length) (tce4),.string (str (Xe4.text)),.slice (kae4) (Xe4.kids.length) (kce4)] 79::_::_::L) _ at M
  revert a
  refine e_nil<|e_tn<|e_seq<|?_
  obtain ⟨nk,hOk⟩:=hok Xe4 (List.mem_of_getElem? hXe4)
  refine e_reg<|s_fa tok79.k rfl rfl<|s_ld tok5 M 0 rfl rfl rfl rfl<|e_nil<|e_tn<|e_block<|e_seq<|e_reg<|s_eq rfl rfl<|s_as rfl<|e_nil<|e_tn<|e_cond rfl ?_ ?_
  ·intro hc
   have h7b:=hc;clear hc
   have h7:Xe4.kind=1:=of_decide_eq_true h7b
   intro a F
   refine w_plan2 [(.free,0),(.pure,1),(.pure,2),(.free,3),(.pure,4),(.pure,5),(.free,6),(.pure,7),(.keep,8),(.keep,9),(.keep,10),(.keep,11),(.free,12)] [] (Keep G2 [.blk b5 [.int .u8 (Xe4.kind),.string (str (Xe4.tag)),.string (str (Xe4.key)),.slice (tae4) (Xe4.as.length) (tce4),.string (str (Xe4.text)),.slice (kae4) (Xe4.kids.length) (kce4)] 79,.blk b1 [.int .u64 (x.key),.int .u8 (x.typ),.string (str (x.text)),.slice (ma) (x.marks.length) (mc)] 262]) rfl (by kernel_rfl) (fun c a d v w h=>by cases d <;> exact h) ((M.drew _).keep (Gle.refl _) (by simp)) ?_
   replace M:=M.drew (w.drawn+1)
   revert a
   refine k_f (fun a F w _=>x_mv F rfl) rfl<|k_p (fun a F w M=>run_loadA tok262 rfl (F.ev rfl) (cs:=[.int .u64 (x.key),.int .u8 (x.typ),.string (str (x.text)),.slice (ma) (x.marks.length) (mc)]) rfl (M.cellsL (k:=1) rfl rfl)) rfl<|k_p (fun a F w M=>run_loadA tok79 rfl (F.ev rfl) (cs:=[.int .u8 (Xe4.kind),.string (str (Xe4.tag)),.string (str (Xe4.key)),.slice (tae4) (Xe4.as.length) (tce4),.string (str (Xe4.text)),.slice (kae4) (Xe4.kids.length) (kce4)]) rfl (M.cellsL (k:=0) rfl rfl)) rfl<|k_f (fun a F w _=>x_fa tok79.k rfl F rfl) rfl<|k_p (fun a F w M=>run_load1 (agf tok9 rfl) (F.ev rfl) (M.cellL (k:=0) rfl rfl)) rfl<|k_p (fun a F w M=>run_loadA tok262 rfl (F.ev rfl) (cs:=[.int .u64 (x.key),.int .u8 (x.typ),.string (str (x.text)),.slice (ma) (x.marks.length) (mc)]) rfl (M.cellsL (k:=1) rfl rfl)) rfl<|k_f (fun a F w _=>x_fa tok79.k rfl F rfl) rfl<|k_p (fun a F w M=>run_load1 (agf tok77 rfl) (F.ev rfl) (M.cellL (k:=0) rfl rfl)) rfl<|k_k rfl<|s_cR ent192 rfl rfl (ih Xe4 (List.mem_of_getElem? hXe4) _ _ _ _ _ _ _ _ M SM SKe4 (okP_len hOk) (okP_kids hOk))<|?_;clear M;rintro _ Gk8 w hGk8 M ⟨ak8,ck8,rfl,Sk8⟩
   replace SM:=SM.mono mono_rdStr hGk8
   replace S:=S.mono mono_rdP hGk8
   replace Ey:=Ey.mono mono_rdNE hGk8
   replace Ae4:=Ae4.mono hGk8
   replace SAe4:=SAe4.mono mono_rdSlot hGk8
   replace SKe4:=SKe4.mono mono_rdP hGk8
   refine e_nil<|eK (C':=Keep Gk8 [.blk b5 [.int .u8 (Xe4.kind),.string (str (Xe4.tag)),.string (str (Xe4.key)),.slice (tae4) (Xe4.as.length) (tce4),.string (str (Xe4.text)),.slice (kae4) (Xe4.kids.length) (kce4)] 79,.blk b1 [.int .u64 (x.key),.int .u8 (x.typ),.string (str (x.text)),.slice (ma) (x.marks.length) (mc)] 262]) (M.keep (Gle.refl _) (by simp)) (fun w h=>h.mono hGk8 (by simp))<|k_k rfl<|s_cR ent217 rfl rfl (melem_spec (x:=x) (p:=Xe4) (kk:=Xe4.key) (ks:=madesF x Xe4.kids) M ht SM hik hke4 hle4 SAe4 SKe4 (okP_slots hOk (by omega)) Sk8)<|?_;clear M;rintro _ Gm9 w hGm9 M ⟨am9,rfl,SAm9,SKm9⟩
   replace SM:=SM.mono mono_rdStr hGm9
   replace S:=S.mono mono_rdP hGm9
   replace Ey:=Ey.mono mono_rdNE hGm9
   replace Ae4:=Ae4.mono hGm9
   replace SAe4:=SAe4.mono mono_rdSlot hGm9
   replace SKe4:=SKe4.mono mono_rdP hGm9
   replace Sk8:=Sk8.mono mono_rdNE hGm9
   refine e_nil<|eK (C':=Keep Gm9 [.blk b5 [.int .u8 (Xe4.kind),.string (str (Xe4.tag)),.string (str (Xe4.key)),.slice (tae4) (Xe4.as.length) (tce4),.string (str (Xe4.text)),.slice (kae4) (Xe4.kids.length) (kce4)] 79,.blk b1 [.int .u64 (x.key),.int .u8 (x.typ),.string (str (x.text)),.slice (ma) (x.marks.length) (mc)] 262]) (M.keep (Gle.refl _) (by simp)) (fun w h=>h.mono hGm9 (by simp))<|k_k rfl<|fun a F=>?_
   refine rl_buildSlice1 F M tok191.k tok193 rfl rfl (cs:=[.int .u8 1,.string (str (Xe4.tag)),.string (str (Xe4.key)),.slice (am9) ((Xe4.as.map (attrF x)).length) ((Xe4.as.map (attrF x)).length),.string (str ([]:List UInt8)),.slice (ak8) ((madesF x Xe4.kids).length) ((madesF x Xe4.kids).length)]) rfl rfl (by simp [Value.oneCell']) (by decide) rfl ?_;clear F M a;intro v10 w a M F
   obtain ⟨av10,cv10,rfl,hlev10,hcmv10,hlv10⟩:=M.row_shape (k:=0) rfl
   revert a
   refine e_nil<|eK (C':=Keep Gm9 [.blk b5 [.int .u8 (Xe4.kind),.string (str (Xe4.tag)),.string (str (Xe4.key)),.slice (tae4) (Xe4.as.length) (tce4),.string (str (Xe4.text)),.slice (kae4) (Xe4.kids.length) (kce4)] 79,.blk b1 [.int .u64 (x.key),.int .u8 (x.typ),.string (str (x.text)),.slice (ma) (x.marks.length) (mc)] 262]) (M.keep (Gle.refl _) (by simp)) (fun w h=>h.mono (Gle.refl _) (by simp))<|?_
   have E11:Els rdNE 6 Gm9 [.int .u8 1,.string (str (Xe4.tag)),.string (str (Xe4.key)),.slice (am9) ((Xe4.as.map (attrF x)).length) ((Xe4.as.map (attrF x)).length),.string (str ([]:List UInt8)),.slice (ak8) ((madesF x Xe4.kids).length) ((madesF x Xe4.kids).length)] [(.mk 1 Xe4.tag Xe4.key (Xe4.as.map (attrF x)) [] (madesF x Xe4.kids):NT)]:=Els.one (rdNE_close (x:=(.mk 1 Xe4.tag Xe4.key (Xe4.as.map (attrF x)) [] (madesF x Xe4.kids):NT)) u8_1 ⟨hle4.1,(by first | assumption | exact hle4.2.1),Nat.zero_le _⟩ SAm9 SKm9) rfl
   refine k_k rfl<|fun a F=>?_
   refine rl_append_row F M (k:=2) (k2:=0) rfl rfl tok191.k tok193 rfl rfl (by decide) rfl rfl (by show _ * 104≤_;(try simp only [List.length_drop,List.length_take,List.length_append,List.length_cons,List.length_nil]);omega) (by (try simp only [List.length_drop,List.length_take,List.length_append,List.length_cons,List.length_nil]);omega) rfl ?_;clear F M a;intro v12 w a M F
   have Ev12:=Els.append Ey E11
   obtain ⟨av12,cv12,rfl,hlev12,hcmv12,hlv12⟩:=M.row_shape (k:=2) rfl
   revert a
   refine e_nil<|eK (C':=Keep Gm9 [.blk b5 [.int .u8 (Xe4.kind),.string (str (Xe4.tag)),.string (str (Xe4.key)),.slice (tae4) (Xe4.as.length) (tce4),.string (str (Xe4.text)),.slice (kae4) (Xe4.kids.length) (kce4)] 79,.blk b1 [.int .u64 (x.key),.int .u8 (x.typ),.string (str (x.text)),.slice (ma) (x.marks.length) (mc)] 262]) (M.keep (Gle.refl _) (by simp)) (fun w h=>h.mono (Gle.refl _) (by simp))<|k_f (fun a F w _=>x_as F rfl) rfl<|k_nil<|e_bn<|e_bn<|e_tn<|e_reg<|s_add rfl rfl<|s_mv rfl<|e_nil<|e_tn<|fun a F=>?_
   exact ⟨_,by omega,i+1,(av12),(ny+1),(cv12),(csy++([.int .u8 1,.string (str (Xe4.tag)),.string (str (Xe4.key)),.slice (am9) ((Xe4.as.map (attrF x)).length) ((Xe4.as.map (attrF x)).length),.string (str ([]:List UInt8)),.slice (ak8) ((madesF x Xe4.kids).length) ((madesF x Xe4.kids).length)])),rfl,Gm9,((hG2.trans hGk8).trans hGm9),F.to ⟨rfl,rfl,rfl,rfl,rfl,trivial⟩,(M.weaken (.cons _ (.cons _ (.cons_cons _ (.cons_cons _ (List.Sublist.refl _)))))),by omega,by rw [mades_snoc hXe4,made1 (by assumption),List.length_append,← hny];rfl,by rw [mades_snoc hXe4,made1 (by assumption)];exact Ev12⟩
  ·intro hc
   have h13b:=hc;clear hc
   have h13:¬ (Xe4.kind=1):=of_decide_eq_false h13b
   refine e_seq<|e_reg<|s_eq rfl rfl<|s_as rfl<|e_nil<|e_tn<|e_cond rfl ?_ ?_
   ·intro hc
    have h14b:=hc;clear hc
    have h14:Xe4.kind=2:=of_decide_eq_true h14b
    refine e_reg<|s_mv rfl<|s_fa tok79.k rfl rfl<|s_ld tok9 M 0 rfl rfl rfl rfl<|s_cS ent218 rfl rfl (mwords_spec (s:=Xe4.text) M)<|?_;clear M;rintro _ w M rfl
    intro a F
    refine rl_buildSlice1 F M tok191.k tok193 rfl rfl (cs:=[.int .u8 2,.string (str ([]:List UInt8)),.string (str ([]:List UInt8)),.slice none 0 0,.string (str (Xe4.text)),.slice none 0 0]) rfl rfl (by simp [Value.oneCell']) (by decide) rfl ?_;clear F M a;intro v15 w a M F
    obtain ⟨av15,cv15,rfl,hlev15,hcmv15,hlv15⟩:=M.row_shape (k:=0) rfl
    have E16:Els rdNE 6 G2 [.int .u8 2,.string (str ([]:List UInt8)),.string (str ([]:List UInt8)),.slice none 0 0,.string (str (Xe4.text)),.slice none 0 0] [(wordsN Xe4.text)]:=Els.one (rdNE_close (x:=(wordsN Xe4.text)) u8_2 ⟨Nat.zero_le _,Nat.zero_le _,(by first | assumption | exact hle4.2.2 | (have h_:=dec_len x.key.toNat (by omega);show (Lib.decDigits x.key.toNat).length≤_;omega))⟩ RdSl.nil RdSl.nil) rfl
    refine rl_append_row F M (k:=2) (k2:=0) rfl rfl tok191.k tok193 rfl rfl (by decide) rfl rfl (by show _ * 104≤_;(try simp only [List.length_drop,List.length_take,List.length_append,List.length_cons,List.length_nil]);omega) (by (try simp only [List.length_drop,List.length_take,List.length_append,List.length_cons,List.length_nil]);omega) rfl ?_;clear F M a;intro v17 w a M F
    have Ev17:=Els.append Ey E16
    obtain ⟨av17,cv17,rfl,hlev17,hcmv17,hlv17⟩:=M.row_shape (k:=2) rfl
    revert a
    refine s_as rfl<|e_nil<|e_bn<|e_bn<|e_tn<|e_reg<|s_add rfl rfl<|s_mv rfl<|e_nil<|e_tn<|fun a F=>?_
    exact ⟨_,by omega,i+1,(av17),(ny+1),(cv17),(csy++([.int .u8 2,.string (str ([]:List UInt8)),.string (str ([]:List UInt8)),.slice none 0 0,.string (str (Xe4.text)),.slice none 0 0])),rfl,G2,hG2,F.to ⟨rfl,rfl,rfl,rfl,rfl,trivial⟩,(M.weaken (.cons _ (.cons _ (.cons_cons _ (.cons_cons _ (List.Sublist.refl _)))))),by omega,by rw [mades_snoc hXe4,made2 (by assumption),List.length_append,← hny];rfl,by rw [mades_snoc hXe4,made2 (by assumption)];exact Ev17⟩
   ·intro hc
    have h18b:=hc;clear hc
    have h18:¬ (Xe4.kind=2):=of_decide_eq_false h18b
    refine e_seq<|e_reg<|s_eq rfl rfl<|s_as rfl<|e_nil<|e_tn<|e_cond rfl ?_ ?_
    ·intro hc
     have h19b:=hc;clear hc
     have h19:Xe4.kind=3:=of_decide_eq_true h19b
     refine e_reg<|s_mv rfl<|s_fa tok262.k rfl rfl<|s_fa tok26.k rfl rfl<|s_ld tok9 M 2 rfl rfl rfl rfl<|s_cS ent218 rfl rfl (mwords_spec (s:=x.text) M)<|?_;clear M;rintro _ w M rfl
     intro a F
     refine rl_buildSlice1 F M tok191.k tok193 rfl rfl (cs:=[.int .u8 2,.string (str ([]:List UInt8)),.string (str ([]:List UInt8)),.slice none 0 0,.string (str (x.text)),.slice none 0 0]) rfl rfl (by simp [Value.oneCell']) (by decide) rfl ?_;clear F M a;intro v20 w a M F
     obtain ⟨av20,cv20,rfl,hlev20,hcmv20,hlv20⟩:=M.row_shape (k:=0) rfl
     have E21:Els rdNE 6 G2 [.int .u8 2,.string (str ([]:List UInt8)),.string (str ([]:List UInt8)),.slice none 0 0,.string (str (x.text)),.slice none 0 0] [(wordsN x.text)]:=Els.one (rdNE_close (x:=(wordsN x.text)) u8_2 ⟨Nat.zero_le _,Nat.zero_le _,(by first | assumption | exact hle4.2.2 | (have h_:=dec_len x.key.toNat (by omega);show (Lib.decDigits x.key.toNat).length≤_;omega))⟩ RdSl.nil RdSl.nil) rfl
     refine rl_append_row F M (k:=2) (k2:=0) rfl rfl tok191.k tok193 rfl rfl (by decide) rfl rfl (by show _ * 104≤_;(try simp only [List.length_drop,List.length_take,List.length_append,List.length_cons,List.length_nil]);omega) (by (try simp only [List.length_drop,List.length_take,List.length_append,List.length_cons,List.length_nil]);omega) rfl ?_;clear F M a;intro v22 w a M F
     have Ev22:=Els.append Ey E21
     obtain ⟨av22,cv22,rfl,hlev22,hcmv22,hlv22⟩:=M.row_shape (k:=2) rfl
     revert a
     refine s_as rfl<|e_nil<|e_bn<|e_bn<|e_tn<|e_reg<|s_add rfl rfl<|s_mv rfl<|e_nil<|e_tn<|fun a F=>?_
     exact ⟨_,by omega,i+1,(av22),(ny+1),(cv22),(csy++([.int .u8 2,.string (str ([]:List UInt8)),.string (str ([]:List UInt8)),.slice none 0 0,.string (str (x.text)),.slice none 0 0])),rfl,G2,hG2,F.to ⟨rfl,rfl,rfl,rfl,rfl,trivial⟩,(M.weaken (.cons _ (.cons _ (.cons_cons _ (.cons_cons _ (List.Sublist.refl _)))))),by omega,by rw [mades_snoc hXe4,made3 (by assumption),List.length_append,← hny];rfl,by rw [mades_snoc hXe4,made3 (by assumption)];exact Ev22⟩
    ·intro hc
     have h23b:=hc;clear hc
     have h23:¬ (Xe4.kind=3):=of_decide_eq_false h23b
     refine e_seq<|e_reg<|s_eq rfl rfl<|s_as rfl<|e_nil<|e_tn<|e_cond rfl ?_ ?_
     ·intro hc
      have h24b:=hc;clear hc
      have h24:Xe4.kind=4:=of_decide_eq_true h24b
      refine e_reg<|s_mv rfl<|s_fa tok262.k rfl rfl<|s_fa tok26.k rfl rfl<|s_ld tok23 M 2 rfl rfl rfl rfl<|?_
      have hu25:(x.key:Int)=(((x.key).toNat:Nat):Int):=by omega
      intro a F
      rw [hu25] at F
      revert a
      refine s_cS ent219 rfl rfl (deci_spec (u:=(x.key).toNat) M (by omega))<|?_;clear M;rintro _ w M rfl
      refine s_cS ent218 rfl rfl (mwords_spec (s:=Lib.decDigits ((x.key).toNat)) M)<|?_;clear M;rintro _ w M rfl
      intro a F
      refine rl_buildSlice1 F M tok191.k tok193 rfl rfl (cs:=[.int .u8 2,.string (str ([]:List UInt8)),.string (str ([]:List UInt8)),.slice none 0 0,.string (str (Lib.decDigits ((x.key).toNat))),.slice none 0 0]) rfl rfl (by simp [Value.oneCell']) (by decide) rfl ?_;clear F M a;intro v26 w a M F
      obtain ⟨av26,cv26,rfl,hlev26,hcmv26,hlv26⟩:=M.row_shape (k:=0) rfl
      have E27:Els rdNE 6 G2 [.int .u8 2,.string (str ([]:List UInt8)),.string (str ([]:List UInt8)),.slice none 0 0,.string (str (Lib.decDigits ((x.key).toNat))),.slice none 0 0] [(wordsN (Lib.decDigits ((x.key).toNat)))]:=Els.one (rdNE_close (x:=(wordsN (Lib.decDigits ((x.key).toNat)))) u8_2 ⟨Nat.zero_le _,Nat.zero_le _,(by first | assumption | exact hle4.2.2 | (have h_:=dec_len x.key.toNat (by omega);show (Lib.decDigits x.key.toNat).length≤_;omega))⟩ RdSl.nil RdSl.nil) rfl
      refine rl_append_row F M (k:=2) (k2:=0) rfl rfl tok191.k tok193 rfl rfl (by decide) rfl rfl (by show _ * 104≤_;(try simp only [List.length_drop,List.length_take,List.length_append,List.length_cons,List.length_nil]);omega) (by (try simp only [List.length_drop,List.length_take,List.length_append,List.length_cons,List.length_nil]);omega) rfl ?_;clear F M a;intro v28 w a M F
      have Ev28:=Els.append Ey E27
      obtain ⟨av28,cv28,rfl,hlev28,hcmv28,hlv28⟩:=M.row_shape (k:=2) rfl
      revert a
      refine s_as rfl<|e_nil<|e_bn<|e_bn<|e_tn<|e_reg<|s_add rfl rfl<|s_mv rfl<|e_nil<|e_tn<|fun a F=>?_
      exact ⟨_,by omega,i+1,(av28),(ny+1),(cv28),(csy++([.int .u8 2,.string (str ([]:List UInt8)),.string (str ([]:List UInt8)),.slice none 0 0,.string (str (Lib.decDigits ((x.key).toNat))),.slice none 0 0])),rfl,G2,hG2,F.to ⟨rfl,rfl,rfl,rfl,rfl,trivial⟩,(M.weaken (.cons _ (.cons _ (.cons_cons _ (.cons_cons _ (List.Sublist.refl _)))))),by omega,by rw [mades_snoc hXe4,made4 (by assumption),List.length_append,← hny];rfl,by rw [mades_snoc hXe4,made4 (by assumption)];exact Ev28⟩
     ·intro hc
      have h29b:=hc;clear hc
      have h29:¬ (Xe4.kind=4):=of_decide_eq_false h29b
      refine e_seq<|e_reg<|s_eq rfl rfl<|s_as rfl<|e_nil<|e_tn<|e_cond rfl ?_ ?_
      ·intro hc
       have h30b:=hc;clear hc
       have h30:Xe4.kind=5:=of_decide_eq_true h30b
       refine e_seq<|e_reg<|s_fa tok262.k rfl rfl<|s_fa tok26.k rfl rfl<|s_ld tok24 M 2 rfl rfl rfl rfl<|s_ls tok24.k rfl<|s_mv rfl<|e_nil<|e_tn<|e_block<|fun a F=>w_loopN (fun m a' w'=>∃ (j:Nat),∃ (az:Option Addr),∃ (nz:Nat),∃ (cz:Nat),∃ (csz:List Value),m=x.marks.length - j∧∃ G31,Gle G2 G31∧Fits 82 a' [(2,.pointer (some ⟨b1,0,none⟩)),(7,.pointer (some ⟨b5,0,none⟩)),(10,.slice (pa) (ps.length) (pc)),(11,.int .i64 (((ps.length:Nat):Int))),(12,.int .i64 (((i:Nat):Int))),(63,.slice (ma) (x.marks.length) (mc)),(64,.int .i64 (((x.marks.length:Nat):Int))),(5,.slice (az) (nz) (cz)),(65,.int .i64 (((j:Nat):Int)))]∧Mem w0 G31 (.blk b5 [.int .u8 (Xe4.kind),.string (str (Xe4.tag)),.string (str (Xe4.key)),.slice (tae4) (Xe4.as.length) (tce4),.string (str (Xe4.text)),.slice (kae4) (Xe4.kids.length) (kce4)] 79::.row (.slice (az) (nz) (cz)) (nz) (csz) 193 6::.blk b1 [.int .u64 (x.key),.int .u8 (x.typ),.string (str (x.text)),.slice (ma) (x.marks.length) (mc)] 262::L) w'∧(j≤x.marks.length)∧(nz=(madesF x (ps.take i)++(x.marks.take j).map (eachN x Xe4.tag Xe4.as)).length)∧(Els rdNE 6 G31 csz (madesF x (ps.take i)++(x.marks.take j).map (eachN x Xe4.tag Xe4.as)))) _ ⟨0,(ay),(ny),(cy),(csy),rfl,G2,Gle.refl _,F.to ⟨rfl,rfl,rfl,rfl,rfl,rfl,rfl,rfl,rfl,trivial⟩,M,Nat.zero_le _,by simp [← hny],by simpa using Ey⟩ ?_
       clear F M
       rintro m a w ⟨j,az,nz,cz,csz,rfl,G31,hG31,F,M,hj,hnz,Ez⟩
       replace SM:=SM.mono mono_rdStr hG31
       replace S:=S.mono mono_rdP hG31
       replace Ae4:=Ae4.mono hG31
       replace SAe4:=SAe4.mono mono_rdSlot hG31
       replace SKe4:=SKe4.mono mono_rdP hG31
       revert a
       refine e_seq<|e_reg<|s_lt rfl rfl<|e_nil<|e_tn<|e_seq<|e_cond rfl ?_ ?_
       ·intro hc
        have h32b:=hc;clear hc
        have h32:((j:Nat):Int) < ((x.marks.length:Nat):Int):=of_decide_eq_true h32b
        refine e_skip<|e_tn<|e_seq<|e_block<|e_seq<|?_
        have hnz2:nz≤200:=by rw [hnz,List.length_append,List.length_map,List.length_take];omega
        refine e_reg<|?_
        obtain ⟨Xe33,hXe33⟩:=get_of_lt (xs:=x.marks) (i:=j) (by omega)
        obtain ⟨be33,oe33,_,Ie33,_,Ae33,⟨rfl,hsle33⟩⟩:=SM.at hXe33
        refine s_ix tok24.k tok9 Ie33 rfl rfl<|s_la tok9 M Ae33 0 rfl rfl (by omega) rfl<|s_as rfl<|e_nil<|e_tn<|fun a F=>w_plan2 [(.free,0),(.pure,1),(.pure,2),(.free,3),(.free,4),(.keep,5),(.keep,6),(.keep,7),(.keep,8),(.keep,9),(.free,10)] [] (Keep G31 [.blk b5 [.int .u8 (Xe4.kind),.string (str (Xe4.tag)),.string (str (Xe4.key)),.slice (tae4) (Xe4.as.length) (tce4),.string (str (Xe4.text)),.slice (kae4) (Xe4.kids.length) (kce4)] 79,.blk b1 [.int .u64 (x.key),.int .u8 (x.typ),.string (str (x.text)),.slice (ma) (x.marks.length) (mc)] 262]) rfl (by kernel_rfl) (fun c a d v w h=>by cases d <;> exact h) ((M.drew _).keep (Gle.refl _) (by simp)) ?_
        replace M:=M.drew (w.drawn+1)
        revert a
        refine k_f (fun a F w _=>x_mv F rfl) rfl<|k_p (fun a F w M=>run_loadA tok262 rfl (F.ev rfl) (cs:=[.int .u64 (x.key),.int .u8 (x.typ),.string (str (x.text)),.slice (ma) (x.marks.length) (mc)]) rfl (M.cellsL (k:=1) rfl rfl)) rfl<|k_p (fun a F w M=>run_loadA tok79 rfl (F.ev rfl) (cs:=[.int .u8 (Xe4.kind),.string (str (Xe4.tag)),.string (str (Xe4.key)),.slice (tae4) (Xe4.as.length) (tce4),.string (str (Xe4.text)),.slice (kae4) (Xe4.kids.length) (kce4)]) rfl (M.cellsL (k:=0) rfl rfl)) rfl<|k_f (fun a F w _=>x_mv F rfl) rfl<|k_f (fun a F w _=>x_mv F rfl) rfl<|k_k rfl<|s_cS ent218 rfl rfl (mwords_spec (s:=Xe33) M)<|?_;clear M;rintro _ w M rfl
        refine e_nil<|eK (C':=Keep G31 [.blk b5 [.int .u8 (Xe4.kind),.string (str (Xe4.tag)),.string (str (Xe4.key)),.slice (tae4) (Xe4.as.length) (tce4),.string (str (Xe4.text)),.slice (kae4) (Xe4.kids.length) (kce4)] 79,.blk b1 [.int .u64 (x.key),.int .u8 (x.typ),.string (str (x.text)),.slice (ma) (x.marks.length) (mc)] 262]) (M.keep (Gle.refl _) (by simp)) (fun w h=>h.mono (Gle.refl _) (by simp))<|k_k rfl<|fun a F=>?_
        refine rl_buildSlice1 F M tok191.k tok193 rfl rfl (cs:=[.int .u8 2,.string (str ([]:List UInt8)),.string (str ([]:List UInt8)),.slice none 0 0,.string (str (Xe33)),.slice none 0 0]) rfl rfl (by simp [Value.oneCell']) (by decide) rfl ?_;clear F M a;intro v34 w a M F
        obtain ⟨av34,cv34,rfl,hlev34,hcmv34,hlv34⟩:=M.row_shape (k:=0) rfl
        revert a
        refine e_nil<|eK (C':=Keep G31 [.blk b5 [.int .u8 (Xe4.kind),.string (str (Xe4.tag)),.string (str (Xe4.key)),.slice (tae4) (Xe4.as.length) (tce4),.string (str (Xe4.text)),.slice (kae4) (Xe4.kids.length) (kce4)] 79,.blk b1 [.int .u64 (x.key),.int .u8 (x.typ),.string (str (x.text)),.slice (ma) (x.marks.length) (mc)] 262]) (M.keep (Gle.refl _) (by simp)) (fun w h=>h.mono (Gle.refl _) (by simp))<|?_
        have E35:Els rdNE 6 G31 [.int .u8 2,.string (str ([]:List UInt8)),.string (str ([]:List UInt8)),.slice none 0 0,.string (str (Xe33)),.slice none 0 0] [(wordsN Xe33)]:=Els.one (rdNE_close (x:=(wordsN Xe33)) u8_2 ⟨Nat.zero_le _,Nat.zero_le _,(by first | assumption | exact hle4.2.2 | (have h_:=dec_len x.key.toNat (by omega);show (Lib.decDigits x.key.toNat).length≤_;omega))⟩ RdSl.nil RdSl.nil) rfl
        obtain ⟨hnz36,Gz36,az36,cz36,hGz36,hez36,Sz36,M⟩:=M.freeze_row mono_rdNE (k:=0) rfl E35 (by decide)
        clear hez36 az36 cz36
        replace SM:=SM.mono mono_rdStr hGz36
        replace S:=S.mono mono_rdP hGz36
        replace Ae4:=Ae4.mono hGz36
        replace SAe4:=SAe4.mono mono_rdSlot hGz36
        replace SKe4:=SKe4.mono mono_rdP hGz36
        replace Ez:=Ez.mono mono_rdNE hGz36
        replace Ae33:=Ae33.mono hGz36
        clear hnz36
        replace Sz36:RdSl rdNE 6 Gz36 (.slice (av34) ([(wordsN Xe33)]).length (cv34)) ([(wordsN Xe33)]):=Sz36
        refine k_k rfl<|s_cR ent217 rfl rfl (melem_spec (x:=x) (p:=Xe4) (kk:=Xe33) (ks:=[(wordsN Xe33)]) M ht SM hik hke4 hle4 SAe4 SKe4 (okP_slots hOk (by omega)) Sz36)<|?_;clear M;rintro _ Gm37 w hGm37 M ⟨am37,rfl,SAm37,SKm37⟩
        replace SM:=SM.mono mono_rdStr hGm37
        replace S:=S.mono mono_rdP hGm37
        replace Ae4:=Ae4.mono hGm37
        replace SAe4:=SAe4.mono mono_rdSlot hGm37
        replace SKe4:=SKe4.mono mono_rdP hGm37
        replace Ez:=Ez.mono mono_rdNE hGm37
        replace Ae33:=Ae33.mono hGm37
        replace Sz36:=Sz36.mono mono_rdNE hGm37
        refine e_nil<|eK (C':=Keep Gm37 [.blk b5 [.int .u8 (Xe4.kind),.string (str (Xe4.tag)),.string (str (Xe4.key)),.slice (tae4) (Xe4.as.length) (tce4),.string (str (Xe4.text)),.slice (kae4) (Xe4.kids.length) (kce4)] 79,.blk b1 [.int .u64 (x.key),.int .u8 (x.typ),.string (str (x.text)),.slice (ma) (x.marks.length) (mc)] 262]) (M.keep (Gle.refl _) (by simp)) (fun w h=>h.mono (hGz36.trans hGm37) (by simp))<|k_k rfl<|fun a F=>?_
        refine rl_buildSlice1 F M tok191.k tok193 rfl rfl (cs:=[.int .u8 1,.string (str (Xe4.tag)),.string (str (Xe33)),.slice (am37) ((Xe4.as.map (attrF x)).length) ((Xe4.as.map (attrF x)).length),.string (str ([]:List UInt8)),.slice (av34) (([(wordsN Xe33)]).length) (([(wordsN Xe33)]).length)]) rfl rfl (by simp [Value.oneCell']) (by decide) rfl ?_;clear F M a;intro v38 w a M F
        obtain ⟨av38,cv38,rfl,hlev38,hcmv38,hlv38⟩:=M.row_shape (k:=0) rfl
        revert a
        refine e_nil<|eK (C':=Keep Gm37 [.blk b5 [.int .u8 (Xe4.kind),.string (str (Xe4.tag)),.string (str (Xe4.key)),.slice (tae4) (Xe4.as.length) (tce4),.string (str (Xe4.text)),.slice (kae4) (Xe4.kids.length) (kce4)] 79,.blk b1 [.int .u64 (x.key),.int .u8 (x.typ),.string (str (x.text)),.slice (ma) (x.marks.length) (mc)] 262]) (M.keep (Gle.refl _) (by simp)) (fun w h=>h.mono (Gle.refl _) (by simp))<|?_
        have E39:Els rdNE 6 Gm37 [.int .u8 1,.string (str (Xe4.tag)),.string (str (Xe33)),.slice (am37) ((Xe4.as.map (attrF x)).length) ((Xe4.as.map (attrF x)).length),.string (str ([]:List UInt8)),.slice (av34) (([(wordsN Xe33)]).length) (([(wordsN Xe33)]).length)] [(.mk 1 Xe4.tag Xe33 (Xe4.as.map (attrF x)) [] ([(wordsN Xe33)]):NT)]:=Els.one (rdNE_close (x:=(.mk 1 Xe4.tag Xe33 (Xe4.as.map (attrF x)) [] ([(wordsN Xe33)]):NT)) u8_1 ⟨hle4.1,(by first | assumption | exact hle4.2.1),Nat.zero_le _⟩ SAm37 SKm37) rfl
        refine k_k rfl<|fun a F=>?_
        refine rl_append_row F M (k:=2) (k2:=0) rfl rfl tok191.k tok193 rfl rfl (by decide) rfl rfl (by show _ * 104≤_;(try simp only [List.length_drop,List.length_take,List.length_append,List.length_cons,List.length_nil]);omega) (by (try simp only [List.length_drop,List.length_take,List.length_append,List.length_cons,List.length_nil]);omega) rfl ?_;clear F M a;intro v40 w a M F
        have Ev40:=Els.append Ez E39
        obtain ⟨av40,cv40,rfl,hlev40,hcmv40,hlv40⟩:=M.row_shape (k:=2) rfl
        revert a
        refine e_nil<|eK (C':=Keep Gm37 [.blk b5 [.int .u8 (Xe4.kind),.string (str (Xe4.tag)),.string (str (Xe4.key)),.slice (tae4) (Xe4.as.length) (tce4),.string (str (Xe4.text)),.slice (kae4) (Xe4.kids.length) (kce4)] 79,.blk b1 [.int .u64 (x.key),.int .u8 (x.typ),.string (str (x.text)),.slice (ma) (x.marks.length) (mc)] 262]) (M.keep (Gle.refl _) (by simp)) (fun w h=>h.mono (Gle.refl _) (by simp))<|k_f (fun a F w _=>x_as F rfl) rfl<|k_nil<|e_bn<|e_tn<|e_reg<|s_add rfl rfl<|s_mv rfl<|e_nil<|e_tn<|fun a F=>?_
        exact ⟨_,by omega,j+1,(av40),(nz+1),(cv40),(csz++([.int .u8 1,.string (str (Xe4.tag)),.string (str (Xe33)),.slice (am37) ((Xe4.as.map (attrF x)).length) ((Xe4.as.map (attrF x)).length),.string (str ([]:List UInt8)),.slice (av34) (([(wordsN Xe33)]).length) (([(wordsN Xe33)]).length)])),rfl,Gm37,((hG31.trans hGz36).trans hGm37),F.to ⟨rfl,rfl,rfl,rfl,rfl,rfl,rfl,rfl,rfl,trivial⟩,(M.weaken (.cons _ (.cons_cons _ (.cons_cons _ (.cons_cons _ (List.Sublist.refl _)))))),by omega,by rw [each_snoc hXe33,← List.append_assoc,List.length_append,← hnz];rfl,by rw [each_snoc hXe33,← List.append_assoc];exact Ev40⟩
       ·intro hc
        have h41b:=hc;clear hc
        have h41:¬ (((j:Nat):Int) < ((x.marks.length:Nat):Int)):=of_decide_eq_false h41b
        refine e_exit<|e_te<|e_te<|e_bh<|e_bn<|e_bn<|e_tn<|e_reg<|s_add rfl rfl<|s_mv rfl<|e_nil<|e_tn<|fun a F=>?_
        exact ⟨_,by omega,i+1,(az),(nz),(cz),(csz),rfl,G31,(hG2.trans hG31),F.to ⟨rfl,rfl,rfl,rfl,rfl,trivial⟩,(M.weaken (.cons _ (.cons_cons _ (.cons_cons _ (List.Sublist.refl _))))),by omega,by rw [mades_snoc hXe4,made5 (by assumption)];rw [List.take_of_length_le (l:=x.marks) (by omega)] at hnz;exact hnz,by rw [mades_snoc hXe4,made5 (by assumption)];rw [List.take_of_length_le (l:=x.marks) (by omega)] at Ez;exact Ez⟩
      ·intro hc
       have h42b:=hc;clear hc
       have h42:¬ (Xe4.kind=5):=of_decide_eq_false h42b
       refine e_skip<|e_bn<|e_bn<|e_tn<|e_reg<|s_add rfl rfl<|s_mv rfl<|e_nil<|e_tn<|fun a F=>?_
       exact ⟨_,by omega,i+1,(ay),(ny),(cy),(csy),rfl,G2,hG2,F.to ⟨rfl,rfl,rfl,rfl,rfl,trivial⟩,(M.weaken (.cons _ (.cons_cons _ (.cons_cons _ (List.Sublist.refl _))))),by omega,by rw [mades_snoc hXe4,made0 (by assumption) (by assumption) (by assumption) (by assumption) (by assumption),List.append_nil];exact hny,by rw [mades_snoc hXe4,made0 (by assumption) (by assumption) (by assumption) (by assumption) (by assumption),List.append_nil];exact Ey⟩
 ·intro hc
  have h43b:=hc;clear hc
  have h43:¬ (((i:Nat):Int) < ((ps.length:Nat):Int)):=of_decide_eq_false h43b
  refine e_exit<|e_te<|e_te<|e_bh<|e_tn<|e_seq<|e_reg<|s_mv rfl<|s_as rfl<|e_nil<|e_tn<|e_ret<|e_fin1 rfl rfl<|?_
  rw [List.take_of_length_le (by omega)] at hny Ey
  obtain ⟨hnz44,Gz44,az44,cz44,hGz44,hez44,Sz44,M⟩:=M.freeze_row mono_rdNE (k:=0) rfl Ey (by decide)
  clear hez44 az44 cz44
  exact ⟨Gz44,(hG2.trans hGz44),M.weaken (.cons _ (List.Sublist.refl _)),_,_,by rw [hny],by have h_:=Sz44;rw [hny] at h_;exact h_⟩
theorem mmake_all {x:ItemD} (hik:inKind .u64 x.key) (hio:ItemOk x) (ht:x.text.length≤9223372036854775807) (ps:List PT):MakeQ x ps:=by
 suffices h:∀ n (ps:List PT),Tr.sizes ps≤n→MakeQ x ps from h _ ps (Nat.le_refl _)
 intro n
 induction n with
 | zero=>intro ps hn w0 w G L ma pa mc pc M SM S hps hok;exact mmake_step hik hio ht (fun p hp=>by have:=sizes_kids_lt hp;omega) M SM S hps hok
 | succ n ih=>intro ps hn w0 w G L ma pa mc pc M SM S hps hok;exact mmake_step hik hio ht (fun p hp=>ih _ (by have:=sizes_kids_lt hp;omega)) M SM S hps hok
open Go Go.Y Go.Proofs
set_option linter.unusedSimpArgs false
set_option linter.unusedVariables false
theorem trender_spec {w0 w:World} {G:Ghost} {L:List Res} (M:Mem w0 G L w) {p:PT} {tap:Option Addr} {tcp:Nat} {kap:Option Addr} {kcp:Nat} (hkp:inKind .u8 p.kind) (hlp:(p.tag.length≤9223372036854775807∧p.key.length≤9223372036854775807∧p.text.length≤9223372036854775807)) (SAp:RdSl rdSlot 3 G (.slice tap p.as.length tcp) p.as) (SKp:RdSl rdP 6 G (.slice kap p.kids.length kcp) p.kids) {x:ItemD} {ma:Option Addr} {mc:Nat} (ht:x.text.length≤9223372036854775807) (SM:RdSl rdStr 1 G (.slice ma x.marks.length mc) x.marks) (hik:inKind .u64 x.key) {most:Int}:Calls Tryz.prog 157 #[.agg #[.int .u8 (p.kind),.string (str (p.tag)),.string (str (p.key)),.slice (tap) (p.as.length) (tcp),.string (str (p.text)),.slice (kap) (p.kids.length) (kcp)],.agg #[.int .u64 (x.key),.int .u8 (x.typ),.string (str (x.text)),.slice (ma) (x.marks.length) (mc)],.int .i64 most] w (Ret w0 G L fun G' v=>∃ a1 a2,v=.tuple #[.agg #[.int .u8 (rendN p x most).kind,.string (str (rendN p x most).tag),.string (str (rendN p x most).key),.slice a1 (rendN p x most).as.length (rendN p x most).as.length,.string (str (rendN p x most).text),.slice a2 (rendN p x most).kids.length (rendN p x most).kids.length],.int .i64 (rendE p x most)]∧RdSl rdAttr 2 G' (.slice a1 (rendN p x most).as.length (rendN p x most).as.length) (rendN p x most).as∧RdSl rdNE 6 G' (.slice a2 (rendN p x most).kids.length (rendN p x most).kids.length) (rendN p x most).kids):=by
 refine e_start (vs:=[_,_,_]) Tryz.func157 rfl (n:=49) rfl rfl<|e_seq<|e_reg<|s_bx M rfl rfl rfl<|?_;clear M;intro b1 w M
 refine s_bx M rfl rfl rfl<|?_;clear M;intro b2 w M
 refine s_al M tok193 rfl rfl<|?_;clear M;intro b3 w M
 refine s_as rfl<|e_nil<|e_tn<|e_seq<|e_seq<|e_reg<|s_mv rfl<|s_lt rfl rfl<|s_mv rfl<|?_
 rcases Bool.eq_false_or_eq_true (decide (most < 1)) with hc | hc
 ·skip
  have h5b:=hc;clear hc
  have h5:most < 1:=of_decide_eq_true h5b
  refine g_f rfl h5b<|g_f rfl h5b<|s_pt rfl h5b rfl<|e_nil<|e_tn<|e_cond_t rfl rfl<|e_seq<|e_reg<|e_run (fun a F=>run_buildS (cs:=[.int .u8 0,.string (str ([]:List UInt8)),.string (str ([]:List UInt8)),.slice none 0 0,.string (str ([]:List UInt8)),.slice none 0 0]) (ps:=[]) tok193.k rfl tok193 (F.evp rfl) rfl) rfl<|fun a F=>?_
  refine rl_storeA F M tok193 (k:=0) rfl rfl rfl (us:=[.int .u8 0,.string (str ([]:List UInt8)),.string (str ([]:List UInt8)),.slice none 0 0,.string (str ([]:List UInt8)),.slice none 0 0]) rfl rfl (by simp [Value.oneCell']) (by simp) ?_;clear F M a;intro w a M F
  change Mem w0 G (.blk b3 [.int .u8 0,.string (str ([]:List UInt8)),.string (str ([]:List UInt8)),.slice none 0 0,.string (str ([]:List UInt8)),.slice none 0 0] 193::_::_::L) _ at M
  revert a
  refine s_as rfl<|e_nil<|e_tn<|e_ret<|e_tr<|fun a F=>fin_ct F M (k:=0) rfl rfl tok193 rfl rfl rfl rfl ?_
  have hE:rendE p x most=1:=rend_arg (by omega)
  have hN:rendN p x most=zeroN:=rendN_no (by rw [hE];(first | decide | omega))
  exact ⟨_,(Gle.refl _),(M.weaken (.cons _ (.cons _ (.cons _ (List.Sublist.refl _))))),none,none,by rw [hE,hN];rfl,by rw [hN];exact RdSl.nil,by rw [hN];exact RdSl.nil⟩
 ·skip
  have h6b:=hc;clear hc
  have h6:¬ (most < 1):=of_decide_eq_false h6b
  refine g_t rfl h6b<|s_mv rfl<|g_t rfl h6b<|s_gt rfl rfl<|s_pf rfl h6b rfl<|e_nil<|e_tn<|e_cond rfl ?_ ?_
  ·intro hc
   have h7b:=hc;clear hc
   have h7:64 < most:=of_decide_eq_true h7b
   refine e_seq<|e_reg<|e_run (fun a F=>run_buildS (cs:=[.int .u8 0,.string (str ([]:List UInt8)),.string (str ([]:List UInt8)),.slice none 0 0,.string (str ([]:List UInt8)),.slice none 0 0]) (ps:=[]) tok193.k rfl tok193 (F.evp rfl) rfl) rfl<|fun a F=>?_
   refine rl_storeA F M tok193 (k:=0) rfl rfl rfl (us:=[.int .u8 0,.string (str ([]:List UInt8)),.string (str ([]:List UInt8)),.slice none 0 0,.string (str ([]:List UInt8)),.slice none 0 0]) rfl rfl (by simp [Value.oneCell']) (by simp) ?_;clear F M a;intro w a M F
   change Mem w0 G (.blk b3 [.int .u8 0,.string (str ([]:List UInt8)),.string (str ([]:List UInt8)),.slice none 0 0,.string (str ([]:List UInt8)),.slice none 0 0] 193::_::_::L) _ at M
   revert a
   refine s_as rfl<|e_nil<|e_tn<|e_ret<|e_tr<|fun a F=>fin_ct F M (k:=0) rfl rfl tok193 rfl rfl rfl rfl ?_
   have hE:rendE p x most=1:=rend_arg (by omega)
   have hN:rendN p x most=zeroN:=rendN_no (by rw [hE];(first | decide | omega))
   exact ⟨_,(Gle.refl _),(M.weaken (.cons _ (.cons _ (.cons _ (List.Sublist.refl _))))),none,none,by rw [hE,hN];rfl,by rw [hN];exact RdSl.nil,by rw [hN];exact RdSl.nil⟩
  ·intro hc
   have h8b:=hc;clear hc
   have h8:¬ (64 < most):=of_decide_eq_false h8b
   refine e_skip<|e_tn<|e_seq<|e_seq<|e_reg<|e_run (fun a F=>run_loadA tok79 rfl (F.ev rfl) (cs:=[.int .u8 (p.kind),.string (str (p.tag)),.string (str (p.key)),.slice (tap) (p.as.length) (tcp),.string (str (p.text)),.slice (kap) (p.kids.length) (kcp)]) rfl (M.cellsL (k:=2) rfl rfl)) rfl<|s_cS ent155 rfl rfl (tcheck_spec (x:=p) M hkp hlp SAp SKp)<|?_;clear M;rintro _ w M rfl
   refine s_as rfl<|e_nil<|e_tn<|e_seq<|e_reg<|s_mv rfl<|s_ne rfl rfl<|e_nil<|e_tn<|e_cond rfl ?_ ?_
   ·intro hc
    have h9b:=hc;clear hc
    have h9:¬ (chkP p=0):=of_decide_eq_false (of_not_t h9b)
    have h9c:(decide (chkP p=0))=false:=(of_not_t h9b)
    have hV:¬ ValidP p:=fun h_=>by have:=chkP_zero.2 h_;omega
    refine e_seq<|e_reg<|e_run (fun a F=>run_buildS (cs:=[.int .u8 0,.string (str ([]:List UInt8)),.string (str ([]:List UInt8)),.slice none 0 0,.string (str ([]:List UInt8)),.slice none 0 0]) (ps:=[]) tok193.k rfl tok193 (F.evp rfl) rfl) rfl<|s_mv rfl<|fun a F=>?_
    refine rl_storeA F M tok193 (k:=0) rfl rfl rfl (us:=[.int .u8 0,.string (str ([]:List UInt8)),.string (str ([]:List UInt8)),.slice none 0 0,.string (str ([]:List UInt8)),.slice none 0 0]) rfl rfl (by simp [Value.oneCell']) (by simp) ?_;clear F M a;intro w a M F
    change Mem w0 G (.blk b3 [.int .u8 0,.string (str ([]:List UInt8)),.string (str ([]:List UInt8)),.slice none 0 0,.string (str ([]:List UInt8)),.slice none 0 0] 193::_::_::L) _ at M
    revert a
    refine s_as rfl<|e_nil<|e_tn<|e_ret<|e_tr<|fun a F=>fin_ct F M (k:=0) rfl rfl tok193 rfl rfl rfl rfl ?_
    have hE:rendE p x most=chkP p:=by rw [chkP_no hV];exact rend_tree (by omega) hV
    have hN:rendN p x most=zeroN:=rendN_no (by rw [hE];(first | decide | omega))
    exact ⟨_,(Gle.refl _),(M.weaken (.cons _ (.cons _ (.cons _ (List.Sublist.refl _))))),none,none,by rw [hE,hN];rfl,by rw [hN];exact RdSl.nil,by rw [hN];exact RdSl.nil⟩
   ·intro hc
    have h10b:=hc;clear hc
    have h10:chkP p=0:=of_decide_eq_true (of_not_f h10b)
    have h10c:(decide (chkP p=0))=true:=(of_not_f h10b)
    have hV:ValidP p:=chkP_zero.1 (by omega)
    refine e_skip<|e_tn<|e_seq<|e_seq<|e_reg<|e_run (fun a F=>run_loadA tok26 rfl (F.ev rfl) (cs:=[.int .u64 (x.key),.int .u8 (x.typ),.string (str (x.text)),.slice (ma) (x.marks.length) (mc)]) rfl (M.cellsL (k:=1) rfl rfl)) rfl<|s_cS ent191 rfl rfl (checkitem_spec (x:=x) M ht SM)<|?_;clear M;rintro _ w M rfl
    refine s_as rfl<|e_nil<|e_tn<|e_seq<|e_reg<|s_mv rfl<|s_ne rfl rfl<|e_nil<|e_tn<|e_cond rfl ?_ ?_
    ·intro hc
     have h11b:=hc;clear hc
     have h11:¬ (itmF x=0):=of_decide_eq_false (of_not_t h11b)
     have h11c:(decide (itmF x=0))=false:=(of_not_t h11b)
     have hio:¬ ItemOk x:=fun h_=>by have:=itmF_zero.2 h_;omega
     refine e_seq<|e_reg<|e_run (fun a F=>run_buildS (cs:=[.int .u8 0,.string (str ([]:List UInt8)),.string (str ([]:List UInt8)),.slice none 0 0,.string (str ([]:List UInt8)),.slice none 0 0]) (ps:=[]) tok193.k rfl tok193 (F.evp rfl) rfl) rfl<|s_mv rfl<|fun a F=>?_
     refine rl_storeA F M tok193 (k:=0) rfl rfl rfl (us:=[.int .u8 0,.string (str ([]:List UInt8)),.string (str ([]:List UInt8)),.slice none 0 0,.string (str ([]:List UInt8)),.slice none 0 0]) rfl rfl (by simp [Value.oneCell']) (by simp) ?_;clear F M a;intro w a M F
     change Mem w0 G (.blk b3 [.int .u8 0,.string (str ([]:List UInt8)),.string (str ([]:List UInt8)),.slice none 0 0,.string (str ([]:List UInt8)),.slice none 0 0] 193::_::_::L) _ at M
     revert a
     refine s_as rfl<|e_nil<|e_tn<|e_ret<|e_tr<|fun a F=>fin_ct F M (k:=0) rfl rfl tok193 rfl rfl rfl rfl ?_
     have hE:rendE p x most=itmF x:=by rw [itmF_no hio];exact rend_item (by omega) hV hio
     have hN:rendN p x most=zeroN:=rendN_no (by rw [hE];(first | decide | omega))
     exact ⟨_,(Gle.refl _),(M.weaken (.cons _ (.cons _ (.cons _ (List.Sublist.refl _))))),none,none,by rw [hE,hN];rfl,by rw [hN];exact RdSl.nil,by rw [hN];exact RdSl.nil⟩
    ·intro hc
     have h12b:=hc;clear hc
     have h12:itmF x=0:=of_decide_eq_true (of_not_f h12b)
     have h12c:(decide (itmF x=0))=true:=(of_not_f h12b)
     have hio:ItemOk x:=itmF_zero.1 (by omega)
     refine e_skip<|e_tn<|e_seq<|e_reg<|e_run (fun a F=>run_loadA tok26 rfl (F.ev rfl) (cs:=[.int .u64 (x.key),.int .u8 (x.typ),.string (str (x.text)),.slice (ma) (x.marks.length) (mc)]) rfl (M.cellsL (k:=1) rfl rfl)) rfl<|e_run (fun a F=>run_buildS (cs:=[.int .u64 (x.key),.int .u8 (x.typ),.string (str (x.text)),.slice (ma) (x.marks.length) (mc)]) (ps:=[(0,.agg #[.int .u64 (x.key),.int .u8 (x.typ),.string (str (x.text)),.slice (ma) (x.marks.length) (mc)])]) tok262.k rfl tok262 (F.evp rfl) rfl) rfl<|e_run (fun a F=>run_loadA tok79 rfl (F.ev rfl) (cs:=[.int .u8 (p.kind),.string (str (p.tag)),.string (str (p.key)),.slice (tap) (p.as.length) (tcp),.string (str (p.text)),.slice (kap) (p.kids.length) (kcp)]) rfl (M.cellsL (k:=2) rfl rfl)) rfl<|fun a F=>?_
     refine rl_buildSlice1 F M tok77.k tok79 rfl rfl (cs:=[.int .u8 (p.kind),.string (str (p.tag)),.string (str (p.key)),.slice (tap) (p.as.length) (tcp),.string (str (p.text)),.slice (kap) (p.kids.length) (kcp)]) rfl rfl (by simp [Value.oneCell']) (by decide) rfl ?_;clear F M a;intro v13 w a M F
     obtain ⟨av13,cv13,rfl,hlev13,hcmv13,hlv13⟩:=M.row_shape (k:=0) rfl
     have E14:Els rdP 6 G [.int .u8 (p.kind),.string (str (p.tag)),.string (str (p.key)),.slice (tap) (p.as.length) (tcp),.string (str (p.text)),.slice (kap) (p.kids.length) (kcp)] [p]:=Els.one (rdT_close (x:=p) hkp hlp SAp SKp) rfl
     obtain ⟨hnz15,Gz15,az15,cz15,hGz15,hez15,Sz15,M⟩:=M.freeze_row mono_rdP (k:=0) rfl E14 (by decide)
     clear hez15 az15 cz15
     replace SAp:=SAp.mono mono_rdSlot hGz15
     replace SKp:=SKp.mono mono_rdP hGz15
     replace SM:=SM.mono mono_rdStr hGz15
     clear hnz15
     replace Sz15:RdSl rdP 6 Gz15 (.slice (av13) ([p]).length (cv13)) ([p]):=Sz15
     revert a
     refine s_cR ent192 rfl rfl (mmake_all hik hio ht [p] _ _ _ _ _ _ _ _ M SM Sz15 (by simp) (fun q hq=>by rw [List.mem_singleton] at hq;subst hq;exact validP_elem hV))<|?_;clear M;rintro _ Gk16 w hGk16 M ⟨ak16,ck16,rfl,Sk16⟩
     replace SAp:=SAp.mono mono_rdSlot hGk16
     replace SKp:=SKp.mono mono_rdP hGk16
     replace SM:=SM.mono mono_rdStr hGk16
     replace Sz15:=Sz15.mono mono_rdP hGk16
     have hN1:(madesF x [p])[0]?=some (node1 x p):=by rw [mades_one hV.1];rfl
     obtain ⟨be17,oe17,_,Ie17,_,Ae17,hTe17⟩:=Sk16.at hN1
     obtain ⟨tae17,kae17,rfl,hke17,hle17,SAe17,SKe17⟩:=rdNE_open hTe17
     refine s_ix tok191.k tok193 Ie17 rfl rfl<|e_run (fun a F=>run_loadA tok193 rfl (F.ev rfl) (cs:=[.int .u8 ((node1 x p).kind),.string (str ((node1 x p).tag)),.string (str ((node1 x p).key)),.slice (tae17) ((node1 x p).as.length) ((node1 x p).as.length),.string (str ((node1 x p).text)),.slice (kae17) ((node1 x p).kids.length) ((node1 x p).kids.length)]) rfl (M.cellsA Ae17 0 (by omega) rfl)) rfl<|s_al M tok193 rfl rfl<|?_;clear M;intro b18 w M
     intro a F
     refine rl_storeA F M tok193 (k:=0) rfl rfl rfl (us:=[.int .u8 ((node1 x p).kind),.string (str ((node1 x p).tag)),.string (str ((node1 x p).key)),.slice (tae17) ((node1 x p).as.length) ((node1 x p).as.length),.string (str ((node1 x p).text)),.slice (kae17) ((node1 x p).kids.length) ((node1 x p).kids.length)]) rfl rfl (by simp [Value.oneCell']) (by simp) ?_;clear F M a;intro w a M F
     change Mem w0 Gk16 (.blk b18 [.int .u8 ((node1 x p).kind),.string (str ((node1 x p).tag)),.string (str ((node1 x p).key)),.slice (tae17) ((node1 x p).as.length) ((node1 x p).as.length),.string (str ((node1 x p).text)),.slice (kae17) ((node1 x p).kids.length) ((node1 x p).kids.length)] 193::_::_::_::L) _ at M
     revert a
     refine e_nil<|e_tn<|e_seq<|e_seq<|e_reg<|e_run (fun a F=>run_loadA tok193 rfl (F.ev rfl) (cs:=[.int .u8 ((node1 x p).kind),.string (str ((node1 x p).tag)),.string (str ((node1 x p).key)),.slice (tae17) ((node1 x p).as.length) ((node1 x p).as.length),.string (str ((node1 x p).text)),.slice (kae17) ((node1 x p).kids.length) ((node1 x p).kids.length)]) rfl (M.cellsL (k:=0) rfl rfl)) rfl<|s_cS ent193 rfl rfl (ncount_spec (x:=(node1 x p)) M hke17 hle17 SAe17 (weakN SKe17))<|?_;clear M;rintro _ w M rfl
     refine s_as rfl<|e_nil<|e_tn<|e_seq<|e_reg<|s_mv rfl<|s_eq rfl rfl<|s_mv rfl<|?_
     rcases Bool.eq_false_or_eq_true (decide (((cntF (node1 x p):Nat):Int)=0)) with hc | hc
     ·skip
      have h20b:=hc;clear hc
      have h20:((cntF (node1 x p):Nat):Int)=0:=of_decide_eq_true h20b
      refine g_f rfl h20b<|g_f rfl h20b<|g_f rfl h20b<|s_pt rfl h20b rfl<|e_nil<|e_tn<|e_cond_t rfl rfl<|e_seq<|e_reg<|e_run (fun a F=>run_buildS (cs:=[.int .u8 0,.string (str ([]:List UInt8)),.string (str ([]:List UInt8)),.slice none 0 0,.string (str ([]:List UInt8)),.slice none 0 0]) (ps:=[]) tok193.k rfl tok193 (F.evp rfl) rfl) rfl<|fun a F=>?_
      refine rl_storeA F M tok193 (k:=1) rfl rfl rfl (us:=[.int .u8 0,.string (str ([]:List UInt8)),.string (str ([]:List UInt8)),.slice none 0 0,.string (str ([]:List UInt8)),.slice none 0 0]) rfl rfl (by simp [Value.oneCell']) (by simp) ?_;clear F M a;intro w a M F
      change Mem w0 Gk16 (.blk b18 [.int .u8 ((node1 x p).kind),.string (str ((node1 x p).tag)),.string (str ((node1 x p).key)),.slice (tae17) ((node1 x p).as.length) ((node1 x p).as.length),.string (str ((node1 x p).text)),.slice (kae17) ((node1 x p).kids.length) ((node1 x p).kids.length)] 193::.blk b3 [.int .u8 0,.string (str ([]:List UInt8)),.string (str ([]:List UInt8)),.slice none 0 0,.string (str ([]:List UInt8)),.slice none 0 0] 193::_::_::L) _ at M
      revert a
      refine s_as rfl<|e_nil<|e_tn<|e_ret<|e_tr<|fun a F=>fin_ct F M (k:=1) rfl rfl tok193 rfl rfl rfl rfl ?_
      have hE:rendE p x most=14:=rend_many (by omega) hV hio (by omega)
      have hN:rendN p x most=zeroN:=rendN_no (by rw [hE];(first | decide | omega))
      exact ⟨_,(hGz15.trans hGk16),(M.weaken (.cons _ (.cons _ (.cons _ (.cons _ (List.Sublist.refl _)))))),none,none,by rw [hE,hN];rfl,by rw [hN];exact RdSl.nil,by rw [hN];exact RdSl.nil⟩
     ·skip
      have h21b:=hc;clear hc
      have h21:¬ (((cntF (node1 x p):Nat):Int)=0):=of_decide_eq_false h21b
      refine g_t rfl h21b<|s_mv rfl<|g_t rfl h21b<|s_mv rfl<|g_t rfl h21b<|s_gt rfl rfl<|s_pf rfl h21b rfl<|e_nil<|e_tn<|e_cond rfl ?_ ?_
      ·intro hc
       have h22b:=hc;clear hc
       have h22:most < ((cntF (node1 x p):Nat):Int):=of_decide_eq_true h22b
       refine e_seq<|e_reg<|e_run (fun a F=>run_buildS (cs:=[.int .u8 0,.string (str ([]:List UInt8)),.string (str ([]:List UInt8)),.slice none 0 0,.string (str ([]:List UInt8)),.slice none 0 0]) (ps:=[]) tok193.k rfl tok193 (F.evp rfl) rfl) rfl<|fun a F=>?_
       refine rl_storeA F M tok193 (k:=1) rfl rfl rfl (us:=[.int .u8 0,.string (str ([]:List UInt8)),.string (str ([]:List UInt8)),.slice none 0 0,.string (str ([]:List UInt8)),.slice none 0 0]) rfl rfl (by simp [Value.oneCell']) (by simp) ?_;clear F M a;intro w a M F
       change Mem w0 Gk16 (.blk b18 [.int .u8 ((node1 x p).kind),.string (str ((node1 x p).tag)),.string (str ((node1 x p).key)),.slice (tae17) ((node1 x p).as.length) ((node1 x p).as.length),.string (str ((node1 x p).text)),.slice (kae17) ((node1 x p).kids.length) ((node1 x p).kids.length)] 193::.blk b3 [.int .u8 0,.string (str ([]:List UInt8)),.string (str ([]:List UInt8)),.slice none 0 0,.string (str ([]:List UInt8)),.slice none 0 0] 193::_::_::L) _ at M
       revert a
       refine s_as rfl<|e_nil<|e_tn<|e_ret<|e_tr<|fun a F=>fin_ct F M (k:=1) rfl rfl tok193 rfl rfl rfl rfl ?_
       have hE:rendE p x most=14:=rend_many (by omega) hV hio (by omega)
       have hN:rendN p x most=zeroN:=rendN_no (by rw [hE];(first | decide | omega))
       exact ⟨_,(hGz15.trans hGk16),(M.weaken (.cons _ (.cons _ (.cons _ (.cons _ (List.Sublist.refl _)))))),none,none,by rw [hE,hN];rfl,by rw [hN];exact RdSl.nil,by rw [hN];exact RdSl.nil⟩
      ·intro hc
       have h23b:=hc;clear hc
       have h23:¬ (most < ((cntF (node1 x p):Nat):Int)):=of_decide_eq_false h23b
       refine e_skip<|e_tn<|e_seq<|e_reg<|e_run (fun a F=>run_loadA tok193 rfl (F.ev rfl) (cs:=[.int .u8 ((node1 x p).kind),.string (str ((node1 x p).tag)),.string (str ((node1 x p).key)),.slice (tae17) ((node1 x p).as.length) ((node1 x p).as.length),.string (str ((node1 x p).text)),.slice (kae17) ((node1 x p).kids.length) ((node1 x p).kids.length)]) rfl (M.cellsL (k:=0) rfl rfl)) rfl<|fun a F=>?_
       refine rl_storeA F M tok193 (k:=1) rfl rfl rfl (us:=[.int .u8 ((node1 x p).kind),.string (str ((node1 x p).tag)),.string (str ((node1 x p).key)),.slice (tae17) ((node1 x p).as.length) ((node1 x p).as.length),.string (str ((node1 x p).text)),.slice (kae17) ((node1 x p).kids.length) ((node1 x p).kids.length)]) rfl rfl (by simp [Value.oneCell']) (by simp) ?_;clear F M a;intro w a M F
       change Mem w0 Gk16 (.blk b18 [.int .u8 ((node1 x p).kind),.string (str ((node1 x p).tag)),.string (str ((node1 x p).key)),.slice (tae17) ((node1 x p).as.length) ((node1 x p).as.length),.string (str ((node1 x p).text)),.slice (kae17) ((node1 x p).kids.length) ((node1 x p).kids.length)] 193::.blk b3 [.int .u8 ((node1 x p).kind),.string (str ((node1 x p).tag)),.string (str ((node1 x p).key)),.slice (tae17) ((node1 x p).as.length) ((node1 x p).as.length),.string (str ((node1 x p).text)),.slice (kae17) ((node1 x p).kids.length) ((node1 x p).kids.length)] 193::_::_::L) _ at M
       revert a
       refine s_as rfl<|e_nil<|e_tn<|e_ret<|fun a F=>fin_ct F M (k:=1) rfl rfl tok193 rfl rfl rfl rfl ?_
       have hE:rendE p x most=0:=rend_ok (by omega) hV hio (by omega)
       have hN:=rendN_ok hE
       exact ⟨_,(hGz15.trans hGk16),(M.weaken (.cons _ (.cons _ (.cons _ (.cons _ (List.Sublist.refl _)))))),_,_,by rw [hE,hN],by rw [hN];exact SAe17,by rw [hN];exact SKe17⟩
open Go Go.Y Go.Proofs
set_option linter.unusedSimpArgs false
set_option linter.unusedVariables false
end Go.Proofs.YtmmhmcplegpenaaGreatDoor.T
namespace Go.Proofs.YtmmhmcplegpenaaGreatDoor
open Go Go.Y
set_option linter.unusedSimpArgs false
set_option linter.unusedVariables false
structure ItemD where
 key:Nat
 typ:Nat
 text:List UInt8
 marks:List (List UInt8)
deriving DecidableEq
def rdItem:Rd ItemD:=fun G cs x=>∃ (a:Option Addr) (c:Nat),cs=[.int .u64 ((x.key:Nat):Int),.int .u8 ((x.typ:Nat):Int),.string (str x.text),.slice a x.marks.length c] ∧
 x.key < 18446744073709551616∧x.typ < 256∧x.text.length≤9223372036854775807∧x.marks.length≤9223372036854775807∧RdSl rdStr 1 G (.slice a x.marks.length c) x.marks
theorem mono_rdItem:Mono rdItem:=by
 rintro G G' cs x h ⟨a,c,h1,h2,h3,h4,h5,h6⟩
 exact ⟨a,c,h1,h2,h3,h4,h5,h6.mono mono_rdStr h⟩
/-! ### Names and strings -/
def NameB (c:UInt8):Prop:=(97≤nb c∧nb c≤122)∨(48≤nb c∧nb c≤57)
def Name (s:List UInt8):Prop:=(1≤s.length∧s.length≤16)∧∀ c∈s,NameB c
def StrB (c:UInt8):Prop:=32≤nb c∧nb c≤126
def Str (s:List UInt8):Prop:=s.length≤64∧∀ c∈s,StrB c
instance (c:UInt8):Decidable (NameB c):=by unfold NameB;infer_instance
instance (c:UInt8):Decidable (StrB c):=by unfold StrB;infer_instance
instance (s:List UInt8):Decidable (Name s):=by unfold Name;infer_instance
instance (s:List UInt8):Decidable (Str s):=by unfold Str;infer_instance
theorem Str.nil:Str []:=⟨by simp,by simp⟩
theorem all_step {α:Type} {p:α→Prop} {s:List α} {i:Nat} {c:α} (h:∀ (m:Nat) (b:α),m < i→s[m]?=some b→p b) (hc:s[i]?=some c) (hp:p c):∀ (m:Nat) (b:α),m < i+1→s[m]?=some b→p b:=by
 intro m b hm hb
 rcases Nat.lt_or_ge m i with h1 | h1
 ·exact h m b h1 hb
 ·have:m=i:=by omega
  subst this;rw [hc] at hb;simp only [Option.some.injEq] at hb;subst hb;exact hp
theorem all_end {α:Type} {p:α→Prop} {s:List α} {i:Nat} (h:∀ (m:Nat) (b:α),m < i→s[m]?=some b→p b) (hi:s.length≤i):∀ c∈s,p c:=by
 intro c hc
 obtain ⟨m,hm⟩:=List.mem_iff_getElem?.1 hc
 exact h m c (by have:=lt_of_get hm;omega) hm
theorem not_all {α:Type} {p:α→Prop} {s:List α} {i:Nat} {c:α} (hc:s[i]?=some c) (hp:¬ p c):¬ ∀ c∈s,p c:=fun h=>hp (h c (List.mem_of_getElem? hc))
/-- The runes that no text has, and that no name has. -/
def badR (r:Nat):Bool:=decide ((r:Int) < 32) || decide (126 < (r:Int))
def badN (r:Nat):Bool:=(decide ((r:Int) < 97) || decide (122 < (r:Int))) && (decide ((r:Int) < 48) || decide (57 < (r:Int)))
theorem idx_badP {bad:Nat→Bool} {P:UInt8→Prop} (h1:∀ b:UInt8,bad b.toNat=false↔P b) (h2:∀ r,128≤r→bad r=true) (l:List UInt8):∀ (f pos:Nat),l.length≤pos+f→(Lib.idxFuncFrom bad true (str l) f pos < 0↔∀ (m:Nat) (b:UInt8),pos≤m→l[m]?=some b→P b)
 | 0,pos,h=>by
  have:Lib.idxFuncFrom bad true (str l) 0 pos = -1:=rfl
  rw [this]
  refine ⟨fun _ m b hm hb=>?_,fun _=>by decide⟩
  have:=lt_of_get hb;omega
 | f+1,pos,h=>by
  unfold Lib.idxFuncFrom
  by_cases hp:pos < (str l).size
  ·rw [if_pos hp]
   have hl:pos < l.length:=by rw [str_size] at hp;exact hp
   have hb:l[pos]?=some ((str l)[pos]'hp):=by rw [← str_get,getElem?_pos (str l) pos hp]
   generalize hB:(str l)[pos]'hp=B at hb
   by_cases ha:B.toNat < 128
   ·have hd:=decode_ascii (str l) pos hp (by rw [hB];exact ha)
    rw [hB] at hd
    rw [hd]
    by_cases hg:P B
    ·have hbad:bad B.toNat=false:=(h1 B).2 hg
     simp only [hbad,Bool.false_eq_true,if_false]
     rw [idx_badP h1 h2 l f (pos+1) (by omega)]
     constructor
     ·intro h1 m b hm hb'
      rcases Nat.eq_or_lt_of_le hm with e | e
      ·subst e;rw [hb] at hb';simp only [Option.some.injEq] at hb';subst hb';exact hg
      ·exact h1 m b (by omega) hb'
     ·exact fun h1 m b hm hb'=>h1 m b (by omega) hb'
    ·have hbad:bad B.toNat=true:=by
      cases hx:bad B.toNat with
      | true=>rfl
      | false=>exact absurd ((h1 B).1 hx) hg
     simp only [hbad,if_true]
     refine ⟨fun h1=>by omega,fun h1=>absurd (h1 pos B (Nat.le_refl _) hb) hg⟩
   ·have hd:=(decode_high (str l) pos hp (by rw [hB];omega)).1
    have hbad:bad (Utf8.decode (str l) pos).1=true:=h2 _ (by omega)
    simp only [hbad,if_true]
    refine ⟨fun h1=>by omega,fun h3=>?_⟩
    have h4:=(h1 B).2 (h3 pos B (Nat.le_refl _) hb)
    rw [h2 _ (by omega)] at h4;cases h4
  ·rw [if_neg hp]
   refine ⟨fun _ m b hm hb=>?_,fun _=>by decide⟩
   have:=lt_of_get hb;rw [str_size] at hp;omega
theorem idx_P {bad:Nat→Bool} {P:UInt8→Prop} (h1:∀ b:UInt8,bad b.toNat=false↔P b) (h2:∀ r,128≤r→bad r=true) (l:List UInt8):Lib.idxFunc bad true (str l) < 0↔∀ c∈l,P c:=by
 unfold Lib.idxFunc
 rw [idx_badP h1 h2 l _ 0 (by rw [str_size];omega)]
 constructor
 ·intro h c hc
  obtain ⟨m,hm⟩:=List.mem_iff_getElem?.1 hc
  exact h m c (Nat.zero_le _) hm
 ·exact fun h m b _ hb=>h b (List.mem_of_getElem? hb)
theorem idx_str (l:List UInt8):Lib.idxFunc badR true (str l) < 0↔∀ c∈l,StrB c :=
 idx_P (fun b=>by simp only [badR,StrB,nb,Bool.or_eq_false_iff,decide_eq_false_iff_not];omega) (fun r h=>by simp only [badR,Bool.or_eq_true,decide_eq_true_eq];omega) l
theorem idx_name (l:List UInt8):Lib.idxFunc badN true (str l) < 0↔∀ c∈l,NameB c :=
 idx_P (fun b=>by simp only [badN,NameB,nb,Bool.and_eq_false_iff,Bool.or_eq_false_iff,decide_eq_false_iff_not];omega) (fun r h=>by simp only [badN,Bool.and_eq_true,Bool.or_eq_true,decide_eq_true_eq];omega) l
/-! ### Which items are valid -/
def ItemOk (t:Int) (x:ItemD):Prop:=x.key≠0∧(x.typ:Int) < t∧Str x.text∧x.marks.length≤8∧∀ s∈x.marks,Name s
instance (t:Int) (x:ItemD):Decidable (ItemOk t x):=by unfold ItemOk;infer_instance
def itmF (t:Int) (x:ItemD):Int:=if ItemOk t x then 0 else 6
theorem itmF_yes {t:Int} {x:ItemD} (h:ItemOk t x):itmF t x=0:=by unfold itmF;rw [if_pos h]
theorem itmF_no {t:Int} {x:ItemD} (h:¬ ItemOk t x):itmF t x=6:=by unfold itmF;rw [if_neg h]
theorem itmF_zero {t:Int} {x:ItemD}:itmF t x=0↔ItemOk t x:=by
 unfold itmF
 split
 ·rename_i h;exact ⟨fun _=>h,fun _=>rfl⟩
 ·rename_i h;exact ⟨fun h2=>(by cases h2),fun h2=>absurd h2 h⟩
theorem marks_all {l:List (List UInt8)} {i:Nat} (h:∀ (m:Nat) (s:List UInt8),m < i→l[m]?=some s→Name s) (hi:l.length≤i):∀ s∈l,Name s:=all_end h hi
theorem none_snoc {α:Type} {p:α→Prop} {l:List α} {i:Nat} {x:α} (h:∀ (m:Nat) (s:α),m < i→l[m]?=some s→p s) (hx:l[i]?=some x) (hp:p x):∀ (m:Nat) (s:α),m < i+1→l[m]?=some s→p s:=all_step h hx hp
/-! ### Within the bounds of the statements; what is found -/
def MkFew (x:ItemD):Prop:=x.text.length≤70∧x.marks.length≤12∧∀ s∈x.marks,s.length≤20
def Few (l:List ItemD):Prop:=l.length≤30∧∀ x∈l,MkFew x
instance (x:ItemD):Decidable (MkFew x):=by unfold MkFew;infer_instance
instance (l:List ItemD):Decidable (Few l):=by unfold Few;infer_instance
theorem Few.no {l:List ItemD} {i:Nat} {x:ItemD} (h:l[i]?=some x) (hn:¬ MkFew x):¬ Few l:=fun h2=>hn (h2.2 x (List.mem_of_getElem? h))
theorem item_ext {x y:ItemD} (h1:x.key=y.key) (h2:x.typ=y.typ) (h3:x.text=y.text) (h4:x.marks=y.marks):x=y:=by
 cases x;cases y;simp_all
theorem ne_of_get {α:Type} {xs ys:List α} {i:Nat} {x y:α} (h1:xs[i]?=some x) (h2:ys[i]?=some y) (h:x≠y):xs≠ys:=by
 rintro rfl;rw [h1] at h2;simp only [Option.some.injEq] at h2;exact h h2
theorem eq_step {α:Type} {xs ys:List α} {i:Nat} {x y:α} (h:∀ m,m < i→xs[m]?=ys[m]?) (h1:xs[i]?=some x) (h2:ys[i]?=some y) (he:x=y):∀ m,m < i+1→xs[m]?=ys[m]?:=by
 intro m hm
 rcases Nat.lt_or_ge m i with h3 | h3
 ·exact h m h3
 ·have:m=i:=by omega
  subst this;rw [h1,h2,he]
theorem eq_end {α:Type} {xs ys:List α} {i:Nat} (h:∀ m,m < i→xs[m]?=ys[m]?) (hl:xs.length=ys.length) (hi:xs.length≤i):xs=ys:=by
 apply List.ext_getElem?
 intro m
 rcases Nat.lt_or_ge m i with h3 | h3
 ·exact h m h3
 ·rw [List.getElem?_eq_none (by omega),List.getElem?_eq_none (by omega)]
def FindR (xs:List ItemD) (k:Nat) (z:Int):Prop:=(z = -1∧∀ x∈xs,x.key≠k)∨∃ (i:Nat) (x:ItemD),z=(i:Int)∧xs[i]?=some x∧x.key=k∧∀ (m:Nat) (y:ItemD),m < i→xs[m]?=some y→y.key≠k
theorem FindR.uniq {xs:List ItemD} {k:Nat} {z z':Int} (h:FindR xs k z) (h':FindR xs k z'):z=z':=by
 rcases h with ⟨rfl,h⟩ | ⟨i,x,rfl,h1,h2,h3⟩ <;> rcases h' with ⟨rfl,h'⟩ | ⟨j,y,rfl,h1',h2',h3'⟩
 ·rfl
 ·exact absurd h2' (h y (List.mem_of_getElem? h1'))
 ·exact absurd h2 (h' x (List.mem_of_getElem? h1))
 ·rcases Nat.lt_trichotomy i j with h4 | h4 | h4
  ·exact absurd h2 (h3' i x h4 h1)
  ·rw [h4]
  ·exact absurd h2' (h3 j y h4 h1')
theorem FindR.none {xs:List ItemD} {k i:Nat} (h:∀ (m:Nat) (y:ItemD),m < i→xs[m]?=some y→y.key≠k) (hi:xs.length≤i):FindR xs k (-1):=Or.inl ⟨rfl,all_end (p:=fun y:ItemD=>y.key≠k) h hi⟩
theorem FindR.some {xs:List ItemD} {k i:Nat} {x:ItemD} (h:∀ (m:Nat) (y:ItemD),m < i→xs[m]?=some y→y.key≠k) (hx:xs[i]?=some x) (hk:x.key=k):FindR xs k (i:Int):=Or.inr ⟨i,x,rfl,hx,hk,h⟩
open Go Go.Y
set_option linter.unusedSimpArgs false
set_option linter.unusedVariables false
structure KindD where
 part:T.PT
 base:Int
 sticky:Bool
 pool:Int
structure RulesD where
 kinds:List KindD
 cap:Int
structure EntD where
 item:ItemD
 size:Int
 known:Bool
def rdKind:Rd KindD:=fun G cs k=>∃ c1,cs=c1++[.int .i64 k.base,.bool k.sticky,.int .i64 k.pool]∧T.rdP G c1 k.part∧inKind .i64 k.base
theorem mono_rdKind:Mono rdKind:=by
 rintro G G' cs x h ⟨c1,h1,h2,h3⟩
 exact ⟨c1,h1,T.mono_rdP _ _ _ _ h h2,h3⟩
def rdEnt:Rd EntD:=fun G cs x=>∃ c1,cs=c1++[.int .i64 x.size,.bool x.known]∧rdItem G c1 x.item∧inKind .i64 x.size
theorem mono_rdEnt:Mono rdEnt:=by
 rintro G G' cs x h ⟨c1,h1,h2,h3⟩
 exact ⟨c1,h1,mono_rdItem _ _ _ _ h h2,h3⟩
/-- The item as the templates read it. -/
def tI (x:ItemD):T.ItemD:=⟨(x.key:Int),(x.typ:Int),x.text,x.marks⟩
theorem tI_ok {t:Int} {x:ItemD} (h:ItemOk t x):T.ItemOk (tI x):=by
 obtain ⟨h1,_,h2,h3,h4⟩:=h
 exact ⟨fun e=>h1 (by simpa [tI] using e),h2,h3,h4⟩
/-! ### The first error -/
def firstE (f:Nat→Int):Nat→Int
 | 0=>0
 | n+1=>if firstE f n=0 then f n else firstE f n
theorem firstE_step {f:Nat→Int} {n:Nat} (h:firstE f n=0):firstE f (n+1)=f n:=by simp [firstE,h]
theorem firstE_stay {f:Nat→Int} {n:Nat} (h:firstE f n≠0):∀ m,n≤m→firstE f m=firstE f n:=by
  intro m hm
  induction m with
  | zero => have : n = 0 := by omega
            subst this;rfl
  | succ m ih =>
    rcases Nat.eq_or_lt_of_le hm with e | e
    · rw [e]
    · have:=ih (by omega)
      simp only [firstE,this,h,if_false]
theorem firstE_hit {f:Nat→Int} {i n:Nat} (h:firstE f i=0) (hi:i < n) (he:f i≠0):firstE f n=f i:=by
 have h1:=firstE_step h
 rw [firstE_stay (n:=i+1) (by rw [h1];exact he) n (by omega),h1]
theorem firstE_zero {f:Nat→Int}:∀ {n:Nat},firstE f n=0↔∀ i,i < n→f i=0
 | 0=>⟨fun _ i h=>by omega,fun _=>rfl⟩
 | n+1=>by
  constructor
  ·intro h
   by_cases h0:firstE f n=0
   ·have h1:=firstE_zero.1 h0
    rw [firstE_step h0] at h
    intro i hi
    rcases Nat.eq_or_lt_of_le (show i≤n by omega) with e | e
    ·rw [e];exact h
    ·exact h1 i e
   ·rw [firstE_stay h0 _ (Nat.le_succ n)] at h;exact absurd h h0
  ·intro h
   rw [firstE_step (firstE_zero.2 fun i hi=>h i (by omega))]
   exact h n (by omega)
theorem firstE_congr {f g:Nat→Int}:∀ {n:Nat},(∀ i,i < n→f i=g i)→firstE f n=firstE g n
 | 0,_=>rfl
 | n+1,h=>by simp only [firstE,firstE_congr (n:=n) fun i hi=>h i (by omega),h n (by omega)]
/-! ### Rules -/
def KindOk (k:KindD):Prop:=(1≤k.base∧k.base≤2305843009213693952)∧T.ValidP k.part
def ValidC (c:RulesD):Prop:=((1≤c.kinds.length∧c.kinds.length≤8)∧(1≤c.cap∧c.cap≤64))∧∀ k∈c.kinds,KindOk k
open Classical in
noncomputable def validE (c:RulesD):Int:=if ValidC c then 0 else 7
theorem validE_yes {c:RulesD} (h:ValidC c):validE c=0:=by unfold validE;rw [if_pos h]
theorem validE_no {c:RulesD} (h:¬ ValidC c):validE c=7:=by unfold validE;rw [if_neg h]
theorem validE_zero {c:RulesD}:validE c=0↔ValidC c:=by
 unfold validE
 split
 ·rename_i h;exact ⟨fun _=>h,fun _=>rfl⟩
 ·rename_i h;exact ⟨fun h2=>(by cases h2),fun h2=>absurd h2 h⟩
def baseOf (c:RulesD) (x:ItemD):Int:=match c.kinds[x.typ]? with
 | some k=>k.base
 | none=>0
theorem base_at {c:RulesD} {x:ItemD} {k:KindD} (h:c.kinds[x.typ]?=some k):baseOf c x=k.base:=by unfold baseOf;rw [h]
noncomputable def renE (c:RulesD) (x:ItemD):Int:=match c.kinds[x.typ]? with
 | some k=>T.rendE k.part (tI x) c.cap
 | none=>0
theorem ren_at {c:RulesD} {x:ItemD} {k:KindD} (h:c.kinds[x.typ]?=some k):renE c x=T.rendE k.part (tI x) c.cap:=by unfold renE;rw [h]
theorem kind_of {c:RulesD} {x:ItemD} (h:ItemOk (c.kinds.length:Int) x):∃ k,c.kinds[x.typ]?=some k:=get_of_lt (by have:=h.2.1;omega)
theorem ren_14 {c:RulesD} {x:ItemD} (hc:ValidC c) (hx:ItemOk (c.kinds.length:Int) x):renE c x=0∨renE c x=14:=by
 obtain ⟨k,hk⟩:=kind_of hx
 rw [ren_at hk]
 have h1:¬ (c.cap < 1∨64 < c.cap):=by have:=hc.1.2;omega
 have h2:=(hc.2 k (List.mem_of_getElem? hk)).2
 have h3:=tI_ok hx
 by_cases h4:T.cntF (T.node1 (tI x) k.part)=0∨c.cap < (T.cntF (T.node1 (tI x) k.part):Int)
 ·exact Or.inr (T.rend_many h1 h2 h3 h4)
 ·exact Or.inl (T.rend_ok h1 h2 h3 h4)
/-! ### Items that come, entries -/
open Classical in
/-- The error of an item whose key is in use if seen. -/
noncomputable def itemE (c:RulesD) (x:ItemD) (seen:Prop):Int:=if ¬ ItemOk (c.kinds.length:Int) x then 6 else if seen then 8 else if renE c x=0 then 0 else 14
section
variable {c:RulesD} {x:ItemD} {seen:Prop}
theorem itemE_6 (h:¬ ItemOk (c.kinds.length:Int) x):itemE c x seen=6:=by unfold itemE;rw [if_pos h]
theorem itemE_8 (h:ItemOk (c.kinds.length:Int) x) (h2:seen):itemE c x seen=8:=by unfold itemE;rw [if_neg (not_not_intro h),if_pos h2]
theorem itemE_14 (h:ItemOk (c.kinds.length:Int) x) (h2:¬ seen) (h3:¬ renE c x=0):itemE c x seen=14:=by unfold itemE;rw [if_neg (not_not_intro h),if_neg h2,if_neg h3]
theorem itemE_0 (h:ItemOk (c.kinds.length:Int) x) (h2:¬ seen) (h3:renE c x=0):itemE c x seen=0:=by unfold itemE;rw [if_neg (not_not_intro h),if_neg h2,if_pos h3]
theorem itemE_zero:itemE c x seen=0↔ItemOk (c.kinds.length:Int) x∧¬ seen∧renE c x=0:=by
 unfold itemE
 split
 ·rename_i h;exact ⟨fun h2=>(by cases h2),fun h2=>absurd h2.1 h⟩
 ·rename_i h
  split
  ·rename_i h1;exact ⟨fun h2=>(by cases h2),fun h2=>absurd h1 h2.2.1⟩
  ·rename_i h1
   split
   ·rename_i h2;exact ⟨fun _=>⟨Classical.byContradiction h,h1,h2⟩,fun _=>rfl⟩
   ·rename_i h2;exact ⟨fun h3=>(by cases h3),fun h3=>absurd h3.2.2 h2⟩
end
def hasKey (l:List EntD) (k:Nat):Prop:=∃ y∈l,y.item.key=k
def SizeOk (c:RulesD) (x:EntD):Prop:=(1≤x.size∧x.size≤2305843009213693952)∧(x.known=true∨x.size=baseOf c x.item)
open Classical in
noncomputable def entE (c:RulesD) (pre:List EntD) (x:EntD):Int :=
 if itemE c x.item (hasKey pre x.item.key)=0 then (if SizeOk c x then 0 else 12) else itemE c x.item (hasKey pre x.item.key)
noncomputable def scanE (c:RulesD) (l:List EntD) (i:Nat):Int:=match l[i]? with
 | some x=>entE c (l.take i) x
 | none=>0
theorem scan_at {c:RulesD} {l:List EntD} {i:Nat} {x:EntD} (h:l[i]?=some x):scanE c l i=entE c (l.take i) x:=by unfold scanE;rw [h]
section
variable {c:RulesD} {pre:List EntD} {x:EntD}
theorem entE_item (h:itemE c x.item (hasKey pre x.item.key)≠0):entE c pre x=itemE c x.item (hasKey pre x.item.key):=by unfold entE;rw [if_neg h]
theorem entE_12 (h:itemE c x.item (hasKey pre x.item.key)=0) (h2:¬ SizeOk c x):entE c pre x=12:=by unfold entE;rw [if_pos h,if_neg h2]
theorem entE_0 (h:itemE c x.item (hasKey pre x.item.key)=0) (h2:SizeOk c x):entE c pre x=0:=by unfold entE;rw [if_pos h,if_pos h2]
theorem entE_zero:entE c pre x=0↔itemE c x.item (hasKey pre x.item.key)=0∧SizeOk c x:=by
 unfold entE
 split
 ·rename_i h
  split
  ·rename_i h2;exact ⟨fun _=>⟨h,h2⟩,fun _=>rfl⟩
  ·rename_i h2;exact ⟨fun h3=>(by cases h3),fun h3=>absurd h3.2 h2⟩
 ·rename_i h;exact ⟨fun h2=>absurd h2 h,fun h2=>absurd h2.1 h⟩
end
/-! ### Totals -/
def sumF:List EntD→Int
 | []=>0
 | x::l=>max x.size 0+sumF l
theorem sumF_nn:∀ l:List EntD,0≤sumF l
 | []=>Int.le_refl _
 | x::l=>by have:=sumF_nn l;simp only [sumF];omega
theorem sumF_app:∀ a b:List EntD,sumF (a++b)=sumF a+sumF b
 | [],b=>by simp [sumF]
 | x::a,b=>by simp only [List.cons_append,sumF,sumF_app a b];omega
theorem sumF_snoc {l:List EntD} {i:Nat} {x:EntD} (h:l[i]?=some x):sumF (l.take (i+1))=sumF (l.take i)+max x.size 0:=by
 rw [List.take_add_one,h,sumF_app];simp [sumF]
theorem sumF_le {l:List EntD} (i:Nat):sumF (l.take i)≤sumF l:=by
 have h:=sumF_app (l.take i) (l.drop i)
 rw [List.take_append_drop] at h
 have:=sumF_nn (l.drop i);omega
def totF (l:List EntD):Int:=if sumF l≤4611686018427387904 then sumF l else 4611686018427387905
def overE (l:List EntD):Int:=if sumF l≤4611686018427387904 then 0 else 13
theorem tot_big {l:List EntD} {i:Nat} (h:4611686018427387904 < sumF (l.take i)):totF l=4611686018427387905:=by
 have:=sumF_le (l:=l) i
 unfold totF;rw [if_neg (by omega)]
theorem tot_fit {l:List EntD} {i:Nat} {z:Int} (hz:z=sumF (l.take i)) (h:z≤4611686018427387904) (hi:l.length≤i):totF l=z:=by
 rw [List.take_of_length_le hi] at hz
 unfold totF;rw [if_pos (by omega),hz]
theorem over_tot {l:List EntD}:4611686018427387904 < totF l↔¬ sumF l≤4611686018427387904:=by
 unfold totF;split
 ·rename_i h;omega
 ·rename_i h;exact ⟨fun _=>h,fun _=>by decide⟩
theorem over_yes {l:List EntD} (h:¬ 4611686018427387904 < totF l):overE l=0:=by unfold overE;rw [if_pos (Classical.byContradiction fun h2=>h (over_tot.2 h2))]
theorem over_no {l:List EntD} (h:4611686018427387904 < totF l):overE l=13:=by unfold overE;rw [if_neg (over_tot.1 h)]
theorem over_zero {l:List EntD}:overE l=0↔sumF l≤4611686018427387904:=by
 unfold overE;split
 ·rename_i h;exact ⟨fun _=>h,fun _=>rfl⟩
 ·rename_i h;exact ⟨fun h2=>(by cases h2),fun h2=>absurd h2 h⟩
/-! ### The error of a list -/
open Classical in
noncomputable def checkE (c:RulesD) (l:List EntD):Int :=
 if ¬ ValidC c then 7 else if 1024 < l.length then 3 else if firstE (scanE c l) l.length=0 then overE l else firstE (scanE c l) l.length
section
variable {c:RulesD} {l:List EntD}
theorem check_7 (h:¬ ValidC c):checkE c l=7:=by unfold checkE;rw [if_pos h]
theorem check_3 (h:ValidC c) (h2:1024 < l.length):checkE c l=3:=by unfold checkE;rw [if_neg (not_not_intro h),if_pos h2]
theorem check_scan {i:Nat} {x:EntD} {z:Int} (h:ValidC c) (h2:¬ 1024 < l.length) (h3:firstE (scanE c l) i=0) (hx:l[i]?=some x) (hz:entE c (l.take i) x=z) (h0:z≠0):checkE c l=z:=by
 have h4:scanE c l i≠0:=by rw [scan_at hx,hz];exact h0
 have h5:=firstE_hit h3 (lt_of_get hx) h4
 unfold checkE
 rw [if_neg (not_not_intro h),if_neg h2,if_neg (by rw [h5];exact h4),h5,scan_at hx,hz]
theorem check_end {i:Nat} (h:ValidC c) (h2:¬ 1024 < l.length) (h3:firstE (scanE c l) i=0) (hi:l.length≤i):checkE c l=overE l:=by
 have h4:firstE (scanE c l) l.length=0:=firstE_zero.2 fun j hj=>firstE_zero.1 h3 j (by omega)
 unfold checkE
 rw [if_neg (not_not_intro h),if_neg h2,if_pos h4]
theorem scan_ok {i:Nat} {x:EntD} (h3:firstE (scanE c l) i=0) (hx:l[i]?=some x) (hz:entE c (l.take i) x=0):firstE (scanE c l) (i+1)=0:=by rw [firstE_step h3,scan_at hx,hz]
end
/-- The first entry with a key. -/
def FindE (l:List EntD) (k:Nat) (z:Int):Prop:=(z = -1∧∀ x∈l,x.item.key≠k)∨∃ (i:Nat) (x:EntD),z=(i:Int)∧l[i]?=some x∧x.item.key=k∧∀ (m:Nat) (y:EntD),m < i→l[m]?=some y→y.item.key≠k
theorem FindE.none {l:List EntD} {k i:Nat} (h:∀ (m:Nat) (y:EntD),m < i→l[m]?=some y→y.item.key≠k) (hi:l.length≤i):FindE l k (-1):=Or.inl ⟨rfl,all_end (p:=fun y:EntD=>y.item.key≠k) h hi⟩
theorem FindE.some {l:List EntD} {k i:Nat} {x:EntD} (h:∀ (m:Nat) (y:EntD),m < i→l[m]?=some y→y.item.key≠k) (hx:l[i]?=some x) (hk:x.item.key=k):FindE l k (i:Int):=Or.inr ⟨i,x,rfl,hx,hk,h⟩
theorem FindE.has {l:List EntD} {k:Nat} {z:Int} (h:FindE l k z):0≤z↔hasKey l k:=by
 rcases h with ⟨rfl,h⟩ | ⟨i,x,rfl,h1,h2,h3⟩
 ·exact ⟨fun h2=>by omega,fun ⟨y,hy,hk⟩=>absurd hk (h y hy)⟩
 ·exact ⟨fun _=>⟨x,List.mem_of_getElem? h1,h2⟩,fun _=>by omega⟩
/-! ### What the scans hand back -/
section
variable {c:RulesD} {l:List EntD} {i:Nat} {x:EntD}
theorem ck6 (hv:ValidC c) (h2:¬ 1024 < l.length) (h3:firstE (scanE c l) i=0) (hx:l[i]?=some x) (h:¬ ItemOk (c.kinds.length:Int) x.item):checkE c l=6 :=
 check_scan hv h2 h3 hx (by rw [entE_item (by rw [itemE_6 h];decide),itemE_6 h]) (by decide)
theorem ck8 (hv:ValidC c) (h2:¬ 1024 < l.length) (h3:firstE (scanE c l) i=0) (hx:l[i]?=some x) (h:ItemOk (c.kinds.length:Int) x.item) (hk:hasKey (l.take i) x.item.key):checkE c l=8 :=
 check_scan hv h2 h3 hx (by rw [entE_item (by rw [itemE_8 h hk];decide),itemE_8 h hk]) (by decide)
theorem ck14 (hv:ValidC c) (h2:¬ 1024 < l.length) (h3:firstE (scanE c l) i=0) (hx:l[i]?=some x) (h:ItemOk (c.kinds.length:Int) x.item) (hk:¬ hasKey (l.take i) x.item.key) (hr:¬ renE c x.item=0):checkE c l=14 :=
 check_scan hv h2 h3 hx (by rw [entE_item (by rw [itemE_14 h hk hr];decide),itemE_14 h hk hr]) (by decide)
theorem ck12 (hv:ValidC c) (h2:¬ 1024 < l.length) (h3:firstE (scanE c l) i=0) (hx:l[i]?=some x) (h:ItemOk (c.kinds.length:Int) x.item) (hk:¬ hasKey (l.take i) x.item.key) (hr:renE c x.item=0) (hs:¬ SizeOk c x):checkE c l=12 :=
 check_scan hv h2 h3 hx (entE_12 (itemE_0 h hk hr) hs) (by decide)
theorem ck0 (h3:firstE (scanE c l) i=0) (hx:l[i]?=some x) (h:ItemOk (c.kinds.length:Int) x.item) (hk:¬ hasKey (l.take i) x.item.key) (hr:renE c x.item=0) (hs:SizeOk c x):firstE (scanE c l) (i+1)=0 :=
 scan_ok h3 hx (entE_0 (itemE_0 h hk hr) hs)
end
/-- The keys that were seen. -/
def KeysTo (l:List EntD) (i:Nat) (ks:List Nat):Prop:=∀ q,q∈ks↔hasKey (l.take i) q
theorem KeysTo.zero (l:List EntD):KeysTo l 0 []:=fun q=>⟨fun h=>by simp at h,fun ⟨y,hy,_⟩=>by simp at hy⟩
theorem KeysTo.step {l:List EntD} {i:Nat} {ks:List Nat} {x:EntD} (h:KeysTo l i ks) (hx:l[i]?=some x):KeysTo l (i+1) (x.item.key::ks):=by
 intro q
 rw [List.mem_cons,h q,List.take_add_one,hx]
 constructor
 ·rintro (rfl | ⟨y,hy,hk⟩)
  ·exact ⟨x,by simp,rfl⟩
  ·exact ⟨y,by simp [hy],hk⟩
 ·rintro ⟨y,hy,hk⟩
  simp only [Option.toList_some,List.mem_append,List.mem_singleton] at hy
  rcases hy with hy | rfl
  ·exact Or.inr ⟨y,hy,hk⟩
  ·exact Or.inl hk.symm
theorem tI_key {x:ItemD} (h:x.key < 18446744073709551616):inKind .u64 (tI x).key:=⟨by show (0:Int)≤((x.key:Nat):Int);omega,by show ((x.key:Nat):Int)≤18446744073709551615;omega⟩
end Go.Proofs.YtmmhmcplegpenaaGreatDoor
