/- The walks, part LA. · The walks, part LB. · Lists: what the operations hand back. · The walks, part LC. · The walks, part LD. · Any number of owned things lent for a while, and taken back. · The walks, part Z. · Lists: lists in new memory, entry by entry; what 'do' hands back. · The walks, part LE. · The walks, part LF. -/
import Derived.Test.YtmmhmcplegpenaaGreatDoorJ3
import Derived.Test.YtmmhmcplegpenaaGreatDoorJ5
namespace Go.Proofs.YtmmhmcplegpenaaGreatDoor
open Go Go.Y Go.Proofs
set_option linter.unusedSimpArgs false
set_option linter.unusedVariables false
theorem height_spec {w0 w:World} {G:Ghost} {L:List Res} (M:Mem w0 G L w) {n:Int}:Calls Tryz.prog 114 #[.int .i64 n] w (RetS w0 G L fun v=>v=.bool (decide (1≤n∧n≤2305843009213693952))):=by
 refine e_start (vs:=[_]) Tryz.func114 rfl (n:=9) rfl rfl<|e_seq<|e_reg<|s_as rfl<|e_nil<|e_tn<|e_seq<|e_reg<|s_mv rfl<|s_gq rfl rfl<|s_mv rfl<|?_
 rcases Bool.eq_false_or_eq_true (decide (1≤n)) with hc | hc
 ·skip
  have h1b:=hc;clear hc
  have h1:1≤n:=of_decide_eq_true h1b
  refine g_t rfl h1b<|s_mv rfl<|g_t rfl h1b<|s_lq rfl rfl<|s_pt rfl h1b rfl<|s_as rfl<|e_nil<|e_tn<|e_ret<|e_fin1 rfl rfl<|?_
  exact ⟨M,by rw [show (decide (1≤n∧n≤2305843009213693952))=(decide (n≤2305843009213693952)) by rw [Bool.eq_iff_iff];simp only [decide_eq_true_eq];first | omega | (constructor <;> intro h_ <;> first | omega | cases h_ | rfl)]⟩
 ·skip
  have h2b:=hc;clear hc
  have h2:¬ (1≤n):=of_decide_eq_false h2b
  refine g_f rfl h2b<|g_f rfl h2b<|s_pf rfl h2b rfl<|s_as rfl<|e_nil<|e_tn<|e_ret<|e_fin1 rfl rfl<|?_
  exact ⟨M,by rw [show (decide (1≤n∧n≤2305843009213693952))=false by rw [Bool.eq_iff_iff];simp only [decide_eq_true_eq];first | omega | (constructor <;> intro h_ <;> first | omega | cases h_ | rfl)]⟩
theorem valid1_spec {w0 w:World} {G:Ghost} {L:List Res} (M:Mem w0 G L w) {k:KindD} {ta ka:Option Addr} {tc kc:Nat} (hk:inKind .u8 k.part.kind) (hl:(k.part.tag.length≤9223372036854775807∧k.part.key.length≤9223372036854775807∧k.part.text.length≤9223372036854775807)) (SA:RdSl T.rdSlot 3 G (.slice ta k.part.as.length tc) k.part.as) (SK:RdSl T.rdP 6 G (.slice ka k.part.kids.length kc) k.part.kids):Calls Tryz.prog 154 #[.agg #[.int .u8 (k.part.kind),.string (str (k.part.tag)),.string (str (k.part.key)),.slice (ta) (k.part.as.length) (tc),.string (str (k.part.text)),.slice (ka) (k.part.kids.length) (kc),.int .i64 (k.base),.bool (k.sticky),.int .i64 (k.pool)]] w (RetS w0 G L fun v=>∃ b:Bool,v=.bool b∧(b=true↔¬ KindOk k)):=by
 refine e_start (vs:=[_]) Tryz.func154 rfl (n:=13) rfl rfl<|e_seq<|e_reg<|s_bx M rfl rfl rfl<|?_;clear M;intro b1 w M
 refine s_as rfl<|e_nil<|e_tn<|e_seq<|e_reg<|s_fa tok81.k rfl rfl<|s_ld tok2 M 0 rfl rfl rfl rfl<|s_cS ent114 rfl rfl (height_spec (n:=k.base) M)<|?_;clear M;rintro _ w M rfl
 refine s_not rfl<|s_mv rfl<|?_
 rcases Bool.eq_false_or_eq_true (!(decide (1≤k.base∧k.base≤2305843009213693952))) with hc | hc
 ·skip
  have h2b:=hc;clear hc
  have h2:¬ (1≤k.base∧k.base≤2305843009213693952):=of_decide_eq_false (of_not_t h2b)
  have h2c:(decide (1≤k.base∧k.base≤2305843009213693952))=false:=(of_not_t h2b)
  refine g_f rfl (not_t h2c)<|g_f rfl (not_t h2c)<|g_f rfl (not_t h2c)<|g_f rfl (not_t h2c)<|s_pt rfl (not_t h2c) rfl<|s_as rfl<|e_nil<|e_tn<|e_ret<|e_fin1 rfl rfl<|?_
  exact ⟨M.weaken (.cons _ (List.Sublist.refl _)),_,rfl,(by unfold KindOk;rw [← T.chkP_zero];simp only [Bool.not_eq_true',decide_eq_true_eq,decide_eq_false_iff_not];first | (constructor <;> intro h_ <;> omega) | (simp only [true_iff];omega))⟩
 ·skip
  have h3b:=hc;clear hc
  have h3:1≤k.base∧k.base≤2305843009213693952:=of_decide_eq_true (of_not_f h3b)
  have h3c:(decide (1≤k.base∧k.base≤2305843009213693952))=true:=(of_not_f h3b)
  refine g_t rfl (not_f h3c)<|s_fa tok81.k rfl rfl<|g_t rfl (not_f h3c)<|e_run (fun a F=>run_loadA tok79 rfl (F.ev rfl) (cs:=[.int .u8 (k.part.kind),.string (str (k.part.tag)),.string (str (k.part.key)),.slice (ta) (k.part.as.length) (tc),.string (str (k.part.text)),.slice (ka) (k.part.kids.length) (kc)]) rfl (M.cellsL (k:=0) rfl rfl)) rfl<|g_t rfl (not_f h3c)<|s_cS ent155 rfl rfl (T.tcheck_spec (x:=k.part) M hk hl SA SK)<|?_;clear M;rintro _ w M rfl
  refine g_t rfl (not_f h3c)<|s_ne rfl rfl<|s_pf rfl (not_f h3c) rfl<|s_as rfl<|e_nil<|e_tn<|e_ret<|e_fin1 rfl rfl<|?_
  exact ⟨M.weaken (.cons _ (List.Sublist.refl _)),_,rfl,(by unfold KindOk;rw [← T.chkP_zero];simp only [Bool.not_eq_true',decide_eq_true_eq,decide_eq_false_iff_not];first | (constructor <;> intro h_ <;> omega) | (simp only [true_iff];omega))⟩
theorem idxk_spec {w0 w:World} {G:Ghost} {L:List Res} (M:Mem w0 G L w) {ad:Option Addr} {cd:Nat} {xs:List KindD} (S:RdSl rdKind 9 G (.slice ad xs.length cd) xs):Calls Tryz.prog 190 #[.slice ad xs.length cd,.func (.func 154) #[] #[]] w (RetS w0 G L fun v=>∃ z:Int,v=.int .i64 z∧(0≤z↔¬ ∀ k∈xs,KindOk k)):=by
 have bS:=S.bound
 refine e_start (vs:=[_,_]) Tryz.func190 rfl (n:=19) rfl rfl<|e_seq<|e_reg<|s_as rfl<|e_nil<|e_tn<|e_seq<|e_seq<|e_reg<|s_mv rfl<|s_ls tok49.k rfl<|s_mv rfl<|e_nil<|e_tn<|e_block<|fun a F=>w_loopN (fun m a' w'=>∃ (i:Nat),m=xs.length - i∧Fits 19 a' [(0,.slice (ad) (xs.length) (cd)),(1,.func (.func 154) #[] #[]),(7,.int .i64 (((xs.length:Nat):Int))),(8,.int .i64 (((i:Nat):Int)))]∧Mem w0 G (L) w'∧(i≤xs.length)∧(∀ (m:Nat) (k:KindD),m < i→xs[m]?=some k→KindOk k)) _ ⟨0,rfl,F.to ⟨rfl,rfl,rfl,rfl,trivial⟩,M,Nat.zero_le _,fun m d h=>by omega⟩ ?_
 clear F M
 rintro m a w ⟨i,rfl,F,M,hi,hA⟩
 revert a
 refine e_seq<|e_reg<|s_lt rfl rfl<|e_nil<|e_tn<|e_seq<|e_cond rfl ?_ ?_
 ·intro hc
  have h1b:=hc;clear hc
  have h1:((i:Nat):Int) < ((xs.length:Nat):Int):=of_decide_eq_true h1b
  refine e_skip<|e_tn<|e_seq<|e_block<|e_seq<|e_reg<|s_mv rfl<|s_as rfl<|e_nil<|e_tn<|e_seq<|e_reg<|s_mv rfl<|s_mv rfl<|s_mv rfl<|?_
  obtain ⟨Xe2,hXe2⟩:=get_of_lt (xs:=xs) (i:=i) (by omega)
  obtain ⟨be2,oe2,_,Ie2,_,Ae2,hTe2⟩:=S.at hXe2
  obtain ⟨c1e2,hcse2,hPe2,hBe2⟩:=hTe2
  obtain ⟨tae2,tce2,kae2,kce2,rfl,hke2,hle2,SAe2,SKe2⟩:=rdT_open hPe2
  subst hcse2
  have hQe2:-9223372036854775808≤Xe2.base∧Xe2.base≤9223372036854775807:=hBe2
  refine s_ix tok49.k tok81 Ie2 rfl rfl<|e_run (fun a F=>run_loadA tok81 rfl (F.ev rfl) (cs:=[.int .u8 (Xe2.part.kind),.string (str (Xe2.part.tag)),.string (str (Xe2.part.key)),.slice (tae2) (Xe2.part.as.length) (tce2),.string (str (Xe2.part.text)),.slice (kae2) (Xe2.part.kids.length) (kce2),.int .i64 (Xe2.base),.bool (Xe2.sticky),.int .i64 (Xe2.pool)]) rfl (M.cellsA Ae2 0 (by omega) rfl)) rfl<|s_vS ent154 (caps:=[]) rfl rfl rfl (valid1_spec (k:=Xe2) M hke2 hle2 SAe2 SKe2)<|?_;clear M;rintro _ w M ⟨b3,rfl,hb3⟩
  refine e_nil<|e_tn<|e_cond rfl ?_ ?_
  ·intro hc
   have h4b:=hc;clear hc
   have h4:(b3)=true:=h4b
   refine e_seq<|e_reg<|s_mv rfl<|s_as rfl<|e_nil<|e_tn<|e_ret<|e_br<|e_tr<|e_tr<|e_br<|e_tr<|e_fin1 rfl rfl<|?_
   exact ⟨M,_,rfl,⟨fun _ h_=>(hb3.1 (by assumption)) (h_ _ (List.mem_of_getElem? hXe2)),fun _=>by omega⟩⟩
  ·intro hc
   have h5b:=hc;clear hc
   have h5:(b3)=false:=h5b
   refine e_skip<|e_bn<|e_tn<|e_reg<|s_add rfl rfl<|s_mv rfl<|e_nil<|e_tn<|fun a F=>?_
   exact ⟨_,by omega,i+1,rfl,F.to ⟨rfl,rfl,rfl,rfl,trivial⟩,M,by omega,all_step hA hXe2 (Classical.byContradiction fun h_=>by have:=hb3.2 h_;simp_all)⟩
 ·intro hc
  have h6b:=hc;clear hc
  have h6:¬ (((i:Nat):Int) < ((xs.length:Nat):Int)):=of_decide_eq_false h6b
  refine e_exit<|e_te<|e_te<|e_bh<|e_tn<|e_seq<|e_reg<|s_as rfl<|e_nil<|e_tn<|e_ret<|e_fin1 rfl rfl<|?_
  exact ⟨M,_,rfl,⟨fun h=>by omega,fun h=>absurd (all_end hA (by omega)) h⟩⟩
theorem contk_spec {w0 w:World} {G:Ghost} {L:List Res} (M:Mem w0 G L w) {ad:Option Addr} {cd:Nat} {xs:List KindD} (S:RdSl rdKind 9 G (.slice ad xs.length cd) xs):Calls Tryz.prog 156 #[.slice ad xs.length cd,.func (.func 154) #[] #[]] w (RetS w0 G L fun v=>∃ b:Bool,v=.bool b∧(b=true↔¬ ∀ k∈xs,KindOk k)):=by
 refine e_start (vs:=[_,_]) Tryz.func156 rfl (n:=9) rfl rfl<|e_seq<|e_reg<|s_as rfl<|e_nil<|e_tn<|e_seq<|e_reg<|s_mv rfl<|s_mv rfl<|s_cS ent190 rfl rfl (idxk_spec (xs:=xs) M S)<|?_;clear M;rintro _ w M ⟨z1,rfl,hz1⟩
 refine s_gq rfl rfl<|s_as rfl<|e_nil<|e_tn<|e_ret<|e_fin1 rfl rfl<|?_
 exact ⟨M,_,rfl,decide_eq_true_iff.trans hz1⟩
theorem vc_yes {c:RulesD} {b:Bool} (h:(1≤c.kinds.length∧c.kinds.length≤8)∧1≤c.cap∧c.cap≤64) (hb:b=true↔¬ ∀ k∈c.kinds,KindOk k) (h2:b=false):ValidC c :=
 ⟨⟨h.1,h.2⟩,Classical.byContradiction fun h3=>by rw [hb.2 h3] at h2;cases h2⟩
theorem vc_no {c:RulesD} {b:Bool} (hb:b=true↔¬ ∀ k∈c.kinds,KindOk k) (h2:b=true):¬ ValidC c:=fun h=>hb.1 h2 h.2
theorem valid_spec {w0 w:World} {G:Ghost} {L:List Res} (M:Mem w0 G L w) {c:RulesD} {kca:Option Addr} {kcc:Nat} (SC:RdSl rdKind 9 G (.slice kca c.kinds.length kcc) c.kinds):Calls Tryz.prog 112 #[.agg #[.slice (kca) (c.kinds.length) (kcc),.int .i64 (c.cap)]] w (RetS w0 G L fun v=>v=.int .i64 (validE c)):=by
 refine e_start (vs:=[_]) Tryz.func112 rfl (n:=30) rfl rfl<|e_seq<|e_reg<|s_bx M rfl rfl rfl<|?_;clear M;intro b1 w M
 refine s_as rfl<|e_nil<|e_tn<|e_seq<|e_reg<|s_as rfl<|e_nil<|e_tn<|e_seq<|e_seq<|e_reg<|s_fa tok51.k rfl rfl<|s_ld tok49 M 0 rfl rfl rfl rfl<|s_ls tok49.k rfl<|s_lt rfl rfl<|s_mv rfl<|?_
 rcases Bool.eq_false_or_eq_true (decide (((c.kinds.length:Nat):Int) < 1)) with hc | hc
 ·skip
  have h2b:=hc;clear hc
  have h2:((c.kinds.length:Nat):Int) < 1:=of_decide_eq_true h2b
  refine g_f rfl h2b<|g_f rfl h2b<|g_f rfl h2b<|g_f rfl h2b<|s_pt rfl h2b rfl<|s_mv rfl<|g_f rfl rfl<|g_f rfl rfl<|g_f rfl rfl<|s_pt rfl rfl rfl<|s_mv rfl<|g_f rfl rfl<|g_f rfl rfl<|g_f rfl rfl<|s_pt rfl rfl rfl<|s_mv rfl<|g_f rfl rfl<|g_f rfl rfl<|g_f rfl rfl<|g_f rfl rfl<|s_pt rfl rfl rfl<|e_nil<|e_tn<|e_cond_t rfl rfl<|?_
  refine e_seq<|e_reg<|s_as rfl<|e_nil<|e_tn<|e_ret<|e_tr<|e_fin1 rfl rfl<|?_
  exact ⟨(M.weaken (.cons _ (List.Sublist.refl _))),by rw [validE_no (by first | exact vc_no h0 (by assumption) | exact fun h_=>absurd h_.1 (by omega))]⟩
 ·skip
  have h3b:=hc;clear hc
  have h3:¬ (((c.kinds.length:Nat):Int) < 1):=of_decide_eq_false h3b
  refine g_t rfl h3b<|s_fa tok51.k rfl rfl<|g_t rfl h3b<|s_ld tok49 M 0 rfl rfl rfl rfl<|g_t rfl h3b<|s_ls tok49.k rfl<|g_t rfl h3b<|s_gt rfl rfl<|s_pf rfl h3b rfl<|s_mv rfl<|?_
  rcases Bool.eq_false_or_eq_true (decide (8 < ((c.kinds.length:Nat):Int))) with hc | hc
  ·skip
   have h4b:=hc;clear hc
   have h4:8 < ((c.kinds.length:Nat):Int):=of_decide_eq_true h4b
   refine g_f rfl h4b<|g_f rfl h4b<|g_f rfl h4b<|s_pt rfl h4b rfl<|s_mv rfl<|g_f rfl rfl<|g_f rfl rfl<|g_f rfl rfl<|s_pt rfl rfl rfl<|s_mv rfl<|g_f rfl rfl<|g_f rfl rfl<|g_f rfl rfl<|g_f rfl rfl<|s_pt rfl rfl rfl<|e_nil<|e_tn<|e_cond_t rfl rfl<|e_seq<|e_reg<|s_as rfl<|e_nil<|e_tn<|e_ret<|?_
   refine e_tr<|e_fin1 rfl rfl<|?_
   exact ⟨(M.weaken (.cons _ (List.Sublist.refl _))),by rw [validE_no (by first | exact vc_no h0 (by assumption) | exact fun h_=>absurd h_.1 (by omega))]⟩
  ·skip
   have h5b:=hc;clear hc
   have h5:¬ (8 < ((c.kinds.length:Nat):Int)):=of_decide_eq_false h5b
   refine g_t rfl h5b<|s_fa tok51.k rfl rfl<|g_t rfl h5b<|s_ld tok3 M 0 rfl rfl rfl rfl<|g_t rfl h5b<|s_lt rfl rfl<|s_pf rfl h5b rfl<|s_mv rfl<|?_
   rcases Bool.eq_false_or_eq_true (decide (c.cap < 1)) with hc | hc
   ·skip
    have h6b:=hc;clear hc
    have h6:c.cap < 1:=of_decide_eq_true h6b
    refine g_f rfl h6b<|g_f rfl h6b<|g_f rfl h6b<|s_pt rfl h6b rfl<|s_mv rfl<|g_f rfl rfl<|g_f rfl rfl<|g_f rfl rfl<|g_f rfl rfl<|s_pt rfl rfl rfl<|e_nil<|e_tn<|e_cond_t rfl rfl<|e_seq<|e_reg<|s_as rfl<|e_nil<|e_tn<|e_ret<|e_tr<|e_fin1 rfl rfl<|?_
    exact ⟨(M.weaken (.cons _ (List.Sublist.refl _))),by rw [validE_no (by first | exact vc_no h0 (by assumption) | exact fun h_=>absurd h_.1 (by omega))]⟩
   ·skip
    have h7b:=hc;clear hc
    have h7:¬ (c.cap < 1):=of_decide_eq_false h7b
    refine g_t rfl h7b<|s_fa tok51.k rfl rfl<|g_t rfl h7b<|s_ld tok3 M 0 rfl rfl rfl rfl<|g_t rfl h7b<|s_gt rfl rfl<|s_pf rfl h7b rfl<|s_mv rfl<|?_
    rcases Bool.eq_false_or_eq_true (decide (64 < c.cap)) with hc | hc
    ·skip
     have h8b:=hc;clear hc
     have h8:64 < c.cap:=of_decide_eq_true h8b
     refine g_f rfl h8b<|g_f rfl h8b<|g_f rfl h8b<|g_f rfl h8b<|s_pt rfl h8b rfl<|e_nil<|e_tn<|e_cond_t rfl rfl<|e_seq<|e_reg<|s_as rfl<|e_nil<|e_tn<|e_ret<|e_tr<|e_fin1 rfl rfl<|?_
     exact ⟨(M.weaken (.cons _ (List.Sublist.refl _))),by rw [validE_no (by first | exact vc_no h0 (by assumption) | exact fun h_=>absurd h_.1 (by omega))]⟩
    ·skip
     have h9b:=hc;clear hc
     have h9:¬ (64 < c.cap):=of_decide_eq_false h9b
     refine g_t rfl h9b<|s_fa tok51.k rfl rfl<|g_t rfl h9b<|s_ld tok49 M 0 rfl rfl rfl rfl<|g_t rfl h9b<|s_mv rfl<|g_t rfl h9b<|s_cS ent156 rfl rfl (contk_spec (xs:=c.kinds) M SC)<|?_;clear M;rintro _ w M ⟨b10,rfl,hb10⟩
     refine s_pf rfl h9b rfl<|e_nil<|e_tn<|e_cond rfl ?_ ?_
     ·intro hc
      have h11b:=hc;clear hc
      have h11:(b10)=true:=h11b
      refine e_seq<|e_reg<|s_as rfl<|e_nil<|e_tn<|e_ret<|e_tr<|e_fin1 rfl rfl<|?_
      exact ⟨(M.weaken (.cons _ (List.Sublist.refl _))),by rw [validE_no (by first | exact vc_no hb10 (by assumption) | exact fun h_=>absurd h_.1 (by omega))]⟩
     ·intro hc
      have h12b:=hc;clear hc
      have h12:(b10)=false:=h12b
      refine e_skip<|e_tn<|e_seq<|e_reg<|s_as rfl<|e_nil<|e_tn<|e_ret<|e_fin1 rfl rfl<|?_
      exact ⟨(M.weaken (.cons _ (List.Sublist.refl _))),by rw [validE_yes (by first | exact vc_yes (by omega) hb10 (by assumption) | exact ⟨⟨⟨by omega,by omega⟩,by omega,by omega⟩,all_end hA (by omega)⟩)]⟩
open Go Go.Y Go.Proofs
set_option linter.unusedSimpArgs false
set_option linter.unusedVariables false
theorem tren_s {w0 w:World} {G:Ghost} {L:List Res} (M:Mem w0 G L w) {k:KindD} {ta ka:Option Addr} {tc kc:Nat} (hk:inKind .u8 k.part.kind) (hl:(k.part.tag.length≤9223372036854775807∧k.part.key.length≤9223372036854775807∧k.part.text.length≤9223372036854775807)) (SA:RdSl T.rdSlot 3 G (.slice ta k.part.as.length tc) k.part.as) (SK:RdSl T.rdP 6 G (.slice ka k.part.kids.length kc) k.part.kids) {x:ItemD} {ma:Option Addr} {mc:Nat} (hI:(x.key < 18446744073709551616∧x.typ < 256∧x.text.length≤9223372036854775807)) (SM:RdSl rdStr 1 G (.slice ma x.marks.length mc) x.marks) {most:Int}:Calls Tryz.prog 157 #[.agg #[.int .u8 (k.part.kind),.string (str (k.part.tag)),.string (str (k.part.key)),.slice (ta) (k.part.as.length) (tc),.string (str (k.part.text)),.slice (ka) (k.part.kids.length) (kc)],.agg #[.int .u64 (((x.key:Nat):Int)),.int .u8 (((x.typ:Nat):Int)),.string (str (x.text)),.slice (ma) (x.marks.length) (mc)],.int .i64 most] w (RetS w0 G L fun v=>∃ (n1:Int) (s1 s2 s3:ByteArray) (a1 a2:Option Addr) (l1 c1 l2 c2:Nat),v=.tuple #[.agg #[.int .u8 n1,.string s1,.string s2,.slice a1 l1 c1,.string s3,.slice a2 l2 c2],.int .i64 (T.rendE k.part (tI x) most)]):=by
 refine Ret.plain M ((T.trender_spec (x:=tI x) (most:=most) M hk hl SA SK hI.2.2 SM (tI_key hI.1)).mono ?_)
 intro e w' h
 cases e with
 | returned v=>obtain ⟨G',h1,h2,⟨_,_,rfl,_⟩⟩:=h;exact ⟨G',h1,h2,_,_,_,_,_,_,_,_,_,_,rfl⟩
 | panicked c=>exact h
 | outgrown=>exact h
theorem render_spec {w0 w:World} {G:Ghost} {L:List Res} (M:Mem w0 G L w) {c:RulesD} {kca:Option Addr} {kcc:Nat} (SC:RdSl rdKind 9 G (.slice kca c.kinds.length kcc) c.kinds) {x:ItemD} {ma:Option Addr} {mc:Nat} (hI:(x.key < 18446744073709551616∧x.typ < 256∧x.text.length≤9223372036854775807)) (SM:RdSl rdStr 1 G (.slice ma x.marks.length mc) x.marks) {k:KindD} (hK:c.kinds[x.typ]?=some k):Calls Tryz.prog 113 #[.agg #[.slice (kca) (c.kinds.length) (kcc),.int .i64 (c.cap)],.agg #[.int .u64 (((x.key:Nat):Int)),.int .u8 (((x.typ:Nat):Int)),.string (str (x.text)),.slice (ma) (x.marks.length) (mc)]] w (RetS w0 G L fun v=>∃ (n1:Int) (s1 s2 s3:ByteArray) (a1 a2:Option Addr) (l1 c1 l2 c2:Nat),v=.tuple #[.agg #[.int .u8 n1,.string s1,.string s2,.slice a1 l1 c1,.string s3,.slice a2 l2 c2],.int .i64 (renE c x)]):=by
 refine e_start (vs:=[_,_]) Tryz.func113 rfl (n:=19) rfl rfl<|e_seq<|e_reg<|s_bx M rfl rfl rfl<|?_;clear M;intro b1 w M
 refine s_bx M rfl rfl rfl<|?_;clear M;intro b2 w M
 refine s_al M tok193 rfl rfl<|?_;clear M;intro b3 w M
 refine s_as rfl<|e_nil<|e_tn<|e_seq<|fun a F=>w_plan2 [(.free,0),(.pure,1),(.free,2),(.pure,3),(.free,4),(.free,5),(.pure,6),(.pure,7),(.free,8),(.pure,9),(.keep,10),(.free,11),(.free,12),(.chg,13),(.free,14)] [13] (Keep G [.blk b2 [.int .u64 (((x.key:Nat):Int)),.int .u8 (((x.typ:Nat):Int)),.string (str (x.text)),.slice (ma) (x.marks.length) (mc)] 26,.blk b1 [.slice (kca) (c.kinds.length) (kcc),.int .i64 (c.cap)] 51]) rfl (by kernel_rfl) (fun c a d v w h=>by cases d <;> exact h) ((M.drew _).keep (Gle.refl _) (by simp)) ?_
 replace M:=M.drew (w.drawn+1)
 revert a
 refine k_f (fun a F w _=>x_fa tok51.k rfl F rfl) rfl<|k_p (fun a F w M=>run_load1 (agf tok49 rfl) (F.ev rfl) (M.cellL (k:=1) rfl rfl)) rfl<|k_f (fun a F w _=>x_fa tok26.k rfl F rfl) rfl<|k_p (fun a F w M=>run_load1 (agf tok5 rfl) (F.ev rfl) (M.cellL (k:=0) rfl rfl)) rfl<|?_
 obtain ⟨be5,oe5,_,Ie5,_,Ae5,hTe5⟩:=SC.at hK
 obtain ⟨c1e5,hcse5,hPe5,hBe5⟩:=hTe5
 obtain ⟨tae5,tce5,kae5,kce5,rfl,hke5,hle5,SAe5,SKe5⟩:=rdT_open hPe5
 subst hcse5
 have hQe5:-9223372036854775808≤k.base∧k.base≤9223372036854775807:=hBe5
 refine k_f (fun a F w _=>run_indexI tok49.k tok81 (F.ev rfl) (F.ev rfl) (by omega) Ie5) rfl<|k_f (fun a F w _=>x_fa tok81.k rfl F rfl) rfl<|k_p (fun a F w M=>run_loadA tok79 rfl (F.ev rfl) (cs:=[.int .u8 (k.part.kind),.string (str (k.part.tag)),.string (str (k.part.key)),.slice (tae5) (k.part.as.length) (tce5),.string (str (k.part.text)),.slice (kae5) (k.part.kids.length) (kce5)]) rfl (M.cellsA Ae5 0 rfl rfl)) rfl<|k_p (fun a F w M=>run_loadA tok26 rfl (F.ev rfl) (cs:=[.int .u64 (((x.key:Nat):Int)),.int .u8 (((x.typ:Nat):Int)),.string (str (x.text)),.slice (ma) (x.marks.length) (mc)]) rfl (M.cellsL (k:=0) rfl rfl)) rfl<|k_f (fun a F w _=>x_fa tok51.k rfl F rfl) rfl<|k_p (fun a F w M=>run_load1 (agf tok3 rfl) (F.ev rfl) (M.cellL (k:=1) rfl rfl)) rfl<|k_k rfl<|s_cS ent157 rfl rfl (tren_s (k:=k) (x:=x) (most:=c.cap) M hke5 hle5 SAe5 SKe5 hI SM)<|?_;clear M;rintro _ w M ⟨n1n6,s1n6,s2n6,s3n6,a1n6,a2n6,l1n6,c1n6,l2n6,c2n6,rfl⟩
 refine e_nil<|eK (C':=Keep G [.blk b2 [.int .u64 (((x.key:Nat):Int)),.int .u8 (((x.typ:Nat):Int)),.string (str (x.text)),.slice (ma) (x.marks.length) (mc)] 26,.blk b1 [.slice (kca) (c.kinds.length) (kcc),.int .i64 (c.cap)] 51]) (M.keep (Gle.refl _) (by simp)) (fun w h=>h.mono (Gle.refl _) (by simp))<|k_f (fun a F w _=>run_extract (v:=.agg #[.int .u8 (n1n6),.string s1n6,.string s2n6,.slice (a1n6) (l1n6) (c1n6),.string s3n6,.slice (a2n6) (l2n6) (c2n6)]) (F.ev rfl) rfl) rfl<|k_f (fun a F w _=>run_extract (v:=.int .i64 (T.rendE k.part (tI x) c.cap)) (F.ev rfl) rfl) rfl<|k_c rfl<|fun a F=>?_
 refine rl_storeA F M tok193 (k:=0) rfl rfl rfl (us:=[.int .u8 (n1n6),.string s1n6,.string s2n6,.slice (a1n6) (l1n6) (c1n6),.string s3n6,.slice (a2n6) (l2n6) (c2n6)]) rfl rfl (by simp [Value.oneCell']) (by simp) ?_;clear F M a;intro w a M F
 change Mem w0 G (.blk b3 [.int .u8 (n1n6),.string s1n6,.string s2n6,.slice (a1n6) (l1n6) (c1n6),.string s3n6,.slice (a2n6) (l2n6) (c2n6)] 193::_::_::L) _ at M
 revert a
 refine e_nil<|fun a F=>⟨Keep G [.blk b3 [.int .u8 (n1n6),.string s1n6,.string s2n6,.slice (a1n6) (l1n6) (c1n6),.string s3n6,.slice (a2n6) (l2n6) (c2n6)] 193,.blk b2 [.int .u64 (((x.key:Nat):Int)),.int .u8 (((x.typ:Nat):Int)),.string (str (x.text)),.slice (ma) (x.marks.length) (mc)] 26,.blk b1 [.slice (kca) (c.kinds.length) (kcc),.int .i64 (c.cap)] 51],M.keep (Gle.refl _) (by simp),?_⟩
 revert a
 refine k_f (fun a F w _=>x_as F rfl) rfl<|k_nil<|e_tn<|e_ret<|fun a F=>fin_ct F M (k:=0) rfl rfl tok193 rfl rfl rfl rfl ?_
 exact ⟨M.weaken (.cons _ (.cons _ (.cons _ (List.Sublist.refl _)))),_,_,_,_,_,_,_,_,_,_,by rw [ren_at hK]⟩
theorem total_spec {w0 w:World} {G:Ghost} {L:List Res} (M:Mem w0 G L w) {a1:Option Addr} {c1:Nat} {l:List EntD} (S:RdSl rdEnt 6 G (.slice a1 l.length c1) l):Calls Tryz.prog 158 #[.agg #[.slice a1 l.length c1]] w (RetS w0 G L fun v=>v=.int .i64 (totF l)):=by
 have bS:=S.bound
 refine e_start (vs:=[_]) Tryz.func158 rfl (n:=26) rfl rfl<|e_seq<|e_reg<|s_bx M rfl rfl rfl<|?_;clear M;intro b1 w M
 refine s_as rfl<|e_nil<|e_tn<|e_seq<|e_reg<|s_as rfl<|e_nil<|e_tn<|e_seq<|e_seq<|e_reg<|s_fa tok54.k rfl rfl<|s_ld tok52 M 0 rfl rfl rfl rfl<|s_ls tok52.k rfl<|s_mv rfl<|e_nil<|e_tn<|e_block<|fun a F=>w_loopN (fun m a' w'=>∃ (i:Nat),∃ (z:Int),m=l.length - i∧Fits 26 a' [(1,.pointer (some ⟨b1,0,none⟩)),(8,.slice (a1) (l.length) (c1)),(9,.int .i64 (((l.length:Nat):Int))),(3,.int .i64 (z)),(10,.int .i64 (((i:Nat):Int)))]∧Mem w0 G (.blk b1 [.slice (a1) (l.length) (c1)] 54::L) w'∧(i≤l.length)∧(z=sumF (l.take i))∧(z≤4611686018427387904)) _ ⟨0,0,rfl,F.to ⟨rfl,rfl,rfl,rfl,rfl,trivial⟩,M,Nat.zero_le _,rfl,by omega⟩ ?_
 clear F M
 rintro m a w ⟨i,z,rfl,F,M,hi,hz,hz2⟩
 revert a
 refine e_seq<|e_reg<|s_lt rfl rfl<|e_nil<|e_tn<|e_seq<|e_cond rfl ?_ ?_
 ·intro hc
  have h2b:=hc;clear hc
  have h2:((i:Nat):Int) < ((l.length:Nat):Int):=of_decide_eq_true h2b
  refine e_skip<|e_tn<|e_seq<|e_block<|e_seq<|?_
  have hnn:=sumF_nn (l.take i)
  refine e_reg<|?_
  obtain ⟨Xe3,hXe3⟩:=get_of_lt (xs:=l) (i:=i) (by omega)
  obtain ⟨be3,oe3,_,Ie3,_,Ae3,hTe3⟩:=S.at hXe3
  obtain ⟨c1e3,hcse3,hPe3,hBe3⟩:=hTe3
  obtain ⟨mae3,mce3,rfl,hke3,hte3,hxe3,hne3,SMe3⟩:=hPe3
  subst hcse3
  have hIe3:(Xe3.item.key < 18446744073709551616∧Xe3.item.typ < 256∧Xe3.item.text.length≤9223372036854775807):=⟨hke3,hte3,hxe3⟩
  have hQe3:-9223372036854775808≤Xe3.size∧Xe3.size≤9223372036854775807:=hBe3
  refine s_ix tok52.k tok69 Ie3 rfl rfl<|e_run (fun a F=>run_loadA tok69 rfl (F.ev rfl) (cs:=[.int .u64 (((Xe3.item.key:Nat):Int)),.int .u8 (((Xe3.item.typ:Nat):Int)),.string (str (Xe3.item.text)),.slice (mae3) (Xe3.item.marks.length) (mce3),.int .i64 (Xe3.size),.bool (Xe3.known)]) rfl (M.cellsA Ae3 0 (by omega) rfl)) rfl<|s_al M tok69 rfl rfl<|?_;clear M;intro b4 w M
  intro a F
  refine rl_storeA F M tok69 (k:=0) rfl rfl rfl (us:=[.int .u64 (((Xe3.item.key:Nat):Int)),.int .u8 (((Xe3.item.typ:Nat):Int)),.string (str (Xe3.item.text)),.slice (mae3) (Xe3.item.marks.length) (mce3),.int .i64 (Xe3.size),.bool (Xe3.known)]) rfl rfl (by simp [Value.oneCell']) (by simp) ?_;clear F M a;intro w a M F
  change Mem w0 G (.blk b4 [.int .u64 (((Xe3.item.key:Nat):Int)),.int .u8 (((Xe3.item.typ:Nat):Int)),.string (str (Xe3.item.text)),.slice (mae3) (Xe3.item.marks.length) (mce3),.int .i64 (Xe3.size),.bool (Xe3.known)] 69::_::L) _ at M
  revert a
  refine e_nil<|e_tn<|e_seq<|e_reg<|s_fa tok69.k rfl rfl<|s_ld tok2 M 0 rfl rfl rfl rfl<|e_run (fun a F=>run_max2 (F.ev rfl) (F.ev rfl)) rfl<|s_as rfl<|e_nil<|e_tn<|e_seq<|e_seq<|e_reg<|s_mv rfl<|s_mv rfl<|s_sub rfl rfl<|s_gt rfl rfl<|e_nil<|e_tn<|e_cond rfl ?_ ?_
  ·intro hc
   have h6b:=hc;clear hc
   have h6:4611686018427387904 - z < max (Xe3.size) 0:=of_decide_eq_true h6b
   refine e_seq<|e_reg<|s_as rfl<|e_nil<|e_tn<|e_ret<|e_tr<|e_br<|e_tr<|e_tr<|e_br<|e_tr<|e_fin1 rfl rfl<|?_
   exact ⟨M.weaken (.cons _ (.cons _ (List.Sublist.refl _))),by rw [tot_big (i:=i+1) (by rw [sumF_snoc hXe3];omega)]⟩
  ·intro hc
   have h7b:=hc;clear hc
   have h7:¬ (4611686018427387904 - z < max (Xe3.size) 0):=of_decide_eq_false h7b
   refine e_skip<|e_tn<|e_reg<|s_mv rfl<|s_mv rfl<|s_add rfl rfl<|s_as rfl<|e_nil<|e_bn<|e_tn<|e_reg<|s_add rfl rfl<|s_mv rfl<|e_nil<|e_tn<|fun a F=>?_
   exact ⟨_,by omega,i+1,z+(max (Xe3.size) 0),rfl,F.to ⟨rfl,rfl,rfl,rfl,rfl,trivial⟩,(M.weaken (.cons _ (.cons_cons _ (List.Sublist.refl _)))),by omega,by rw [sumF_snoc hXe3];omega,by omega⟩
 ·intro hc
  have h8b:=hc;clear hc
  have h8:¬ (((i:Nat):Int) < ((l.length:Nat):Int)):=of_decide_eq_false h8b
  refine e_exit<|e_te<|e_te<|e_bh<|e_tn<|e_seq<|e_reg<|s_mv rfl<|s_as rfl<|e_nil<|e_tn<|e_ret<|e_fin1 rfl rfl<|?_
  exact ⟨M.weaken (.cons _ (List.Sublist.refl _)),by rw [tot_fit hz (by omega) (by omega)]⟩
theorem over_spec {w0 w:World} {G:Ghost} {L:List Res} (M:Mem w0 G L w) {a1:Option Addr} {c1:Nat} {l:List EntD} (S:RdSl rdEnt 6 G (.slice a1 l.length c1) l):Calls Tryz.prog 115 #[.agg #[.slice a1 l.length c1]] w (RetS w0 G L fun v=>v=.int .i64 (overE l)):=by
 refine e_start (vs:=[_]) Tryz.func115 rfl (n:=6) rfl rfl<|e_seq<|e_reg<|s_bx M rfl rfl rfl<|?_;clear M;intro b1 w M
 refine s_as rfl<|e_nil<|e_tn<|e_seq<|e_seq<|e_reg<|e_run (fun a F=>run_loadA tok54 rfl (F.ev rfl) (cs:=[.slice (a1) (l.length) (c1)]) rfl (M.cellsL (k:=0) rfl rfl)) rfl<|s_cS ent158 rfl rfl (total_spec (l:=l) M S)<|?_;clear M;rintro _ w M rfl
 refine s_gt rfl rfl<|e_nil<|e_tn<|e_cond rfl ?_ ?_
 ·intro hc
  have h2b:=hc;clear hc
  have h2:4611686018427387904 < totF l:=of_decide_eq_true h2b
  refine e_seq<|e_reg<|s_as rfl<|e_nil<|e_tn<|e_ret<|e_tr<|e_fin1 rfl rfl<|?_
  exact ⟨M.weaken (.cons _ (List.Sublist.refl _)),by rw [over_no (by assumption)]⟩
 ·intro hc
  have h3b:=hc;clear hc
  have h3:¬ (4611686018427387904 < totF l):=of_decide_eq_false h3b
  refine e_skip<|e_tn<|e_seq<|e_reg<|s_as rfl<|e_nil<|e_tn<|e_ret<|e_fin1 rfl rfl<|?_
  exact ⟨M.weaken (.cons _ (List.Sublist.refl _)),by rw [over_yes (by assumption)]⟩
theorem lcheck_spec {w0 w:World} {G:Ghost} {L:List Res} (M:Mem w0 G L w) {c:RulesD} {kca:Option Addr} {kcc:Nat} (SC:RdSl rdKind 9 G (.slice kca c.kinds.length kcc) c.kinds) {a1:Option Addr} {c1:Nat} {l:List EntD} (S:RdSl rdEnt 6 G (.slice a1 l.length c1) l):Calls Tryz.prog 68 #[.agg #[.slice (kca) (c.kinds.length) (kcc),.int .i64 (c.cap)],.agg #[.slice a1 l.length c1]] w (RetS w0 G L fun v=>v=.int .i64 (checkE c l)):=by
 have bS:=S.bound
 refine e_start (vs:=[_,_]) Tryz.func68 rfl (n:=81) rfl rfl<|e_seq<|e_reg<|s_bx M rfl rfl rfl<|?_;clear M;intro b1 w M
 refine s_bx M rfl rfl rfl<|?_;clear M;intro b2 w M
 refine s_as rfl<|e_nil<|e_tn<|e_seq<|e_seq<|e_reg<|e_run (fun a F=>run_loadA tok51 rfl (F.ev rfl) (cs:=[.slice (kca) (c.kinds.length) (kcc),.int .i64 (c.cap)]) rfl (M.cellsL (k:=1) rfl rfl)) rfl<|s_cS ent112 rfl rfl (valid_spec (c:=c) M SC)<|?_;clear M;rintro _ w M rfl
 refine s_as rfl<|e_nil<|e_tn<|e_seq<|e_reg<|s_mv rfl<|s_ne rfl rfl<|e_nil<|e_tn<|e_cond rfl ?_ ?_
 ·intro hc
  have h3b:=hc;clear hc
  have h3:¬ (validE c=0):=of_decide_eq_false (of_not_t h3b)
  have h3c:(decide (validE c=0))=false:=(of_not_t h3b)
  refine e_seq<|e_reg<|s_mv rfl<|s_as rfl<|e_nil<|e_tn<|e_ret<|e_tr<|e_fin1 rfl rfl<|?_
  exact ⟨M.weaken (.cons _ (.cons _ (List.Sublist.refl _))),by rw [check_7 (fun h_=>by have h9_:=validE_yes h_;omega),validE_no (fun h_=>by have h9_:=validE_yes h_;omega)]⟩
 ·intro hc
  have h4b:=hc;clear hc
  have h4:validE c=0:=of_decide_eq_true (of_not_f h4b)
  have h4c:(decide (validE c=0))=true:=(of_not_f h4b)
  refine e_skip<|e_tn<|e_seq<|e_seq<|e_reg<|s_fa tok54.k rfl rfl<|s_ld tok52 M 0 rfl rfl rfl rfl<|s_ls tok52.k rfl<|s_gt rfl rfl<|e_nil<|e_tn<|e_cond rfl ?_ ?_
  ·intro hc
   have h5b:=hc;clear hc
   have h5:1024 < ((l.length:Nat):Int):=of_decide_eq_true h5b
   refine e_seq<|e_reg<|s_as rfl<|e_nil<|e_tn<|e_ret<|e_tr<|e_fin1 rfl rfl<|?_
   exact ⟨M.weaken (.cons _ (.cons _ (List.Sublist.refl _))),by rw [check_3 (validE_zero.1 (by omega)) (by omega)]⟩
  ·intro hc
   have h6b:=hc;clear hc
   have h6:¬ (1024 < ((l.length:Nat):Int)):=of_decide_eq_false h6b
   refine e_skip<|e_tn<|e_seq<|e_reg<|fun a F=>?_
   refine rl_makeSet (kt:=23) (et:=4) F M rfl ?_;clear F M a;intro bm7 w a M F
   revert a
   refine s_as rfl<|e_nil<|e_tn<|e_seq<|e_seq<|e_reg<|s_fa tok54.k rfl rfl<|s_ld tok52 M 1 rfl rfl rfl rfl<|s_ls tok52.k rfl<|s_mv rfl<|e_nil<|e_tn<|e_block<|?_
   have hv:ValidC c:=validE_zero.1 (Classical.byContradiction fun h_=>by first | omega | simp_all)
   intro a F
   refine w_loopN (fun m a' w'=>∃ (i:Nat),∃ (es:Array MapEntry),∃ (cl:Nat),∃ (ks:List Nat),m=l.length - i∧Fits 81 a' [(2,.pointer (some ⟨b1,0,none⟩)),(3,.pointer (some ⟨b2,0,none⟩)),(6,.map (some bm7)),(23,.slice (a1) (l.length) (c1)),(24,.int .i64 (((l.length:Nat):Int))),(25,.int .i64 (((i:Nat):Int)))]∧Mem w0 G (.obj bm7 (.map es cl)::.blk b2 [.slice (a1) (l.length) (c1)] 54::.blk b1 [.slice (kca) (c.kinds.length) (kcc),.int .i64 (c.cap)] 51::L) w'∧(i≤l.length)∧(SetIs es ks)∧(KeysTo l i ks)∧(firstE (scanE c l) i=0)) _ ⟨0,#[],0,([]:List Nat),rfl,F.to ⟨rfl,rfl,rfl,rfl,rfl,rfl,trivial⟩,M,Nat.zero_le _,SetIs.nil,KeysTo.zero l,rfl⟩ ?_
   clear F M
   rintro m a w ⟨i,es,cl,ks,rfl,F,M,hi,Es,hks,hS⟩
   revert a
   refine e_seq<|e_reg<|s_lt rfl rfl<|e_nil<|e_tn<|e_seq<|e_cond rfl ?_ ?_
   ·intro hc
    have h8b:=hc;clear hc
    have h8:((i:Nat):Int) < ((l.length:Nat):Int):=of_decide_eq_true h8b
    refine e_skip<|e_tn<|e_seq<|e_block<|e_seq<|e_reg<|?_
    obtain ⟨Xe9,hXe9⟩:=get_of_lt (xs:=l) (i:=i) (by omega)
    obtain ⟨be9,oe9,_,Ie9,_,Ae9,hTe9⟩:=S.at hXe9
    obtain ⟨c1e9,hcse9,hPe9,hBe9⟩:=hTe9
    obtain ⟨mae9,mce9,rfl,hke9,hte9,hxe9,hne9,SMe9⟩:=hPe9
    subst hcse9
    have hIe9:(Xe9.item.key < 18446744073709551616∧Xe9.item.typ < 256∧Xe9.item.text.length≤9223372036854775807):=⟨hke9,hte9,hxe9⟩
    have hQe9:-9223372036854775808≤Xe9.size∧Xe9.size≤9223372036854775807:=hBe9
    refine s_ix tok52.k tok69 Ie9 rfl rfl<|e_run (fun a F=>run_loadA tok69 rfl (F.ev rfl) (cs:=[.int .u64 (((Xe9.item.key:Nat):Int)),.int .u8 (((Xe9.item.typ:Nat):Int)),.string (str (Xe9.item.text)),.slice (mae9) (Xe9.item.marks.length) (mce9),.int .i64 (Xe9.size),.bool (Xe9.known)]) rfl (M.cellsA Ae9 0 (by omega) rfl)) rfl<|s_al M tok69 rfl rfl<|?_;clear M;intro b10 w M
    intro a F
    refine rl_storeA F M tok69 (k:=0) rfl rfl rfl (us:=[.int .u64 (((Xe9.item.key:Nat):Int)),.int .u8 (((Xe9.item.typ:Nat):Int)),.string (str (Xe9.item.text)),.slice (mae9) (Xe9.item.marks.length) (mce9),.int .i64 (Xe9.size),.bool (Xe9.known)]) rfl rfl (by simp [Value.oneCell']) (by simp) ?_;clear F M a;intro w a M F
    change Mem w0 G (.blk b10 [.int .u64 (((Xe9.item.key:Nat):Int)),.int .u8 (((Xe9.item.typ:Nat):Int)),.string (str (Xe9.item.text)),.slice (mae9) (Xe9.item.marks.length) (mce9),.int .i64 (Xe9.size),.bool (Xe9.known)] 69::_::_::_::L) _ at M
    revert a
    refine e_nil<|e_tn<|e_seq<|e_seq<|e_reg<|s_fa tok69.k rfl rfl<|e_run (fun a F=>run_loadA tok26 rfl (F.ev rfl) (cs:=[.int .u64 (((Xe9.item.key:Nat):Int)),.int .u8 (((Xe9.item.typ:Nat):Int)),.string (str (Xe9.item.text)),.slice (mae9) (Xe9.item.marks.length) (mce9)]) rfl (M.cellsL (k:=0) rfl rfl)) rfl<|s_fa tok51.k rfl rfl<|s_ld tok49 M 3 rfl rfl rfl rfl<|s_ls tok49.k rfl<|s_cS ent14 rfl rfl (check_spec (x:=Xe9.item) (t:=((c.kinds.length:Nat):Int)) M hIe9 SMe9)<|?_;clear M;rintro _ w M rfl
    refine s_as rfl<|e_nil<|e_tn<|e_seq<|e_reg<|s_mv rfl<|s_ne rfl rfl<|e_nil<|e_tn<|e_cond rfl ?_ ?_
    ·intro hc
     have h12b:=hc;clear hc
     have h12:¬ (itmF (((c.kinds.length:Nat):Int)) Xe9.item=0):=of_decide_eq_false (of_not_t h12b)
     have h12c:(decide (itmF (((c.kinds.length:Nat):Int)) Xe9.item=0))=false:=(of_not_t h12b)
     refine e_seq<|e_reg<|s_mv rfl<|s_as rfl<|e_nil<|e_tn<|e_ret<|e_tr<|e_br<|e_tr<|e_tr<|e_br<|e_tr<|e_fin1 rfl rfl<|?_
     exact ⟨M.weaken (.cons _ (.cons _ (.cons _ (.cons _ (List.Sublist.refl _))))),by rw [ck6 hv (by omega) hS hXe9 (fun h_=>by have h9_:=itmF_yes h_;omega),itmF_no (fun h_=>by have h9_:=itmF_yes h_;omega)]⟩
    ·intro hc
     have h13b:=hc;clear hc
     have h13:itmF (((c.kinds.length:Nat):Int)) Xe9.item=0:=of_decide_eq_true (of_not_f h13b)
     have h13c:(decide (itmF (((c.kinds.length:Nat):Int)) Xe9.item=0))=true:=(of_not_f h13b)
     refine e_skip<|e_tn<|e_seq<|e_seq<|?_
     have hok:ItemOk (c.kinds.length:Int) Xe9.item:=itmF_zero.1 (by omega)
     obtain ⟨k,hK⟩:=kind_of hok
     refine e_reg<|s_mv rfl<|s_fa tok69.k rfl rfl<|s_fa tok26.k rfl rfl<|s_ld tok23 M 0 rfl rfl rfl rfl<|fun a F=>rl_lookSet F M (k:=1) rfl Es tok185.k tok23.k tok4 rfl rfl rfl rfl ?_;clear F a;intro a F
     revert a
     refine e_nil<|e_tn<|e_cond rfl ?_ ?_
     ·intro hc
      have h14b:=hc;clear hc
      have h14:Xe9.item.key∈ks:=of_decide_eq_true h14b
      refine e_seq<|e_reg<|s_as rfl<|e_nil<|e_tn<|e_ret<|e_tr<|e_br<|e_tr<|e_tr<|e_br<|e_tr<|e_fin1 rfl rfl<|?_
      exact ⟨M.weaken (.cons _ (.cons _ (.cons _ (.cons _ (List.Sublist.refl _))))),by rw [ck8 hv (by omega) hS hXe9 hok ((hks _).1 (by assumption))]⟩
     ·intro hc
      have h15b:=hc;clear hc
      have h15:¬ (Xe9.item.key∈ks):=of_decide_eq_false h15b
      refine e_skip<|e_tn<|e_seq<|e_reg<|s_mv rfl<|s_fa tok69.k rfl rfl<|s_fa tok26.k rfl rfl<|s_ld tok23 M 0 rfl rfl rfl rfl<|fun a F=>?_
      refine rl_putSet (z:=Xe9.item.key) F M (k:=1) rfl Es tok185.k tok23.k rfl rfl rfl (by assumption) ?_;clear F M a;intro esm16 clm16 w a Em16 M F
      revert a
      refine e_nil<|e_tn<|e_seq<|e_seq<|e_reg<|e_run (fun a F=>run_loadA tok51 rfl (F.ev rfl) (cs:=[.slice (kca) (c.kinds.length) (kcc),.int .i64 (c.cap)]) rfl (M.cellsL (k:=3) rfl rfl)) rfl<|s_fa tok69.k rfl rfl<|e_run (fun a F=>run_loadA tok26 rfl (F.ev rfl) (cs:=[.int .u64 (((Xe9.item.key:Nat):Int)),.int .u8 (((Xe9.item.typ:Nat):Int)),.string (str (Xe9.item.text)),.slice (mae9) (Xe9.item.marks.length) (mce9)]) rfl (M.cellsL (k:=0) rfl rfl)) rfl<|s_cS ent113 rfl rfl (render_spec (c:=c) (x:=Xe9.item) M SC hIe9 SMe9 hK)<|?_;clear M;rintro _ w M ⟨n1n17,s1n17,s2n17,s3n17,a1n17,a2n17,l1n17,c1n17,l2n17,c2n17,rfl⟩
      refine s_mv rfl<|s_ex rfl rfl<|s_ex rfl rfl<|s_al M tok193 rfl rfl<|?_;clear M;intro b18 w M
      intro a F
      refine rl_storeA F M tok193 (k:=0) rfl rfl rfl (us:=[.int .u8 (n1n17),.string s1n17,.string s2n17,.slice (a1n17) (l1n17) (c1n17),.string s3n17,.slice (a2n17) (l2n17) (c2n17)]) rfl rfl (by simp [Value.oneCell']) (by simp) ?_;clear F M a;intro w a M F
      change Mem w0 G (.blk b18 [.int .u8 (n1n17),.string s1n17,.string s2n17,.slice (a1n17) (l1n17) (c1n17),.string s3n17,.slice (a2n17) (l2n17) (c2n17)] 193::.blk b10 [.int .u64 (((Xe9.item.key:Nat):Int)),.int .u8 (((Xe9.item.typ:Nat):Int)),.string (str (Xe9.item.text)),.slice (mae9) (Xe9.item.marks.length) (mce9),.int .i64 (Xe9.size),.bool (Xe9.known)] 69::_::_::_::L) _ at M
      revert a
      refine s_as rfl<|e_nil<|e_tn<|e_seq<|e_reg<|s_mv rfl<|s_ne rfl rfl<|e_nil<|e_tn<|e_cond rfl ?_ ?_
      ·intro hc
       have h20b:=hc;clear hc
       have h20:¬ (renE c Xe9.item=0):=of_decide_eq_false (of_not_t h20b)
       have h20c:(decide (renE c Xe9.item=0))=false:=(of_not_t h20b)
       refine e_seq<|e_reg<|s_as rfl<|e_nil<|e_tn<|e_ret<|e_tr<|e_br<|e_tr<|e_tr<|e_br<|e_tr<|e_fin1 rfl rfl<|?_
       exact ⟨M.weaken (.cons _ (.cons _ (.cons _ (.cons _ (.cons _ (List.Sublist.refl _)))))),by rw [ck14 hv (by omega) hS hXe9 hok (fun h_=>absurd ((hks _).2 h_) (by assumption)) (by omega)]⟩
      ·intro hc
       have h21b:=hc;clear hc
       have h21:renE c Xe9.item=0:=of_decide_eq_true (of_not_f h21b)
       have h21c:(decide (renE c Xe9.item=0))=true:=(of_not_f h21b)
       refine e_skip<|e_tn<|e_seq<|fun a F=>w_plan2 [(.free,0),(.pure,1),(.keep,2),(.free,3),(.free,4),(.free,5),(.pure,6),(.free,7),(.free,8),(.free,9),(.pure,10),(.free,11),(.pure,12),(.free,13),(.free,14),(.pure,15),(.free,16),(.free,17),(.pure,18),(.free,19),(.free,20),(.free,21)] [] (Keep G [.blk b18 [.int .u8 (n1n17),.string s1n17,.string s2n17,.slice (a1n17) (l1n17) (c1n17),.string s3n17,.slice (a2n17) (l2n17) (c2n17)] 193,.blk b10 [.int .u64 (((Xe9.item.key:Nat):Int)),.int .u8 (((Xe9.item.typ:Nat):Int)),.string (str (Xe9.item.text)),.slice (mae9) (Xe9.item.marks.length) (mce9),.int .i64 (Xe9.size),.bool (Xe9.known)] 69,.obj bm7 (.map esm16 clm16),.blk b2 [.slice (a1) (l.length) (c1)] 54,.blk b1 [.slice (kca) (c.kinds.length) (kcc),.int .i64 (c.cap)] 51]) rfl (by kernel_rfl) (fun c a d v w h=>by cases d <;> exact h) ((M.drew _).keep (Gle.refl _) (by simp)) ?_
       replace M:=M.drew (w.drawn+1)
       revert a
       refine k_f (fun a F w _=>x_fa tok69.k rfl F rfl) rfl<|k_p (fun a F w M=>run_load1 (agf tok2 rfl) (F.ev rfl) (M.cellL (k:=1) rfl rfl)) rfl<|k_k rfl<|s_cS ent114 rfl rfl (height_spec (n:=Xe9.size) M)<|?_;clear M;rintro _ w M rfl
       refine e_nil<|eK (C':=Keep G [.blk b18 [.int .u8 (n1n17),.string s1n17,.string s2n17,.slice (a1n17) (l1n17) (c1n17),.string s3n17,.slice (a2n17) (l2n17) (c2n17)] 193,.blk b10 [.int .u64 (((Xe9.item.key:Nat):Int)),.int .u8 (((Xe9.item.typ:Nat):Int)),.string (str (Xe9.item.text)),.slice (mae9) (Xe9.item.marks.length) (mce9),.int .i64 (Xe9.size),.bool (Xe9.known)] 69,.obj bm7 (.map esm16 clm16),.blk b2 [.slice (a1) (l.length) (c1)] 54,.blk b1 [.slice (kca) (c.kinds.length) (kcc),.int .i64 (c.cap)] 51]) (M.keep (Gle.refl _) (by simp)) (fun w h=>h.mono (Gle.refl _) (by simp))<|k_f (fun a F w _=>run_not (F.ev rfl)) rfl<|k_f (fun a F w _=>x_mv F rfl) rfl<|?_
       rcases Bool.eq_false_or_eq_true (!(decide (1≤Xe9.size∧Xe9.size≤2305843009213693952))) with hc | hc
       ·skip
        have h22b:=hc;clear hc
        have h22:¬ (1≤Xe9.size∧Xe9.size≤2305843009213693952):=of_decide_eq_false (of_not_t h22b)
        have h22c:(decide (1≤Xe9.size∧Xe9.size≤2305843009213693952))=false:=(of_not_t h22b)
        refine k_s rfl (not_t h22c)<|k_s rfl (not_t h22c)<|k_s rfl (not_t h22c)<|k_s rfl (not_t h22c)<|k_u rfl<|k_u rfl<|k_u rfl<|k_u rfl<|k_u rfl<|k_u rfl<|k_u rfl<|k_u rfl<|k_u rfl<|k_u rfl<|k_u rfl<|k_s rfl (not_t h22c)<|k_f (fun a F w _=>x_pt F rfl (not_t h22c) rfl) rfl<|k_nil<|e_tn<|e_cond_t rfl rfl<|e_seq<|e_reg<|s_as rfl<|e_nil<|?_
        refine e_tn<|e_ret<|e_br<|e_tr<|e_tr<|e_br<|e_tr<|e_fin1 rfl rfl<|?_
        exact ⟨M.weaken (.cons _ (.cons _ (.cons _ (.cons _ (.cons _ (List.Sublist.refl _)))))),by rw [ck12 hv (by omega) hS hXe9 hok (fun h_=>absurd ((hks _).2 h_) (by assumption)) (by omega) (by unfold SizeOk;rw [base_at hK];clear M;grind)]⟩
       ·skip
        have h23b:=hc;clear hc
        have h23:1≤Xe9.size∧Xe9.size≤2305843009213693952:=of_decide_eq_true (of_not_f h23b)
        have h23c:(decide (1≤Xe9.size∧Xe9.size≤2305843009213693952))=true:=(of_not_f h23b)
        refine k_fg rfl (not_f h23c) (fun a F w _=>x_fa tok69.k rfl F rfl)<|k_pg rfl (not_f h23c) (fun a F w M=>run_load1 (agf tok4 rfl) (F.ev rfl) (M.cellL (k:=1) rfl rfl))<|k_fg rfl (not_f h23c) (fun a F w _=>run_not (F.ev rfl))<|k_fg rfl (not_f h23c) (fun a F w _=>x_mv F rfl)<|?_
        rcases Bool.eq_false_or_eq_true (!(Xe9.known)) with hc | hc
        ·skip
         have h24b:=hc;clear hc
         have h24:(Xe9.known)=false:=(of_not_t h24b)
         have h24c:(Xe9.known)=false:=(of_not_t h24b)
         refine k_fg rfl (not_t h24c) (fun a F w _=>x_fa tok69.k rfl F rfl)<|k_pg rfl (not_t h24c) (fun a F w M=>run_load1 (agf tok2 rfl) (F.ev rfl) (M.cellL (k:=1) rfl rfl))<|k_fg rfl (not_t h24c) (fun a F w _=>x_fa tok51.k rfl F rfl)<|k_pg rfl (not_t h24c) (fun a F w M=>run_load1 (agf tok49 rfl) (F.ev rfl) (M.cellL (k:=4) rfl rfl))<|k_fg rfl (not_t h24c) (fun a F w _=>x_fa tok69.k rfl F rfl)<|k_fg rfl (not_t h24c) (fun a F w _=>x_fa tok26.k rfl F rfl)<|k_pg rfl (not_t h24c) (fun a F w M=>run_load1 (agf tok5 rfl) (F.ev rfl) (M.cellL (k:=1) rfl rfl))<|?_
         obtain ⟨be25,oe25,_,Ie25,_,Ae25,hTe25⟩:=SC.at hK
         obtain ⟨c1e25,hcse25,hPe25,hBe25⟩:=hTe25
         obtain ⟨tae25,tce25,kae25,kce25,rfl,hke25,hle25,SAe25,SKe25⟩:=rdT_open hPe25
         subst hcse25
         have hQe25:-9223372036854775808≤k.base∧k.base≤9223372036854775807:=hBe25
         refine k_fg rfl (not_t h24c) (fun a F w _=>run_indexI tok49.k tok81 (F.ev rfl) (F.ev rfl) (by omega) Ie25)<|k_fg rfl (not_t h24c) (fun a F w _=>x_fa tok81.k rfl F rfl)<|k_pg rfl (not_t h24c) (fun a F w M=>run_load1 (agf tok2 rfl) (F.ev rfl) (M.cellA Ae25 6 rfl rfl))<|k_fg rfl (not_t h24c) (fun a F w _=>run_nei (F.ev rfl) (F.ev rfl))<|k_fg rfl (not_f h23c) (fun a F w _=>x_pt F rfl (not_t h24c) rfl)<|k_f (fun a F w _=>x_pf F rfl (not_f h23c) rfl) rfl<|k_nil<|e_tn<|e_cond rfl ?_ ?_
         ·intro hc
          have h26b:=hc;clear hc
          have h26:¬ (Xe9.size=k.base):=of_decide_eq_false (of_not_t h26b)
          have h26c:(decide (Xe9.size=k.base))=false:=(of_not_t h26b)
          refine e_seq<|e_reg<|s_as rfl<|e_nil<|e_tn<|e_ret<|e_br<|e_tr<|e_tr<|e_br<|e_tr<|e_fin1 rfl rfl<|?_
          exact ⟨M.weaken (.cons _ (.cons _ (.cons _ (.cons _ (.cons _ (List.Sublist.refl _)))))),by rw [ck12 hv (by omega) hS hXe9 hok (fun h_=>absurd ((hks _).2 h_) (by assumption)) (by omega) (by unfold SizeOk;rw [base_at hK];clear M;grind)]⟩
         ·intro hc
          have h27b:=hc;clear hc
          have h27:Xe9.size=k.base:=of_decide_eq_true (of_not_f h27b)
          have h27c:(decide (Xe9.size=k.base))=true:=(of_not_f h27b)
          refine e_skip<|e_bn<|e_tn<|e_reg<|s_add rfl rfl<|s_mv rfl<|e_nil<|e_tn<|fun a F=>?_
          exact ⟨_,by omega,i+1,esm16,clm16,(Xe9.item.key::ks),rfl,F.to ⟨rfl,rfl,rfl,rfl,rfl,rfl,trivial⟩,(M.weaken (.cons _ (.cons _ (.cons_cons _ (.cons_cons _ (.cons_cons _ (List.Sublist.refl _))))))),by omega,Em16,hks.step hXe9,ck0 hS hXe9 hok (fun h_=>absurd ((hks _).2 h_) (by assumption)) (by omega) (by unfold SizeOk;rw [base_at hK];clear F M;grind)⟩
        ·skip
         have h28b:=hc;clear hc
         have h28:(Xe9.known)=true:=(of_not_f h28b)
         have h28c:(Xe9.known)=true:=(of_not_f h28b)
         refine k_s rfl (not_f h28c)<|k_s rfl (not_f h28c)<|k_s rfl (not_f h28c)<|k_s rfl (not_f h28c)<|k_s rfl (not_f h28c)<|k_s rfl (not_f h28c)<|k_s rfl (not_f h28c)<|k_s rfl (not_f h28c)<|k_s rfl (not_f h28c)<|k_s rfl (not_f h28c)<|k_s rfl (not_f h28c)<|k_fg rfl (not_f h23c) (fun a F w _=>x_pf F rfl (not_f h28c) rfl)<|k_f (fun a F w _=>x_pf F rfl (not_f h23c) rfl) rfl<|k_nil<|e_tn<|e_cond_f rfl rfl<|e_skip<|e_bn<|e_tn<|e_reg<|s_add rfl rfl<|s_mv rfl<|e_nil<|e_tn<|?_
         intro a F
         exact ⟨_,by omega,i+1,esm16,clm16,(Xe9.item.key::ks),rfl,F.to ⟨rfl,rfl,rfl,rfl,rfl,rfl,trivial⟩,(M.weaken (.cons _ (.cons _ (.cons_cons _ (.cons_cons _ (.cons_cons _ (List.Sublist.refl _))))))),by omega,Em16,hks.step hXe9,ck0 hS hXe9 hok (fun h_=>absurd ((hks _).2 h_) (by assumption)) (by omega) (by unfold SizeOk;rw [base_at hK];clear F M;grind)⟩
   ·intro hc
    have h29b:=hc;clear hc
    have h29:¬ (((i:Nat):Int) < ((l.length:Nat):Int)):=of_decide_eq_false h29b
    refine e_exit<|e_te<|e_te<|e_bh<|e_tn<|e_seq<|e_reg<|e_run (fun a F=>run_loadA tok54 rfl (F.ev rfl) (cs:=[.slice (a1) (l.length) (c1)]) rfl (M.cellsL (k:=1) rfl rfl)) rfl<|s_cS ent115 rfl rfl (over_spec (l:=l) M S)<|?_;clear M;rintro _ w M rfl
    refine s_as rfl<|e_nil<|e_tn<|e_ret<|e_fin1 rfl rfl<|?_
    exact ⟨M.weaken (.cons _ (.cons _ (.cons _ (List.Sublist.refl _)))),by rw [check_end hv (by omega) hS (by omega)]⟩
open Go Go.Y
set_option linter.unusedSimpArgs false
set_option linter.unusedVariables false
def freshF (c:RulesD) (x:ItemD):EntD:=⟨x,baseOf c x,false⟩
def InsideP (a n m:Int):Prop:=(0≤a∧a≤m)∧(0≤n∧n≤m - a)
instance (a n m:Int):Decidable (InsideP a n m):=by unfold InsideP;infer_instance
def hasI (xs:List ItemD) (k:Nat):Prop:=∃ y∈xs,y.key=k
theorem FindR.has {xs:List ItemD} {k:Nat} {z:Int} (h:FindR xs k z):0≤z↔hasI xs k:=by
 rcases h with ⟨rfl,h⟩ | ⟨i,x,rfl,h1,h2,h3⟩
 ·exact ⟨fun h2=>by omega,fun ⟨y,hy,hk⟩=>absurd hk (h y hy)⟩
 ·exact ⟨fun _=>⟨x,List.mem_of_getElem? h1,h2⟩,fun _=>by omega⟩
/-- The error of the item at a place of those that come. -/
noncomputable def incAt (c:RulesD) (l:List EntD) (xs:List ItemD) (i:Nat):Int:=match xs[i]? with
 | some x=>itemE c x (hasKey l x.key∨hasI (xs.take i) x.key)
 | none=>0
theorem inc_at {c:RulesD} {l:List EntD} {xs:List ItemD} {i:Nat} {x:ItemD} (h:xs[i]?=some x):incAt c l xs i=itemE c x (hasKey l x.key∨hasI (xs.take i) x.key):=by unfold incAt;rw [h]
noncomputable def incE (c:RulesD) (l:List EntD) (xs:List ItemD):Int:=firstE (incAt c l xs) xs.length
def midL (l:List EntD) (p n:Nat) (fr:List EntD):List EntD:=l.take p++fr++l.drop (p+n)
open Classical in
noncomputable def insR (c:RulesD) (l:List EntD) (a:Int) (xs:List ItemD):List EntD × Int :=
 if ¬ InsideP a 0 l.length then ([],4) else if 1024 < l.length+xs.length then ([],3) else if incE c l xs≠0 then ([],incE c l xs)
 else if overE (midL l a.toNat 0 (xs.map (freshF c)))≠0 then ([],13) else (midL l a.toNat 0 (xs.map (freshF c)),0)
section
variable {c:RulesD} {l:List EntD} {a:Int} {xs:List ItemD} {p:Nat}
theorem ins_4 (h:¬ InsideP a 0 l.length):insR c l a xs=([],4):=by unfold insR;rw [if_pos h]
theorem ins_3 (h:InsideP a 0 l.length) (h2:1024 < l.length+xs.length):insR c l a xs=([],3):=by unfold insR;rw [if_neg (not_not_intro h),if_pos h2]
theorem ins_e (h:InsideP a 0 l.length) (h2:¬ 1024 < l.length+xs.length) (h3:incE c l xs≠0):insR c l a xs=([],incE c l xs):=by unfold insR;rw [if_neg (not_not_intro h),if_neg h2,if_pos h3]
theorem ins_13 (h:InsideP a 0 l.length) (h2:¬ 1024 < l.length+xs.length) (h3:incE c l xs=0) (h4:overE (midL l a.toNat 0 (xs.map (freshF c)))≠0):insR c l a xs=([],13):=by
 unfold insR;rw [if_neg (not_not_intro h),if_neg h2,if_neg (not_not_intro h3),if_pos h4]
theorem ins_0 (h:InsideP a 0 l.length) (h2:¬ 1024 < l.length+xs.length) (h3:incE c l xs=0) (h4:overE (midL l a.toNat 0 (xs.map (freshF c)))=0):insR c l a xs=(midL l a.toNat 0 (xs.map (freshF c)),0):=by
 unfold insR;rw [if_neg (not_not_intro h),if_neg h2,if_neg (not_not_intro h3),if_neg (not_not_intro h4)]
end
def remR (l:List EntD) (a n:Int):List EntD × Int:=if InsideP a n l.length then (midL l a.toNat n.toNat [],0) else ([],4)
theorem rem_4 {l:List EntD} {a n:Int} (h:¬ InsideP a n l.length):remR l a n=([],4):=by unfold remR;rw [if_neg h]
theorem rem_0 {l:List EntD} {a n:Int} (h:InsideP a n l.length):remR l a n=(midL l a.toNat n.toNat [],0):=by unfold remR;rw [if_pos h]
def movL (l:List EntD) (p n q:Nat):List EntD:=midL (midL l p n []) q 0 ((l.drop p).take n)
def movR (l:List EntD) (a n b:Int):List EntD × Int:=if InsideP a n l.length∧InsideP b 0 (l.length - n) then (movL l a.toNat n.toNat b.toNat,0) else ([],4)
theorem mov_4 {l:List EntD} {a n b:Int} (h:¬ (InsideP a n l.length∧InsideP b 0 (l.length - n))):movR l a n b=([],4):=by unfold movR;rw [if_neg h]
theorem mov_0 {l:List EntD} {a n b:Int} (h:InsideP a n l.length∧InsideP b 0 (l.length - n)):movR l a n b=(movL l a.toNat n.toNat b.toNat,0):=by unfold movR;rw [if_pos h]
open Classical in
noncomputable def chgE (c:RulesD) (x:ItemD) (other:Prop):Int:=if ¬ ItemOk (c.kinds.length:Int) x then 6 else if other then 9 else if renE c x=0 then 0 else 14
section
variable {c:RulesD} {x:ItemD} {other:Prop}
theorem chgE_6 (h:¬ ItemOk (c.kinds.length:Int) x):chgE c x other=6:=by unfold chgE;rw [if_pos h]
theorem chgE_9 (h:ItemOk (c.kinds.length:Int) x) (h2:other):chgE c x other=9:=by unfold chgE;rw [if_neg (not_not_intro h),if_pos h2]
theorem chgE_14 (h:ItemOk (c.kinds.length:Int) x) (h2:¬ other) (h3:¬ renE c x=0):chgE c x other=14:=by unfold chgE;rw [if_neg (not_not_intro h),if_neg h2,if_neg h3]
theorem chgE_0 (h:ItemOk (c.kinds.length:Int) x) (h2:¬ other) (h3:renE c x=0):chgE c x other=0:=by unfold chgE;rw [if_neg (not_not_intro h),if_neg h2,if_pos h3]
theorem chgE_zero:chgE c x other=0↔ItemOk (c.kinds.length:Int) x∧¬ other∧renE c x=0:=by
 unfold chgE
 split
 ·rename_i h;exact ⟨fun h2=>(by cases h2),fun h2=>absurd h2.1 h⟩
 ·rename_i h
  split
  ·rename_i h1;exact ⟨fun h2=>(by cases h2),fun h2=>absurd h1 h2.2.1⟩
  ·rename_i h1
   split
   ·rename_i h2;exact ⟨fun _=>⟨Classical.byContradiction h,h1,h2⟩,fun _=>rfl⟩
   ·rename_i h2;exact ⟨fun h3=>(by cases h3),fun h3=>absurd h3.2.2 h2⟩
end
def otherK (l:List EntD) (p:Nat) (k:Nat):Prop:=∀ y,l[p]?=some y→y.item.key≠k
noncomputable def chgAt (c:RulesD) (l:List EntD) (p:Nat) (xs:List ItemD) (i:Nat):Int:=match xs[i]? with
 | some x=>chgE c x (otherK l (p+i) x.key)
 | none=>0
theorem chg_at {c:RulesD} {l:List EntD} {p:Nat} {xs:List ItemD} {i:Nat} {x:ItemD} (h:xs[i]?=some x):chgAt c l p xs i=chgE c x (otherK l (p+i) x.key):=by unfold chgAt;rw [h]
open Classical in
noncomputable def chgR (c:RulesD) (l:List EntD) (a:Int) (xs:List ItemD):List EntD × Int :=
 if ¬ InsideP a xs.length l.length then ([],4) else if firstE (chgAt c l a.toNat xs) xs.length≠0 then ([],firstE (chgAt c l a.toNat xs) xs.length)
 else if overE (midL l a.toNat xs.length (xs.map (freshF c)))≠0 then ([],13) else (midL l a.toNat xs.length (xs.map (freshF c)),0)
section
variable {c:RulesD} {l:List EntD} {a:Int} {xs:List ItemD} {i:Nat} {x:ItemD}
theorem chg_4 (h:¬ InsideP a xs.length l.length):chgR c l a xs=([],4):=by unfold chgR;rw [if_pos h]
theorem chg_13 (h:InsideP a xs.length l.length) (h2:firstE (chgAt c l a.toNat xs) xs.length=0) (h4:overE (midL l a.toNat xs.length (xs.map (freshF c)))≠0):chgR c l a xs=([],13):=by
 unfold chgR;rw [if_neg (not_not_intro h),if_neg (not_not_intro h2),if_pos h4]
theorem chg_0 (h:InsideP a xs.length l.length) (h2:firstE (chgAt c l a.toNat xs) xs.length=0) (h4:overE (midL l a.toNat xs.length (xs.map (freshF c)))=0):chgR c l a xs=(midL l a.toNat xs.length (xs.map (freshF c)),0):=by
 unfold chgR;rw [if_neg (not_not_intro h),if_neg (not_not_intro h2),if_neg (not_not_intro h4)]
end
/-! ### How they are put together, step by step -/
theorem midL_len {l:List EntD} {p n:Nat} {fr:List EntD} (h:p+n≤l.length):(midL l p n fr).length=l.length - n+fr.length:=by
 unfold midL;simp;omega
theorem midL_rest {l:List EntD} {p n:Nat} (h:p+n≤l.length):(midL l p n []).length=l.length - n:=by rw [midL_len h];simp
open Go Go.Y Go.Proofs
set_option linter.unusedSimpArgs false
set_option linter.unusedVariables false
theorem ren_base {c:RulesD} {G:Ghost} {a:Option Addr} {n:Nat} (S:RdSl rdKind 9 G (.slice a c.kinds.length n) c.kinds) {x:ItemD} {k:KindD} (h:c.kinds[x.typ]?=some k):inKind .i64 (baseOf c x):=by
 rw [base_at h]
 obtain ⟨b,o,cs,_,_,_,_,hr⟩:=S.index h
 obtain ⟨_,_,_,h3⟩:=hr
 exact h3
open Go Go.Y Go.Proofs
set_option linter.unusedSimpArgs false
set_option linter.unusedVariables false
section
variable {c:RulesD} {x:ItemD}
theorem other_of {l:List EntD} {q k:Nat} {y:EntD} (h:l[q]?=some y):otherK l q k↔y.item.key≠k:=⟨fun h2=>h2 y h,fun h2 z hz=>by rw [h] at hz;simp only [Option.some.injEq] at hz;subst hz;exact h2⟩
end
end Go.Proofs.YtmmhmcplegpenaaGreatDoor
namespace Go.Y
open Go
set_option linter.unusedSimpArgs false
set_option linter.unusedVariables false
section
variable {w0 w:World} {G:Ghost} {L Ls:List Res}
open Classical in
/-- The ghost with the blocks of these resources in it, as they are now. -/
noncomputable def lent (G:Ghost) (Ls:List Res) (w:World):Ghost:=fun r=>if ∃ x∈Ls,x.foot=some r then w.heap[r]? else G r
theorem lent_in {x:Res} (hx:x∈Ls) {b:Nat} (hb:x.foot=some b):lent G Ls w b=w.heap[b]?:=by
 unfold lent;rw [if_pos ⟨x,hx,hb⟩]
theorem Mem.lend (M:Mem w0 G (Ls++L) w):Gle G (lent G Ls w)∧Mem w0 (lent G Ls w) L w:=by
 have hfree:∀ r,(∃ x∈Ls,x.foot=some r)→G r=none:=fun r ⟨x,hx,hb⟩=>M.free x (List.mem_append_left _ hx) r hb
 refine ⟨fun r o hr=>?_,⟨M.os,M.tape,M.output,M.grow,fun r o hr=>?_,fun x hx=>M.own x (List.mem_append_right _ hx),fun x hx b hb=>?_,(List.pairwise_append.1 M.apart).2.1⟩⟩
 ·unfold lent
  by_cases h:∃ x∈Ls,x.foot=some r
  ·rw [hfree r h] at hr;cases hr
  ·rw [if_neg h];exact hr
 ·unfold lent at hr
  by_cases h:∃ x∈Ls,x.foot=some r
  ·rw [if_pos h] at hr;exact hr
  ·rw [if_neg h] at hr;exact M.pers r o hr
 ·unfold lent
  rw [if_neg]
  ·exact M.free x (List.mem_append_right _ hx) b hb
  ·rintro ⟨y,hy,hyb⟩
   exact (List.pairwise_append.1 M.apart).2.2 y hy x hx b hyb hb
/-- What was lent is owned again. -/
theorem Mem.back {w':World} (M:Mem w0 G (Ls++L) w) (M':Mem w0 (lent G Ls w) L w'):Mem w0 G (Ls++L) w':=by
 have hle:=M.lend.1
 refine ⟨M'.os,M'.tape,M'.output,M'.grow,fun r o hr=>M'.pers r o (hle r o hr),fun x hx=>?_,M.free,M.apart⟩
 rcases List.mem_append.1 hx with hx | hx
 ·refine Res.holds_of (M.own x (List.mem_append_left _ hx)) fun b hb=>?_
  have hlt:=Res.foot_lt (M.own x (List.mem_append_left _ hx)) hb
  have h1:lent G Ls w b=some w.heap[b]:=by rw [lent_in hx hb];exact Array.getElem?_eq_getElem hlt
  rw [M'.pers b _ h1,Array.getElem?_eq_getElem hlt]
 ·exact M'.own x hx
/-- A row that is lent reads as a slice. -/
theorem lent_row {α:Type} {rd:Rd α} {sz:Nat} {a:Option Addr} {c:Nat} {cs:List Value} {t:TypeId} {xs:List α} (M:Mem w0 G (Ls++L) w) (hx:Res.row (.slice a xs.length c) xs.length cs t sz∈Ls) (hE:Els rd sz (lent G Ls w) cs xs) (hs:0 < sz) :
  RdSl rd sz (lent G Ls w) (.slice a xs.length c) xs:=by
 obtain ⟨⟨hl,h2⟩,h1⟩:=M.own _ (List.mem_append_left L hx)
 rcases h2 with ⟨h,h0⟩ | ⟨g,cap,cur,hv,_,hg,hnc,hcm,hcs,htake⟩
 ·have:xs=[]:=List.eq_nil_of_length_eq_zero h0
  subst this
  simp only [Value.slice.injEq] at h
  obtain ⟨rfl,_,rfl⟩:=h
  exact RdSl.nil
 ·simp only [Value.slice.injEq,true_and] at hv
  obtain ⟨rfl,rfl⟩:=hv
  refine RdSl.of_cells (cs:=cs) hE h1 ?_ hnc (by simpa [maxLen] using hcm)
  intro j u hj
  have hj':j < xs.length * sz:=by
   rw [← hl]
   rcases Nat.lt_or_ge j cs.length with h' | h'
   ·exact h'
   ·simp [List.getElem?_eq_none h'] at hj
  rw [← htake,List.getElem?_take,if_pos hj'] at hj
  have h9:lent G Ls w g=some (.cells cur t (0,0)):=by rw [lent_in hx rfl];exact hg
  simp only [gcell,h9,Nat.zero_add]
  simpa using hj
end
end Go.Y
namespace Go.Proofs.YtmmhmcplegpenaaGreatDoor
open Go Go.Y Go.Proofs
set_option linter.unusedSimpArgs false
set_option linter.unusedVariables false
def ROWM (a:Option Addr) (k:Nat) (m:List Value):Res:=.row (.slice a k k) k m 9 1
/-- A cell row of a copy: its marks are an owned row of the list. -/
def rdC (Ls:List Res):Rd ItemD:=fun G cs x=>∃ (a:Option Addr) (m:List Value),cs=[.int .u64 ((x.key:Nat):Int),.int .u8 ((x.typ:Nat):Int),.string (str x.text),.slice a x.marks.length x.marks.length] ∧
 x.key < 18446744073709551616∧x.typ < 256∧x.text.length≤9223372036854775807∧x.marks.length≤9223372036854775807∧ROWM a x.marks.length m∈Ls∧Els rdStr 1 G m x.marks
def rdCF (Ls:List Res):Rd (ItemD × Bool):=fun G cs p=>(p.2=true→rdC Ls G cs p.1)∧(p.2=false→rdItem G cs p.1)
theorem mono_rdC {Ls:List Res}:Mono (rdC Ls):=by
 rintro G G' cs x h ⟨a,m,h1,h2,h3,h4,h5,h6,h7⟩
 exact ⟨a,m,h1,h2,h3,h4,h5,h6,h7.mono mono_rdStr h⟩
theorem rdCF_more {Ls:List Res} {r:Res} {G:Ghost} {cs:List Value} {p:ItemD × Bool} (h:rdCF Ls G cs p):rdCF (r::Ls) G cs p:=⟨fun e=>by
 obtain ⟨a,m,h1,h2,h3,h4,h5,h6,h7⟩:=h.1 e
 exact ⟨a,m,h1,h2,h3,h4,h5,List.mem_cons_of_mem _ h6,h7⟩,h.2⟩
theorem els_more {Ls:List Res} {r:Res} {G:Ghost}:∀ {ys:List (ItemD × Bool)} {cs:List Value},Els (rdCF Ls) 4 G cs ys→Els (rdCF (r::Ls)) 4 G cs ys
 | [],cs,h=>h
 | y::ys,cs,h=>by
  obtain ⟨c,r',h1,h2,h3,h4⟩:=h
  exact ⟨c,r',h1,h2,rdCF_more h3,els_more h4⟩
def ysF (xs:List ItemD) (i:Nat):List (ItemD × Bool):=(xs.take i).map (·,true)++(xs.drop i).map (·,false)
theorem ysF_get {xs:List ItemD} {i:Nat} {x:ItemD} (h:xs[i]?=some x):(ysF xs i)[i]?=some (x,false):=by
 have hi:=lt_of_get h
 unfold ysF
 rw [List.getElem?_append_right (by simp;omega),List.length_map,List.length_take,Nat.min_eq_left (by omega),Nat.sub_self,List.getElem?_map,List.getElem?_drop,Nat.add_zero,h];rfl
theorem ysF_set {xs:List ItemD} {i:Nat} {x:ItemD} (h:xs[i]?=some x):(ysF xs i).set i (x,true)=ysF xs (i+1):=by
 have hi:=lt_of_get h
 have hl:((xs.take i).map (·,true)).length=i:=by simp;omega
 unfold ysF
 have hx:xs[i]=x:=by rw [List.getElem?_eq_getElem hi] at h;simpa using h
 have hdr:xs.drop i=x::xs.drop (i+1):=by rw [List.drop_eq_getElem_cons hi,hx]
 rw [List.set_append_right _ _ (by omega),hl,Nat.sub_self,List.take_add_one,h,hdr]
 simp
theorem els_zero {G:Ghost}:∀ {xs:List ItemD} {cs:List Value},Els rdItem 4 G cs xs→Els (rdCF []) 4 G cs (ysF xs 0)
 | [],cs,h=>h
 | x::xs,cs,h=>by
  obtain ⟨c,r',h1,h2,h3,h4⟩:=h
  exact ⟨c,r',h1,h2,⟨(fun e=>by cases e),fun _=>h3⟩,els_zero h4⟩
theorem els_done {G:Ghost} {Ls:List Res} {xs:List ItemD} {cs:List Value} {i:Nat} (h:Els (rdCF Ls) 4 G cs (ysF xs i)) (hi:xs.length≤i):Els (rdC Ls) 4 G cs xs:=by
 have e:ysF xs i=xs.map (·,true):=by unfold ysF;rw [List.take_of_length_le hi,List.drop_eq_nil_of_le hi];simp
 rw [e] at h
 clear e hi
 induction xs generalizing cs with
 | nil=>exact h
 | cons x xs ih =>
  obtain ⟨c,r',h1,h2,h3,h4⟩:=h
  exact ⟨c,r',h1,h2,h3.1 rfl,ih h4⟩
theorem copy_own {w0 w:World} {G:Ghost} {L:List Res} (M:Mem w0 G L w) {a1:Option Addr} {c1:Nat} {xs:List ItemD} (S:RdSl rdItem 4 G (.slice a1 xs.length c1) xs) (hN:xs.length≤1000000) (hM:∀ x∈xs,x.marks.length≤1000000) :
  Calls Tryz.prog 15 #[.slice a1 xs.length c1] w (RetL w0 G fun L' v=>∃ (a:Option Addr) (cs:List Value) (Ls:List Res),v=.slice a xs.length xs.length∧L' = (.row (.slice a xs.length xs.length) xs.length cs 26 4::(Ls++L))∧Els (rdC Ls) 4 G cs xs):=by
 refine e_start (vs:=[_]) Tryz.func15 rfl (n:=24) rfl rfl<|e_seq<|e_reg<|s_as rfl<|e_nil<|e_tn<|e_seq<|e_reg<|s_mv rfl<|s_cL ent54 rfl rfl (exi_own (xs:=xs) M S (by omega))<|?_;clear M;rintro _ _ w M ⟨aq1,csq1,rfl,rfl,Eq1⟩
 refine s_as rfl<|e_nil<|e_tn<|e_seq<|e_seq<|e_reg<|s_mv rfl<|s_ls tok22.k rfl<|s_mv rfl<|e_nil<|e_tn<|e_block<|?_
 have E0:=els_zero Eq1
 intro a F
 refine w_loopN (fun m a' w'=>∃ (i:Nat),∃ (Ls:List Res),∃ (cso:List Value),m=xs.length - i∧Fits 24 a' [(3,.slice (aq1) (xs.length) (xs.length)),(7,.slice (aq1) (xs.length) (xs.length)),(8,.int .i64 (((xs.length:Nat):Int))),(9,.int .i64 (((i:Nat):Int)))]∧Mem w0 G (.row (.slice (aq1) (xs.length) (xs.length)) (xs.length) (cso) 26 4::(Ls++L)) w'∧(i≤xs.length)∧(Els (rdCF Ls) 4 G cso (ysF xs i))) _ ⟨0,[],csq1,rfl,F.to ⟨rfl,rfl,rfl,rfl,trivial⟩,M,Nat.zero_le _,E0⟩ ?_
 clear F M
 rintro m a w ⟨i,Ls,cso,rfl,F,M,hi,Eo⟩
 revert a
 refine e_seq<|e_reg<|s_lt rfl rfl<|e_nil<|e_tn<|e_seq<|e_cond rfl ?_ ?_
 ·intro hc
  have h2b:=hc;clear hc
  have h2:((i:Nat):Int) < ((xs.length:Nat):Int):=of_decide_eq_true h2b
  refine e_skip<|e_tn<|e_seq<|e_block<|e_seq<|e_reg<|s_mv rfl<|s_as rfl<|e_nil<|e_tn<|?_
  obtain ⟨Xi,hXi⟩:=get_of_lt (xs:=xs) (i:=i) (by omega)
  have hYi:=ysF_get hXi
  refine e_reg<|s_mv rfl<|s_mv rfl<|s_mv rfl<|s_mv rfl<|?_
  obtain ⟨be3,_,Ie3,hme3,_,Ae3,hTe3⟩:=M.atRow (k:=0) rfl (by decide) Eo hYi
  obtain ⟨mae3,mce3,rfl,hke3,hte3,hxe3,hne3,SMe3⟩:=hTe3.2 rfl
  refine s_ix tok22.k tok26 Ie3 rfl rfl<|s_fa tok26.k rfl rfl<|s_le tok24 Ae3 3 rfl rfl rfl rfl<|s_cL ent55 rfl rfl (exs_own (xs:=Xi.marks) M SMe3 (hM Xi (List.mem_of_getElem? hXi)))<|?_;clear M;rintro _ _ w M ⟨aq4,csq4,rfl,rfl,Eq4⟩
  have em5:=els_more (r:=.row (.slice (aq4) (Xi.marks.length) (Xi.marks.length)) (Xi.marks.length) (csq4) 9 1) Eo
  obtain ⟨be6,_,Ie6,hme6,_,Ae6,hTe6⟩:=M.atRow (k:=1) rfl (by decide) em5 hYi
  obtain ⟨mae6,mce6,rfl,hke6,hte6,hxe6,hne6,SMe6⟩:=hTe6.2 rfl
  refine s_ix tok22.k tok26 Ie6 rfl rfl<|s_fa tok26.k rfl rfl<|fun a F=>?_
  refine rl_storeElF F M tok24 rfl (k:=1) rfl em5 Ie6 hYi (f:=3) (by decide) rfl rfl rfl rfl (X':=(Xi,true)) (fun ch _ h=>⟨fun _=>by obtain ⟨a_,c_,rfl,h1,h2,h3,h4,_⟩:=h.2 rfl;exact ⟨aq4,csq4,rfl,h1,h2,h3,h4,List.mem_cons_self,Eq4⟩,fun h_=>by cases h_⟩) ?_;clear F M a;intro csu7 w a M Eu7 F
  revert a
  refine e_nil<|e_bn<|e_tn<|?_
  replace M:=M.perm (perm_front _ 1 _ rfl)
  change Mem w0 G (_::_::(Ls++L)) _ at M
  change Mem w0 G (.row (.slice (aq1) (xs.length) (xs.length)) (xs.length) (csu7) 26 4::((.row (.slice (aq4) (Xi.marks.length) (Xi.marks.length)) (Xi.marks.length) (csq4) 9 1::Ls)++L)) _ at M
  refine e_reg<|s_add rfl rfl<|s_mv rfl<|e_nil<|e_tn<|fun a F=>?_
  exact ⟨_,by omega,i+1,(.row (.slice (aq4) (Xi.marks.length) (Xi.marks.length)) (Xi.marks.length) (csq4) 9 1::Ls),csu7,rfl,F.to ⟨rfl,rfl,rfl,rfl,trivial⟩,M,by omega,by have h_:=Eu7;rwa [ysF_set hXi] at h_⟩
 ·intro hc
  have h8b:=hc;clear hc
  have h8:¬ (((i:Nat):Int) < ((xs.length:Nat):Int)):=of_decide_eq_false h8b
  refine e_exit<|e_te<|e_te<|e_bh<|e_tn<|e_seq<|e_reg<|s_mv rfl<|s_as rfl<|e_nil<|e_tn<|e_ret<|e_fin1 rfl rfl<|?_
  exact ⟨_,M,_,_,Ls,rfl,rfl,els_done Eo (by omega)⟩
open Go Go.Y
set_option linter.unusedSimpArgs false
set_option linter.unusedVariables false
/-- A cell row of an entry whose marks are an owned row of the list. -/
def rdEC (Ls:List Res):Rd EntD:=fun G cs x=>∃ c1,cs=c1++[.int .i64 x.size,.bool x.known]∧rdC Ls G c1 x.item∧inKind .i64 x.size
theorem mono_rdEC {Ls:List Res}:Mono (rdEC Ls):=by
 rintro G G' cs x h ⟨c1,h1,h2,h3⟩
 exact ⟨c1,h1,mono_rdC _ _ _ _ h h2,h3⟩
def rdEO (Ls:List Res):Rd (Option EntD):=fun G cs o=>match o with
 | some x=>rdEC Ls G cs x
 | none=>True
theorem mono_rdEO {Ls:List Res}:Mono (rdEO Ls):=by
 intro G G' cs o h hr
 cases o with
 | none=>trivial
 | some x=>exact mono_rdEC _ _ _ _ h hr
theorem rdC_sub {Ls Ls':List Res} (hs:∀ r∈Ls,r∈Ls') {G:Ghost} {cs:List Value} {x:ItemD} (h:rdC Ls G cs x):rdC Ls' G cs x:=by
 obtain ⟨a,m,h1,h2,h3,h4,h5,h6,h7⟩:=h
 exact ⟨a,m,h1,h2,h3,h4,h5,hs _ h6,h7⟩
theorem rdEC_sub {Ls Ls':List Res} (hs:∀ r∈Ls,r∈Ls') {G:Ghost} {cs:List Value} {x:EntD} (h:rdEC Ls G cs x):rdEC Ls' G cs x:=by
 obtain ⟨c1,h1,h2,h3⟩:=h
 exact ⟨c1,h1,rdC_sub hs h2,h3⟩
theorem elsEO_sub {Ls Ls':List Res} (hs:∀ r∈Ls,r∈Ls') {G:Ghost}:∀ {ys:List (Option EntD)} {cs:List Value},Els (rdEO Ls) 6 G cs ys→Els (rdEO Ls') 6 G cs ys
 | [],cs,h=>h
 | y::ys,cs,h=>by
  obtain ⟨c,r',h1,h2,h3,h4⟩:=h
  refine ⟨c,r',h1,h2,?_,elsEO_sub hs h4⟩
  cases y with
  | none=>trivial
  | some x=>exact rdEC_sub hs h3
theorem elsEO_all {Ls:List Res} {G:Ghost}:∀ {ys:List EntD} {cs:List Value},Els (rdEO Ls) 6 G cs (ys.map some)→Els (rdEC Ls) 6 G cs ys
 | [],cs,h=>h
 | y::ys,cs,h=>by
  obtain ⟨c,r',h1,h2,h3,h4⟩:=h
  exact ⟨c,r',h1,h2,h3,elsEO_all h4⟩
theorem elsEC_lent {w0 w:World} {G:Ghost} {L Ls LL:List Res} (hsub:∀ x∈Ls,x∈LL) (M:Mem w0 G (LL++L) w):∀ {xs:List EntD} {cs:List Value},Els (rdEC Ls) 6 G cs xs→Els rdEnt 6 (lent G LL w) cs xs
 | [],cs,h=>h
 | x::xs,cs,h=>by
  obtain ⟨c,r',h1,h2,⟨c1,e1,⟨a,m,e2,k1,k2,k3,k4,hm,hE⟩,h3⟩,h4⟩:=h
  exact ⟨c,r',h1,h2,⟨c1,e1,⟨a,x.item.marks.length,e2,k1,k2,k3,k4,lent_row M (hsub _ hm) (hE.mono mono_rdStr M.lend.1) (by decide)⟩,h3⟩,elsEC_lent hsub M h4⟩
/-- The entries in new memory: their row and the rows of their marks. -/
def OWNR (a:Option Addr) (n:Nat) (cs:List Value):Res:=.row (.slice a n n) n cs 69 6
theorem own_lent {w0 w:World} {G:Ghost} {L Ls:List Res} {a:Option Addr} {cs:List Value} {xs:List EntD} (M:Mem w0 G ((OWNR a xs.length cs::Ls)++L) w) (E:Els (rdEC Ls) 6 G cs xs) :
  RdSl rdEnt 6 (lent G (OWNR a xs.length cs::Ls) w) (.slice a xs.length xs.length) xs :=
 lent_row (t:=69) M (by simp [OWNR]) (elsEC_lent (fun x hx=>List.mem_cons_of_mem _ hx) M E) (by decide)
theorem perm_mid (A R L:List Res):(A++(R++L)).Perm (R++(A++L)):=by
 rw [← List.append_assoc,← List.append_assoc]
 exact List.Perm.append_right L List.perm_append_comm
section
variable {α β:Type}
/-- The first i of a list made over, the rest as it was made. -/
def mixF (f:α→β) (z:β) (xs:List α) (i:Nat):List β:=(xs.take i).map f++List.replicate (xs.length - i) z
theorem mix_zero (f:α→β) (z:β) (xs:List α):mixF f z xs 0=List.replicate xs.length z:=by simp [mixF]
theorem mix_len (f:α→β) (z:β) (xs:List α) (i:Nat):(mixF f z xs i).length=xs.length:=by simp [mixF];omega
theorem mix_set {f:α→β} {z:β} {xs:List α} {i:Nat} {x:α} (h:xs[i]?=some x):(mixF f z xs i).set i (f x)=mixF f z xs (i+1):=by
 have hi:=lt_of_get h
 have hl:((xs.take i).map f).length=i:=by simp;omega
 have e:xs.length - i=(xs.length - (i+1))+1:=by omega
 unfold mixF
 rw [List.set_append_right _ _ (by omega),hl,Nat.sub_self,List.take_add_one,h,e,List.replicate_succ,List.set_cons_zero]
 simp
theorem mix_end {f:α→β} {z:β} {xs:List α} {i:Nat} (h:xs.length≤i):mixF f z xs i=xs.map f:=by
 unfold mixF
 rw [List.take_of_length_le h,show xs.length - i=0 by omega];simp
end
/-- What 'do' hands back. -/
def doR (cE:Int) (ins:Bool) (cnt:Int) (f:Nat→Int) (n:Nat) (out:List EntD):List EntD × Int :=
 if cE≠0 then ([],cE) else if ins=false then ([],4) else if 1024 < cnt then ([],3) else if firstE f n≠0 then ([],firstE f n) else if overE out≠0 then ([],overE out) else (out,0)
section
variable {cE:Int} {ins:Bool} {cnt:Int} {f:Nat→Int} {n:Nat} {out:List EntD}
theorem do_4 (h:cE=0) (h1:ins=false):doR cE ins cnt f n out=([],4):=by unfold doR;rw [if_neg (not_not_intro h),if_pos h1]
theorem do_3 (h:cE=0) (h1:ins=true) (h2:1024 < cnt):doR cE ins cnt f n out=([],3):=by unfold doR;rw [if_neg (not_not_intro h),if_neg (by simp [h1]),if_pos h2]
theorem do_e {i:Nat} {z:Int} (h:cE=0) (h1:ins=true) (h2:¬ 1024 < cnt) (h3:firstE f i=0) (hi:i < n) (hz:f i=z) (h0:z≠0):doR cE ins cnt f n out=([],z):=by
 have:=firstE_hit h3 hi (by rw [hz];exact h0)
 unfold doR;rw [if_neg (not_not_intro h),if_neg (by simp [h1]),if_neg h2,if_pos (by rw [this,hz];exact h0),this,hz]
theorem do_o (h:cE=0) (h1:ins=true) (h2:¬ 1024 < cnt) (h3:firstE f n=0) (h4:overE out≠0):doR cE ins cnt f n out=([],overE out):=by
 unfold doR;rw [if_neg (not_not_intro h),if_neg (by simp [h1]),if_neg h2,if_neg (not_not_intro h3),if_pos h4]
theorem do_0 (h:cE=0) (h1:ins=true) (h2:¬ 1024 < cnt) (h3:firstE f n=0) (h4:overE out=0):doR cE ins cnt f n out=(out,0):=by
 unfold doR;rw [if_neg (not_not_intro h),if_neg (by simp [h1]),if_neg h2,if_neg (not_not_intro h3),if_neg (not_not_intro h4)]
end
open Classical in
/-- The error of an item that comes in, with what is wrong with its key. -/
noncomputable def inE (c:RulesD) (x:ItemD) (k:Int):Int:=if ¬ ItemOk (c.kinds.length:Int) x then 6 else if k≠0 then k else renE c x
theorem inE_6 {c:RulesD} {x:ItemD} {k:Int} (h:¬ ItemOk (c.kinds.length:Int) x):inE c x k=6:=by unfold inE;rw [if_pos h]
theorem inE_k {c:RulesD} {x:ItemD} {k:Int} (h:ItemOk (c.kinds.length:Int) x) (h2:k≠0):inE c x k=k:=by unfold inE;rw [if_neg (not_not_intro h),if_pos h2]
theorem inE_r {c:RulesD} {x:ItemD} {k:Int} (h:ItemOk (c.kinds.length:Int) x) (h2:k=0):inE c x k=renE c x:=by unfold inE;rw [if_neg (not_not_intro h),if_neg (not_not_intro h2)]
noncomputable def inAt (c:RulesD) (xs:List ItemD) (fK:Nat→Int) (i:Nat):Int:=match xs[i]? with
 | some x=>inE c x (fK i)
 | none=>0
theorem in_at {c:RulesD} {xs:List ItemD} {fK:Nat→Int} {i:Nat} {x:ItemD} (h:xs[i]?=some x):inAt c xs fK i=inE c x (fK i):=by unfold inAt;rw [h]
theorem in_ok {c:RulesD} {xs:List ItemD} {fK:Nat→Int} {n:Nat} (h:firstE (inAt c xs fK) n=0) (hn:xs.length≤n):∀ x∈xs,ItemOk (c.kinds.length:Int) x:=by
 intro x hx
 obtain ⟨i,hi⟩:=List.mem_iff_getElem?.1 hx
 have h1:=firstE_zero.1 h i (by have:=lt_of_get hi;omega)
 rw [in_at hi] at h1
 exact Classical.byContradiction fun h2=>by rw [inE_6 h2] at h1;cases h1
theorem in_step {c:RulesD} {xs:List ItemD} {fK:Nat→Int} {i:Nat} {x:ItemD} (h:firstE (inAt c xs fK) i=0) (hx:xs[i]?=some x) (hz:inE c x (fK i)=0):firstE (inAt c xs fK) (i+1)=0:=by rw [firstE_step h,in_at hx,hz]
open Go Go.Y Go.Proofs
set_option linter.unusedSimpArgs false
set_option linter.unusedVariables false
theorem fresh_spec {w0 w:World} {G:Ghost} {L:List Res} (M:Mem w0 G L w) {c:RulesD} {kca:Option Addr} {kcc:Nat} (SC:RdSl rdKind 9 G (.slice kca c.kinds.length kcc) c.kinds) {ta:Option Addr} {tc:Nat} {xs:List ItemD} (T:RdSl rdItem 4 G (.slice ta xs.length tc) xs) (hN:xs.length≤1000000) (hok:∀ x∈xs,ItemOk (c.kinds.length:Int) x):Calls Tryz.prog 160 #[.agg #[.slice (kca) (c.kinds.length) (kcc),.int .i64 (c.cap)],.slice ta xs.length tc] w (Ret w0 G L fun G' v=>∃ (a:Option Addr) (cc:Nat),v=.slice a (xs.map (freshF c)).length cc∧RdSl rdEnt 6 G' (.slice a (xs.map (freshF c)).length cc) (xs.map (freshF c))):=by
 have bT:=T.bound
 refine e_start (vs:=[_,_]) Tryz.func160 rfl (n:=32) rfl rfl<|e_seq<|e_reg<|s_bx M rfl rfl rfl<|?_;clear M;intro b1 w M
 refine s_as rfl<|e_nil<|e_tn<|e_seq<|e_reg<|s_mv rfl<|s_ls tok22.k rfl<|fun a F=>?_
 refine rl_make (rd:=rdEnt) (Z:=(⟨⟨0,0,[],[]⟩,0,false⟩:EntD)) F M tok52.k tok69 rfl (by decide) rfl rfl (l:=xs.length) (by omega) rfl (by omega) (by show 72 * _≤_;omega) (by omega) (by simp [ti69,Value.cells,Value.oneCell']) (⟨[.int .u64 0,.int .u8 0,.string (str []),.slice none 0 0],rfl,⟨none,0,rfl,by decide,by decide,by decide,by decide,RdSl.nil⟩,⟨by decide,by decide⟩⟩) rfl ?_;clear F M a;intro v2 csv2 w a M Ev2 F
 obtain ⟨av2,cv2,rfl,hlev2,hcmv2,hlv2⟩:=M.row_shape (k:=0) rfl
 revert a
 refine s_as rfl<|e_nil<|e_tn<|e_seq<|e_seq<|e_reg<|s_mv rfl<|s_ls tok22.k rfl<|s_mv rfl<|e_nil<|e_tn<|e_block<|?_
 have E0:Els rdEnt 6 G csv2 (mixF (freshF c) (⟨⟨0,0,[],[]⟩,0,false⟩:EntD) xs 0):=by rw [mix_zero];exact Ev2
 intro a F
 refine w_loopN (fun m a' w'=>∃ (i:Nat),∃ (cso:List Value),m=xs.length - i∧Fits 32 a' [(2,.pointer (some ⟨b1,0,none⟩)),(5,.slice (av2) (xs.length) (cv2)),(11,.slice (ta) (xs.length) (tc)),(12,.int .i64 (((xs.length:Nat):Int))),(13,.int .i64 (((i:Nat):Int)))]∧Mem w0 G (.row (.slice (av2) (xs.length) (cv2)) (xs.length) (cso) 69 6::.blk b1 [.slice (kca) (c.kinds.length) (kcc),.int .i64 (c.cap)] 51::L) w'∧(i≤xs.length)∧(Els rdEnt 6 G cso (mixF (freshF c) (⟨⟨0,0,[],[]⟩,0,false⟩:EntD) xs i))) _ ⟨0,csv2,rfl,F.to ⟨rfl,rfl,rfl,rfl,rfl,trivial⟩,M,Nat.zero_le _,E0⟩ ?_
 clear F M
 rintro m a w ⟨i,cso,rfl,F,M,hi,Eo⟩
 revert a
 refine e_seq<|e_reg<|s_lt rfl rfl<|e_nil<|e_tn<|e_seq<|e_cond rfl ?_ ?_
 ·intro hc
  have h3b:=hc;clear hc
  have h3:((i:Nat):Int) < ((xs.length:Nat):Int):=of_decide_eq_true h3b
  refine e_skip<|e_tn<|e_seq<|e_block<|e_seq<|?_
  obtain ⟨Xi,hXi⟩:=get_of_lt (xs:=xs) (i:=i) (by omega)
  obtain ⟨k,hK⟩:=kind_of (hok Xi (List.mem_of_getElem? hXi))
  have hml:=mix_len (freshF c) (⟨⟨0,0,[],[]⟩,0,false⟩:EntD) xs i
  refine e_reg<|s_mv rfl<|?_
  obtain ⟨be4,oe4,_,Ie4,_,Ae4,hTe4⟩:=T.at hXi
  obtain ⟨mae4,mce4,rfl,hke4,hte4,hxe4,hne4,SMe4⟩:=hTe4
  have hIe4:(Xi.key < 18446744073709551616∧Xi.typ < 256∧Xi.text.length≤9223372036854775807):=⟨hke4,hte4,hxe4⟩
  refine s_ix tok22.k tok26 Ie4 rfl rfl<|e_run (fun a F=>run_loadA tok26 rfl (F.ev rfl) (cs:=[.int .u64 (((Xi.key:Nat):Int)),.int .u8 (((Xi.typ:Nat):Int)),.string (str (Xi.text)),.slice (mae4) (Xi.marks.length) (mce4)]) rfl (M.cellsA Ae4 0 (by omega) rfl)) rfl<|s_al M tok26 rfl rfl<|?_;clear M;intro b5 w M
  refine s_as rfl<|fun a F=>?_
  refine rl_storeA F M tok26 (k:=0) rfl rfl rfl (us:=[.int .u64 (((Xi.key:Nat):Int)),.int .u8 (((Xi.typ:Nat):Int)),.string (str (Xi.text)),.slice (mae4) (Xi.marks.length) (mce4)]) rfl rfl (by simp [Value.oneCell']) (by simp) ?_;clear F M a;intro w a M F
  change Mem w0 G (.blk b5 [.int .u64 (((Xi.key:Nat):Int)),.int .u8 (((Xi.typ:Nat):Int)),.string (str (Xi.text)),.slice (mae4) (Xi.marks.length) (mce4)] 26::_::_::L) _ at M
  revert a
  refine e_nil<|e_tn<|fun a F=>w_plan [(true,0),(true,1),(true,2),(true,3),(true,4),(true,5),(true,6),(true,7),(true,8),(true,9),(true,10),(true,11),(false,12)] (Keep G [.blk b5 [.int .u64 (((Xi.key:Nat):Int)),.int .u8 (((Xi.typ:Nat):Int)),.string (str (Xi.text)),.slice (mae4) (Xi.marks.length) (mce4)] 26,.blk b1 [.slice (kca) (c.kinds.length) (kcc),.int .i64 (c.cap)] 51]) rfl (by kernel_rfl) (fun c a d v w h=>by cases d <;> exact h) ((M.drew _).keep (Gle.refl _) (by simp)) ?_
  replace M:=M.drew (w.drawn+1)
  revert a
  refine l_r (fun a F w M=>x_mv F rfl) rfl<|l_r (fun a F w M=>x_mv F rfl) rfl<|l_r (fun a F w M=>run_loadA tok26 rfl (F.ev rfl) (cs:=[.int .u64 (((Xi.key:Nat):Int)),.int .u8 (((Xi.typ:Nat):Int)),.string (str (Xi.text)),.slice (mae4) (Xi.marks.length) (mce4)]) rfl (M.cellsL (k:=0) rfl rfl)) rfl<|l_r (fun a F w M=>x_fa tok51.k rfl F rfl) rfl<|l_r (fun a F w M=>run_load1 (agf tok49 rfl) (F.ev rfl) (M.cellL (k:=1) rfl rfl)) rfl<|l_r (fun a F w M=>x_fa tok26.k rfl F rfl) rfl<|l_r (fun a F w M=>run_load1 (agf tok5 rfl) (F.ev rfl) (M.cellL (k:=0) rfl rfl)) rfl<|?_
  obtain ⟨be7,oe7,_,Ie7,_,Ae7,hTe7⟩:=SC.at hK
  obtain ⟨c1e7,hcse7,hPe7,hBe7⟩:=hTe7
  obtain ⟨tae7,tce7,kae7,kce7,rfl,hke7,hle7,SAe7,SKe7⟩:=rdT_open hPe7
  subst hcse7
  have hQe7:-9223372036854775808≤k.base∧k.base≤9223372036854775807:=hBe7
  refine l_r (fun a F w M=>run_indexI tok49.k tok81 (F.ev rfl) (F.ev rfl) (by omega) Ie7) rfl<|l_r (fun a F w M=>x_fa tok81.k rfl F rfl) rfl<|l_r (fun a F w M=>run_load1 (agf tok2 rfl) (F.ev rfl) (M.cellA Ae7 6 rfl rfl)) rfl<|l_r (fun a F w M=>run_buildS (cs:=[.int .u64 (((Xi.key:Nat):Int)),.int .u8 (((Xi.typ:Nat):Int)),.string (str (Xi.text)),.slice (mae4) (Xi.marks.length) (mce4),.int .i64 (k.base),.bool false]) (ps:=[(0,.agg #[.int .u64 (((Xi.key:Nat):Int)),.int .u8 (((Xi.typ:Nat):Int)),.string (str (Xi.text)),.slice (mae4) (Xi.marks.length) (mce4)]),(1,.int .i64 (k.base))]) tok69.k rfl tok69 (F.evp rfl) rfl) rfl<|?_
  obtain ⟨Xe8,hXe8⟩:=get_of_lt (xs:=(mixF (freshF c) (⟨⟨0,0,[],[]⟩,0,false⟩:EntD) xs i)) (i:=i) (by omega)
  obtain ⟨be8,_,Ie8,hme8,_,Ae8,hTe8⟩:=M.atRow (k:=1) rfl (by decide) Eo hXe8
  obtain ⟨c1e8,hcse8,hPe8,hBe8⟩:=hTe8
  obtain ⟨mae8,mce8,rfl,hke8,hte8,hxe8,hne8,SMe8⟩:=hPe8
  subst hcse8
  have hIe8:(Xe8.item.key < 18446744073709551616∧Xe8.item.typ < 256∧Xe8.item.text.length≤9223372036854775807):=⟨hke8,hte8,hxe8⟩
  have hQe8:-9223372036854775808≤Xe8.size∧Xe8.size≤9223372036854775807:=hBe8
  refine l_r (fun a F w M=>run_indexI tok52.k tok69 (F.ev rfl) (F.ev rfl) (by omega) Ie8) rfl<|l_a rfl<|fun a F=>?_
  refine rl_storeEl F M tok69 (k:=1) rfl rfl Eo Ie8 (lt_of_get hXe8) rfl rfl (us:=[.int .u64 (((Xi.key:Nat):Int)),.int .u8 (((Xi.typ:Nat):Int)),.string (str (Xi.text)),.slice (mae4) (Xi.marks.length) (mce4),.int .i64 (k.base),.bool false]) rfl rfl (by simp [Value.oneCell']) (X':=(freshF c Xi)) (⟨[.int .u64 (((Xi.key:Nat):Int)),.int .u8 (((Xi.typ:Nat):Int)),.string (str (Xi.text)),.slice (mae4) (Xi.marks.length) (mce4)],by rw [show (freshF c Xi).size=k.base from base_at hK];rfl,⟨mae4,mce4,rfl,hIe4.1,hIe4.2.1,hIe4.2.2,(by have h_:=SMe4.bound;show Xi.marks.length≤_;omega),SMe4⟩,ren_base SC hK⟩) ?_;clear F M a;intro csu9 w a M Eu9 F
  revert a
  refine e_nil<|eK (C':=Keep G [.blk b5 [.int .u64 (((Xi.key:Nat):Int)),.int .u8 (((Xi.typ:Nat):Int)),.string (str (Xi.text)),.slice (mae4) (Xi.marks.length) (mce4)] 26,.blk b1 [.slice (kca) (c.kinds.length) (kcc),.int .i64 (c.cap)] 51]) (M.keep (Gle.refl _) (by simp)) (fun w h=>h.mono (Gle.refl _) (by simp))<|l_nil<|e_bn<|e_tn<|e_reg<|s_add rfl rfl<|s_mv rfl<|e_nil<|e_tn<|fun a F=>?_
  exact ⟨_,by omega,i+1,csu9,rfl,F.to ⟨rfl,rfl,rfl,rfl,rfl,trivial⟩,(M.weaken (.cons _ (.cons_cons _ (.cons_cons _ (List.Sublist.refl _))))),by omega,by have h_:=Eu9;rwa [mix_set hXi] at h_⟩
 ·intro hc
  have h10b:=hc;clear hc
  have h10:¬ (((i:Nat):Int) < ((xs.length:Nat):Int)):=of_decide_eq_false h10b
  refine e_exit<|e_te<|e_te<|e_bh<|e_tn<|e_seq<|e_reg<|s_mv rfl<|s_as rfl<|e_nil<|e_tn<|e_ret<|e_fin1 rfl rfl<|?_
  rw [mix_end (by omega)] at Eo
  obtain ⟨hnz11,Gz11,az11,cz11,hGz11,hez11,Sz11,M⟩:=M.freeze_row mono_rdEnt (k:=0) rfl Eo (by decide)
  clear hez11 az11 cz11
  have hxl:(xs.map (freshF c)).length=xs.length:=List.length_map _
  exact ⟨Gz11,(Gle.refl _).trans hGz11,M.weaken (.cons _ (List.Sublist.refl _)),av2,cv2,by rw [hxl],by rw [hxl];exact Sz11⟩
theorem splice_spec {w0 w:World} {G:Ghost} {L:List Res} (M:Mem w0 G L w) {a1:Option Addr} {c1:Nat} {l:List EntD} (S:RdSl rdEnt 6 G (.slice a1 l.length c1) l) {a2:Option Addr} {c2:Nat} {fr:List EntD} (R:RdSl rdEnt 6 G (.slice a2 fr.length c2) fr) {p n:Nat} (hp:p+n≤l.length) (hl:l.length≤1000000) (hf:fr.length≤1000000):Calls Tryz.prog 119 #[.slice a1 l.length c1,.int .i64 ((p:Nat):Int),.int .i64 ((n:Nat):Int),.slice a2 fr.length c2] w
  (Ret w0 G L fun G' v=>∃ (a:Option Addr) (cc:Nat),v=.slice a (midL l p n fr).length cc∧RdSl rdEnt 6 G' (.slice a (midL l p n fr).length cc) (midL l p n fr)):=by
 refine e_start (vs:=[_,_,_,_]) Tryz.func119 rfl (n:=33) rfl rfl<|e_seq<|e_reg<|s_as rfl<|e_nil<|e_tn<|e_seq<|e_reg<|s_mv rfl<|s_ls tok52.k rfl<|s_mv rfl<|s_sub rfl rfl<|?_
 have hs1:((((l.length:Nat):Int)) - (((n:Nat):Int)):Int)=((l.length - n:Nat):Int):=by omega
 intro a F
 rw [hs1] at F
 revert a
 refine s_mv rfl<|s_ls tok52.k rfl<|s_add rfl rfl<|fun a F=>?_
 refine rl_make0 F M tok52.k tok69 rfl rfl (by omega) rfl (c:=(l.length - n)+fr.length) (by omega) (by show 72 * _≤_;omega) (by omega) rfl ?_;clear F M a;intro bv2 w a M F
 revert a
 refine s_as rfl<|e_nil<|e_tn<|e_seq<|e_reg<|s_mv rfl<|s_mv rfl<|s_mv rfl<|?_
 obtain ⟨as3,cs3,Is3,hms3,hcs3,Ss3⟩:=S.partT (p) (by omega)
 refine e_run (fun a F=>run_sliceI tok52.k tok69 Is3 (F.ev rfl) (h:=p) (kl:=.i64) (zl:=0) rfl ⟨(F.ev rfl),by omega⟩ (by omega) (by omega)) rfl<|fun a F=>?_
 refine rl_append F M (k:=0) rfl tok52.k tok69 rfl rfl (by decide) rfl Ss3 rfl (by show _ * 72≤_;(try simp only [List.length_drop,List.length_take,List.length_append,List.length_cons,List.length_nil]);omega) (by (try simp only [List.length_drop,List.length_take,List.length_append,List.length_cons,List.length_nil]);omega) rfl ?_;clear F M a;intro v4 csv4 w a M Ev4 F
 have Ev4:=Els.append Els.nil Ev4
 obtain ⟨av4,cv4,rfl,hlev4,hcmv4,hlv4⟩:=M.row_shape (k:=0) rfl
 revert a
 refine s_as rfl<|e_nil<|e_tn<|e_seq<|e_reg<|s_mv rfl<|s_mv rfl<|fun a F=>?_
 refine rl_append F M (k:=0) rfl tok52.k tok69 rfl rfl (by decide) rfl R rfl (by show _ * 72≤_;(try simp only [List.length_drop,List.length_take,List.length_append,List.length_cons,List.length_nil]);omega) (by (try simp only [List.length_drop,List.length_take,List.length_append,List.length_cons,List.length_nil]);omega) rfl ?_;clear F M a;intro v5 csv5 w a M Ev5 F
 have Ev5:=Els.append Ev4 Ev5
 obtain ⟨av5,cv5,rfl,hlev5,hcmv5,hlv5⟩:=M.row_shape (k:=0) rfl
 revert a
 refine s_as rfl<|e_nil<|e_tn<|e_seq<|e_reg<|s_mv rfl<|s_mv rfl<|s_mv rfl<|s_mv rfl<|s_add rfl rfl<|?_
 obtain ⟨as6,cs6,Is6,hms6,hcs6,Ss6⟩:=S.partD (p+n) (by omega)
 refine e_run (fun a F=>run_sliceI tok52.k tok69 Is6 (F.ev rfl) (h:=l.length) (kh:=.i64) (zh:=0) ⟨(F.ev rfl),by omega⟩ (by omega) (by omega) (by omega)) rfl<|fun a F=>?_
 refine rl_append F M (k:=0) rfl tok52.k tok69 rfl rfl (by decide) rfl Ss6 rfl (by show _ * 72≤_;(try simp only [List.length_drop,List.length_take,List.length_append,List.length_cons,List.length_nil]);omega) (by (try simp only [List.length_drop,List.length_take,List.length_append,List.length_cons,List.length_nil]);omega) rfl ?_;clear F M a;intro v7 csv7 w a M Ev7 F
 have Ev7:=Els.append Ev5 Ev7
 obtain ⟨av7,cv7,rfl,hlev7,hcmv7,hlv7⟩:=M.row_shape (k:=0) rfl
 revert a
 refine s_as rfl<|e_nil<|e_tn<|e_ret<|e_fin1 rfl rfl<|?_
 have Ex:Els rdEnt 6 G (((([])++csv4)++csv5)++csv7) (midL l p n fr):=by have h_:Els rdEnt 6 G (((([])++csv4)++csv5)++csv7) (((([])++(l.take (p)))++fr)++(l.drop (p+n))):=Ev7;simpa only [List.nil_append,midL] using h_
 obtain ⟨hnz8,Gz8,az8,cz8,hGz8,hez8,Sz8,M⟩:=M.freeze_row mono_rdEnt (k:=0) rfl Ex (by decide)
 clear hez8 az8 cz8
 rw [hnz8] at Sz8
 exact ⟨Gz8,(Gle.refl _).trans hGz8,M.weaken (List.Sublist.refl _),av7,cv7,by rw [hnz8],Sz8⟩
theorem dec_form {p:Prop} [Decidable p] {b:Bool} (h:p↔b=true):decide p=b:=by
 by_cases hp:p
 ·rw [decide_eq_true hp,h.1 hp]
 ·cases b with
  | true=>exact absurd (h.2 rfl) hp
  | false=>exact decide_eq_false hp
theorem within_spec {w0 w:World} {G:Ghost} {L:List Res} (M:Mem w0 G L w) {z n m:Int} (hm:0≤m∧m≤9223372036854775807):Calls Tryz.prog 117 #[.int .i64 z,.int .i64 n,.int .i64 m] w (RetS w0 G L fun v=>v=.bool (decide (InsideP z n m))):=by
 refine e_start (vs:=[_,_,_]) Tryz.func117 rfl (n:=25) rfl rfl<|e_seq<|e_reg<|s_as rfl<|e_nil<|e_tn<|e_seq<|e_reg<|s_mv rfl<|s_gq rfl rfl<|s_mv rfl<|?_
 rcases Bool.eq_false_or_eq_true (decide (0≤z)) with hc | hc
 ·skip
  have h1b:=hc;clear hc
  have h1:0≤z:=of_decide_eq_true h1b
  refine g_t rfl h1b<|s_mv rfl<|g_t rfl h1b<|s_mv rfl<|g_t rfl h1b<|s_lq rfl rfl<|s_pt rfl h1b rfl<|s_mv rfl<|?_
  rcases Bool.eq_false_or_eq_true (decide (z≤m)) with hc | hc
  ·skip
   have h2b:=hc;clear hc
   have h2:z≤m:=of_decide_eq_true h2b
   refine g_t rfl h2b<|s_mv rfl<|g_t rfl h2b<|s_gq rfl rfl<|s_pt rfl h2b rfl<|s_mv rfl<|?_
   rcases Bool.eq_false_or_eq_true (decide (0≤n)) with hc | hc
   ·skip
    have h3b:=hc;clear hc
    have h3:0≤n:=of_decide_eq_true h3b
    refine g_t rfl h3b<|s_mv rfl<|g_t rfl h3b<|s_mv rfl<|g_t rfl h3b<|s_mv rfl<|g_t rfl h3b<|s_sub rfl rfl<|g_t rfl h3b<|s_lq rfl rfl<|s_pt rfl h3b rfl<|s_as rfl<|e_nil<|e_tn<|e_ret<|e_fin1 rfl rfl<|?_
    exact ⟨M,by rw [dec_form (show InsideP z n m↔((decide (n≤m - z))=true) by unfold InsideP;first | (simp only [decide_eq_true_eq];omega) | (simp only [Bool.false_eq_true,iff_false];omega))]⟩
   ·skip
    have h4b:=hc;clear hc
    have h4:¬ (0≤n):=of_decide_eq_false h4b
    refine g_f rfl h4b<|g_f rfl h4b<|g_f rfl h4b<|g_f rfl h4b<|g_f rfl h4b<|s_pf rfl h4b rfl<|s_as rfl<|e_nil<|e_tn<|e_ret<|e_fin1 rfl rfl<|?_
    exact ⟨M,by rw [dec_form (show InsideP z n m↔(false=true) by unfold InsideP;first | (simp only [decide_eq_true_eq];omega) | (simp only [Bool.false_eq_true,iff_false];omega))]⟩
  ·skip
   have h5b:=hc;clear hc
   have h5:¬ (z≤m):=of_decide_eq_false h5b
   refine g_f rfl h5b<|g_f rfl h5b<|s_pf rfl h5b rfl<|s_mv rfl<|g_f rfl rfl<|g_f rfl rfl<|g_f rfl rfl<|g_f rfl rfl<|g_f rfl rfl<|s_pf rfl rfl rfl<|s_as rfl<|e_nil<|e_tn<|e_ret<|e_fin1 rfl rfl<|?_
   exact ⟨M,by rw [dec_form (show InsideP z n m↔(false=true) by unfold InsideP;first | (simp only [decide_eq_true_eq];omega) | (simp only [Bool.false_eq_true,iff_false];omega))]⟩
 ·skip
  have h6b:=hc;clear hc
  have h6:¬ (0≤z):=of_decide_eq_false h6b
  refine g_f rfl h6b<|g_f rfl h6b<|g_f rfl h6b<|s_pf rfl h6b rfl<|s_mv rfl<|g_f rfl rfl<|g_f rfl rfl<|s_pf rfl rfl rfl<|s_mv rfl<|g_f rfl rfl<|g_f rfl rfl<|g_f rfl rfl<|g_f rfl rfl<|g_f rfl rfl<|s_pf rfl rfl rfl<|s_as rfl<|e_nil<|e_tn<|e_ret<|e_fin1 rfl rfl<|?_
  exact ⟨M,by rw [dec_form (show InsideP z n m↔(false=true) by unfold InsideP;first | (simp only [decide_eq_true_eq];omega) | (simp only [Bool.false_eq_true,iff_false];omega))]⟩
open Go Go.Y Go.Proofs
set_option linter.unusedSimpArgs false
set_option linter.unusedVariables false
theorem perm_in (L1 As Ls L:List Res):(L1++(As++(Ls++L))).Perm (As++((L1++Ls)++L)):=by
 rw [List.append_assoc];exact perm_mid L1 As (Ls++L)
theorem own_spec {w0 w:World} {G:Ghost} {L:List Res} (M:Mem w0 G L w) {a1:Option Addr} {c1:Nat} {l:List EntD} (S:RdSl rdEnt 6 G (.slice a1 l.length c1) l) (hl:l.length≤1000000) (hmk:∀ x∈l,x.item.marks.length≤1000000):Calls Tryz.prog 159 #[.slice a1 l.length c1] w (RetM w0 G fun G' L' v=>∃ (a:Option Addr) (cs:List Value) (Ls:List Res),v=.agg #[.slice a l.length l.length]∧L' = (OWNR a l.length cs::(Ls++L))∧Els (rdEC Ls) 6 G' cs l):=by
 have bS:=S.bound
 refine e_start (vs:=[_]) Tryz.func159 rfl (n:=34) rfl rfl<|e_seq<|e_reg<|s_al M tok54 rfl rfl<|?_;clear M;intro b1 w M
 refine e_nil<|e_tn<|e_seq<|e_seq<|e_reg<|s_mv rfl<|s_ls tok52.k rfl<|s_eq rfl rfl<|e_nil<|e_tn<|e_cond rfl ?_ ?_
 ·intro hc
  have h3b:=hc;clear hc
  have h3:((l.length:Nat):Int)=0:=of_decide_eq_true h3b
  refine e_seq<|e_reg<|e_run (fun a F=>run_buildS (cs:=[.slice none 0 0]) (ps:=[]) tok54.k rfl tok54 (F.evp rfl) rfl) rfl<|fun a F=>?_
  refine rl_storeA F M tok54 (k:=0) rfl rfl rfl (us:=[.slice none 0 0]) rfl rfl (by simp [Value.oneCell']) (by simp) ?_;clear F M a;intro w a M F
  change Mem w0 G (.blk b1 [.slice none 0 0] 54::L) _ at M
  revert a
  refine e_nil<|e_tn<|e_ret<|e_tr<|fun a F=>fin_c F M (k:=0) rfl rfl tok54 rfl rfl rfl ?_
  have hl0:l=[]:=List.eq_nil_of_length_eq_zero (by omega)
  subst hl0
  have M:=(M.weaken (.cons _ (List.Sublist.refl _))).nilrow 69 6
  exact ⟨_,_,(Gle.refl _),M,none,[],[],rfl,rfl,Els.nil⟩
 ·intro hc
  have h4b:=hc;clear hc
  have h4:¬ (((l.length:Nat):Int)=0):=of_decide_eq_false h4b
  refine e_skip<|e_tn<|e_seq<|e_reg<|s_mv rfl<|s_ls tok52.k rfl<|fun a F=>?_
  refine rl_makeE (rd:=(rdEO [])) (Z:=(none:Option EntD)) F M tok52.k tok69 rfl (by decide) rfl rfl (l:=l.length) (by omega) rfl (by omega) (by show 72 * _≤_;omega) (by omega) (by simp [ti69,Value.cells,Value.oneCell']) (trivial) rfl ?_;clear F M a;intro bv5 csv5 w a M Ev5 F
  revert a
  refine s_as rfl<|e_nil<|e_tn<|e_seq<|e_seq<|e_reg<|s_mv rfl<|s_ls tok52.k rfl<|s_mv rfl<|e_nil<|e_tn<|e_block<|?_
  have E0:Els (rdEO []) 6 G csv5 (mixF some none l 0):=by rw [mix_zero];exact Ev5
  intro a F
  refine w_loopN (fun m a' w'=>∃ (i:Nat),∃ (Ls:List Res),∃ (cso:List Value),m=l.length - i∧∃ G6,Gle G G6∧Fits 34 a' [(2,.pointer (some ⟨b1,0,none⟩)),(3,.slice (some ⟨bv5,0,none⟩) (l.length) (l.length)),(13,.slice (a1) (l.length) (c1)),(14,.int .i64 (((l.length:Nat):Int))),(15,.int .i64 (((i:Nat):Int)))]∧Mem w0 G6 (.row (.slice (some ⟨bv5,0,none⟩) (l.length) (l.length)) (l.length) (cso) 69 6::.blk b1 [.slice none 0 0] 54::(Ls++L)) w'∧(i≤l.length)∧(Els (rdEO Ls) 6 G6 cso (mixF some none l i))) _ ⟨0,[],csv5,rfl,G,Gle.refl _,F.to ⟨rfl,rfl,rfl,rfl,rfl,trivial⟩,M,Nat.zero_le _,E0⟩ ?_
  clear F M
  rintro m a w ⟨i,Ls,cso,rfl,G6,hG6,F,M,hi,Eo⟩
  replace S:=S.mono mono_rdEnt hG6
  revert a
  refine e_seq<|e_reg<|s_lt rfl rfl<|e_nil<|e_tn<|e_seq<|e_cond rfl ?_ ?_
  ·intro hc
   have h7b:=hc;clear hc
   have h7:((i:Nat):Int) < ((l.length:Nat):Int):=of_decide_eq_true h7b
   refine e_skip<|e_tn<|e_seq<|e_block<|e_seq<|?_
   obtain ⟨Xi,hXi⟩:=get_of_lt (xs:=l) (i:=i) (by omega)
   refine e_reg<|s_mv rfl<|?_
   obtain ⟨be8,oe8,_,Ie8,_,Ae8,hTe8⟩:=S.at hXi
   obtain ⟨c1e8,hcse8,hPe8,hBe8⟩:=hTe8
   obtain ⟨mae8,mce8,rfl,hke8,hte8,hxe8,hne8,SMe8⟩:=hPe8
   subst hcse8
   have hIe8:(Xi.item.key < 18446744073709551616∧Xi.item.typ < 256∧Xi.item.text.length≤9223372036854775807):=⟨hke8,hte8,hxe8⟩
   have hQe8:-9223372036854775808≤Xi.size∧Xi.size≤9223372036854775807:=hBe8
   refine s_ix tok52.k tok69 Ie8 rfl rfl<|e_run (fun a F=>run_loadA tok69 rfl (F.ev rfl) (cs:=[.int .u64 (((Xi.item.key:Nat):Int)),.int .u8 (((Xi.item.typ:Nat):Int)),.string (str (Xi.item.text)),.slice (mae8) (Xi.item.marks.length) (mce8),.int .i64 (Xi.size),.bool (Xi.known)]) rfl (M.cellsA Ae8 0 (by omega) rfl)) rfl<|s_al M tok69 rfl rfl<|?_;clear M;intro b9 w M
   refine s_as rfl<|fun a F=>?_
   refine rl_storeA F M tok69 (k:=0) rfl rfl rfl (us:=[.int .u64 (((Xi.item.key:Nat):Int)),.int .u8 (((Xi.item.typ:Nat):Int)),.string (str (Xi.item.text)),.slice (mae8) (Xi.item.marks.length) (mce8),.int .i64 (Xi.size),.bool (Xi.known)]) rfl rfl (by simp [Value.oneCell']) (by simp) ?_;clear F M a;intro w a M F
   change Mem w0 G6 (.blk b9 [.int .u64 (((Xi.item.key:Nat):Int)),.int .u8 (((Xi.item.typ:Nat):Int)),.string (str (Xi.item.text)),.slice (mae8) (Xi.item.marks.length) (mce8),.int .i64 (Xi.size),.bool (Xi.known)] 69::_::_::(Ls++L)) _ at M
   revert a
   refine e_nil<|e_tn<|e_seq<|e_reg<|s_fa tok69.k rfl rfl<|e_run (fun a F=>run_loadA tok26 rfl (F.ev rfl) (cs:=[.int .u64 (((Xi.item.key:Nat):Int)),.int .u8 (((Xi.item.typ:Nat):Int)),.string (str (Xi.item.text)),.slice (mae8) (Xi.item.marks.length) (mce8)]) rfl (M.cellsL (k:=0) rfl rfl)) rfl<|fun a F=>?_
   refine rl_buildSlice1 F M tok22.k tok26 rfl rfl (cs:=[.int .u64 (((Xi.item.key:Nat):Int)),.int .u8 (((Xi.item.typ:Nat):Int)),.string (str (Xi.item.text)),.slice (mae8) (Xi.item.marks.length) (mce8)]) rfl rfl (by simp [Value.oneCell']) (by decide) rfl ?_;clear F M a;intro v11 w a M F
   obtain ⟨av11,cv11,rfl,hlev11,hcmv11,hlv11⟩:=M.row_shape (k:=0) rfl
   have Eb:Els rdItem 4 G6 [.int .u64 (((Xi.item.key:Nat):Int)),.int .u8 (((Xi.item.typ:Nat):Int)),.string (str (Xi.item.text)),.slice (mae8) (Xi.item.marks.length) (mce8)] [Xi.item]:=⟨[.int .u64 (((Xi.item.key:Nat):Int)),.int .u8 (((Xi.item.typ:Nat):Int)),.string (str (Xi.item.text)),.slice (mae8) (Xi.item.marks.length) (mce8)],[],rfl,rfl,⟨mae8,mce8,rfl,hke8,hte8,hxe8,hne8,SMe8⟩,rfl⟩
   obtain ⟨hnz12,Gz12,az12,cz12,hGz12,hez12,Sz12,M⟩:=M.freeze_row mono_rdItem (k:=0) rfl Eb (by decide)
   clear hez12 az12 cz12
   replace S:=S.mono mono_rdEnt hGz12
   replace Eo:=Eo.mono mono_rdEO hGz12
   replace Ae8:=Ae8.mono hGz12
   replace SMe8:=SMe8.mono mono_rdStr hGz12
   revert a
   refine s_cL ent15 rfl rfl (copy_own (xs:=[Xi.item]) M Sz12 (by show 1≤1000000;omega) (fun x hx=>by rw [List.mem_singleton.1 hx];exact hmk Xi (List.mem_of_getElem? hXi)))<|?_;clear M;rintro _ _ w M ⟨ac,csc,L1,rfl,rfl,Ec⟩
   have M:=M.perm ((perm_in L1 [.blk b9 [.int .u64 (((Xi.item.key:Nat):Int)),.int .u8 (((Xi.item.typ:Nat):Int)),.string (str (Xi.item.text)),.slice (mae8) (Xi.item.marks.length) (mce8),.int .i64 (Xi.size),.bool (Xi.known)] 69,.row (.slice (some ⟨bv5,0,none⟩) (l.length) (l.length)) (l.length) (cso) 69 6,.blk b1 [.slice none 0 0] 54] Ls L).cons _)
   obtain ⟨Ln,hLn⟩:∃ Ln,Ln=L1++Ls:=⟨_,rfl⟩
   intro a F
   rw [← hLn] at M
   have hs1:∀ r∈Ls,r∈Ln:=fun r hr=>by rw [hLn];exact List.mem_append_right _ hr
   have hs2:∀ r∈L1,r∈Ln:=fun r hr=>by rw [hLn];exact List.mem_append_left _ hr
   clear hLn
   change Mem w0 Gz12 (.row (.slice (ac) 1 1) 1 (csc) 26 4::.blk b9 [.int .u64 (((Xi.item.key:Nat):Int)),.int .u8 (((Xi.item.typ:Nat):Int)),.string (str (Xi.item.text)),.slice (mae8) (Xi.item.marks.length) (mce8),.int .i64 (Xi.size),.bool (Xi.known)] 69::.row (.slice (some ⟨bv5,0,none⟩) (l.length) (l.length)) (l.length) (cso) 69 6::.blk b1 [.slice none 0 0] 54::(Ln++L)) _ at M
   obtain ⟨be13,_,Ie13,hme13,_,Ae13,⟨ace13,mme13,rfl,k1e13,k2e13,k3e13,k4e13,hme13,hEe13⟩⟩:=M.atRow (k:=0) rfl (by decide) Ec (rfl:[Xi.item][0]?=some Xi.item)
   revert a
   refine s_ix tok22.k tok26 Ie13 rfl rfl<|e_run (fun a F=>run_loadA tok26 rfl (F.ev rfl) (cs:=[.int .u64 (((Xi.item.key:Nat):Int)),.int .u8 (((Xi.item.typ:Nat):Int)),.string (str (Xi.item.text)),.slice (ace13) (Xi.item.marks.length) (Xi.item.marks.length)]) rfl (cellsE Ae13 0 (by omega) rfl)) rfl<|s_fa tok69.k rfl rfl<|fun a F=>?_
   refine rl_storeA F M tok26 (k:=1) rfl rfl rfl (us:=[.int .u64 (((Xi.item.key:Nat):Int)),.int .u8 (((Xi.item.typ:Nat):Int)),.string (str (Xi.item.text)),.slice (ace13) (Xi.item.marks.length) (Xi.item.marks.length)]) rfl rfl (by simp [Value.oneCell']) (by simp) ?_;clear F M a;intro w a M F
   change Mem w0 Gz12 (_::.blk b9 [.int .u64 (((Xi.item.key:Nat):Int)),.int .u8 (((Xi.item.typ:Nat):Int)),.string (str (Xi.item.text)),.slice (ace13) (Xi.item.marks.length) (Xi.item.marks.length),.int .i64 (Xi.size),.bool (Xi.known)] 69::_::_::(Ln++L)) _ at M
   revert a
   refine e_nil<|e_tn<|?_
   have En:=elsEO_sub hs1 Eo
   have hml:=mix_len some none l i
   refine e_reg<|s_mv rfl<|s_mv rfl<|e_run (fun a F=>run_loadA tok69 rfl (F.ev rfl) (cs:=[.int .u64 (((Xi.item.key:Nat):Int)),.int .u8 (((Xi.item.typ:Nat):Int)),.string (str (Xi.item.text)),.slice (ace13) (Xi.item.marks.length) (Xi.item.marks.length),.int .i64 (Xi.size),.bool (Xi.known)]) rfl (M.cellsL (k:=1) rfl rfl)) rfl<|?_
   obtain ⟨Xe14,hXe14⟩:=get_of_lt (xs:=(mixF some none l i)) (i:=i) (by omega)
   obtain ⟨be14,_,Ie14,hme14,_,Ae14,_⟩:=M.atRow (k:=2) rfl (by decide) En hXe14
   refine s_ix tok52.k tok69 Ie14 rfl rfl<|fun a F=>?_
   refine rl_storeEl F M tok69 (k:=2) rfl rfl En Ie14 (lt_of_get hXe14) rfl rfl (us:=[.int .u64 (((Xi.item.key:Nat):Int)),.int .u8 (((Xi.item.typ:Nat):Int)),.string (str (Xi.item.text)),.slice (ace13) (Xi.item.marks.length) (Xi.item.marks.length),.int .i64 (Xi.size),.bool (Xi.known)]) rfl rfl (by simp [Value.oneCell']) (X':=(some Xi)) (show rdEC Ln Gz12 [.int .u64 (((Xi.item.key:Nat):Int)),.int .u8 (((Xi.item.typ:Nat):Int)),.string (str (Xi.item.text)),.slice (ace13) (Xi.item.marks.length) (Xi.item.marks.length),.int .i64 (Xi.size),.bool (Xi.known)] Xi from ⟨[.int .u64 (((Xi.item.key:Nat):Int)),.int .u8 (((Xi.item.typ:Nat):Int)),.string (str (Xi.item.text)),.slice (ace13) (Xi.item.marks.length) (Xi.item.marks.length)],rfl,rdC_sub hs2 ⟨ace13,mme13,rfl,k1e13,k2e13,k3e13,k4e13,hme13,hEe13⟩,hBe8⟩) ?_;clear F M a;intro csu15 w a M Eu15 F
   revert a
   refine e_nil<|e_bn<|e_tn<|e_reg<|s_add rfl rfl<|s_mv rfl<|e_nil<|e_tn<|fun a F=>?_
   exact ⟨_,by omega,i+1,Ln,csu15,rfl,Gz12,(hG6.trans hGz12),F.to ⟨rfl,rfl,rfl,rfl,rfl,trivial⟩,(M.weaken (.cons _ (.cons _ (.cons_cons _ (.cons_cons _ (List.Sublist.refl _)))))),by omega,by have h_:=Eu15;rwa [mix_set hXi] at h_⟩
  ·intro hc
   have h16b:=hc;clear hc
   have h16:¬ (((i:Nat):Int) < ((l.length:Nat):Int)):=of_decide_eq_false h16b
   refine e_exit<|e_te<|e_te<|e_bh<|e_tn<|e_seq<|e_reg<|s_mv rfl<|e_run (fun a F=>run_buildS (cs:=[.slice (some ⟨bv5,0,none⟩) (l.length) (l.length)]) (ps:=[(0,.slice (some ⟨bv5,0,none⟩) (l.length) (l.length))]) tok54.k rfl tok54 (F.evp rfl) rfl) rfl<|fun a F=>?_
   refine rl_storeA F M tok54 (k:=1) rfl rfl rfl (us:=[.slice (some ⟨bv5,0,none⟩) (l.length) (l.length)]) rfl rfl (by simp [Value.oneCell']) (by simp) ?_;clear F M a;intro w a M F
   change Mem w0 G6 (_::.blk b1 [.slice (some ⟨bv5,0,none⟩) (l.length) (l.length)] 54::(Ls++L)) _ at M
   revert a
   refine e_nil<|e_tn<|e_ret<|fun a F=>fin_c F M (k:=1) rfl rfl tok54 rfl rfl rfl ?_
   have Ex:=Eo;rw [mix_end (by omega)] at Ex
   exact ⟨_,_,hG6,M.weaken (.cons_cons _ (.cons _ (List.Sublist.refl _))),_,_,Ls,rfl,rfl,elsEO_all Ex⟩
theorem over_own {w0 w:World} {G:Ghost} {L Ls:List Res} {a:Option Addr} {cs:List Value} {xs:List EntD} (M:Mem w0 G (OWNR a xs.length cs::(Ls++L)) w) (E:Els (rdEC Ls) 6 G cs xs) :
  Calls Tryz.prog 115 #[.agg #[.slice a xs.length xs.length]] w (RetS w0 G (OWNR a xs.length cs::(Ls++L)) fun v=>v=.int .i64 (overE xs)):=by
 have M1:Mem w0 G ((OWNR a xs.length cs::Ls)++L) w:=M
 obtain ⟨hG,M2⟩:=M1.lend
 refine (over_spec M2 (own_lent M1 E)).mono ?_
 rintro e w' h
 cases e with
 | returned v=>exact ⟨M1.back h.1,h.2⟩
 | panicked c=>exact h.elim
 | outgrown=>exact h.elim
/-- What is owned is lent for good. -/
theorem own_give {w0 w:World} {G:Ghost} {L Ls:List Res} {a:Option Addr} {cs:List Value} {xs:List EntD} (M:Mem w0 G (OWNR a xs.length cs::(Ls++L)) w) (E:Els (rdEC Ls) 6 G cs xs) :
  ∃ G',Gle G G'∧Mem w0 G' L w∧RdSl rdEnt 6 G' (.slice a xs.length xs.length) xs:=by
 have M1:Mem w0 G ((OWNR a xs.length cs::Ls)++L) w:=M
 exact ⟨_,M1.lend.1,M1.lend.2,own_lent M1 E⟩
end Go.Proofs.YtmmhmcplegpenaaGreatDoor
