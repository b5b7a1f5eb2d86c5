/- The walks, part TC. · Templates: slots, valid parts; what a walk over all parts does. · The walks, part TD. · The walks, part TE. -/
import Derived.Test.YtmmhmcplegpenaaGreatDoorJ1
namespace Go.Proofs.YtmmhmcplegpenaaGreatDoor.T
open Go Go.Y Go.Proofs
set_option linter.unusedSimpArgs false
set_option linter.unusedVariables false
def MeasP (x:NT):Prop:=∀ (w0 w:World) (G:Ghost) (L:List Res) (cb db wb nb no c d lev:Nat) (ta ka:Option Addr) (tc kc:Nat),Mem w0 G (.blk cb [.int .i64 ((c:Nat):Int)] 3::.blk db [.int .i64 ((d:Nat):Int)] 3::.blk wb [.func (.func 232) #[] #[.pointer (some ⟨cb,0,none⟩),.pointer (some ⟨db,0,none⟩),.pointer (some ⟨wb,0,none⟩)]] 303::L) w→inKind .u8 x.kind→(x.tag.length≤9223372036854775807∧x.key.length≤9223372036854775807∧x.text.length≤9223372036854775807) →
  RdSl rdAttr 2 G (.slice ta x.as.length tc) x.as→RdSl rdN 6 G (.slice ka x.kids.length kc) x.kids→At G nb no [.int .u8 (x.kind),.string (str (x.tag)),.string (str (x.key)),.slice (ta) (x.as.length) (tc),.string (str (x.text)),.slice (ka) (x.kids.length) (kc)]→c≤64→d≤7→1≤lev→lev≤7 →
  Calls Tryz.prog 232 #[.pointer (some ⟨nb,no,none⟩),.int .i64 (lev:Int),.pointer (some ⟨cb,0,none⟩),.pointer (some ⟨db,0,none⟩),.pointer (some ⟨wb,0,none⟩)] w
   (RetL w0 G fun L' v=>∃ (bb:Bool) (c' d':Nat),v=.bool bb∧L' = (.blk cb [.int .i64 ((c':Nat):Int)] 3::.blk db [.int .i64 ((d':Nat):Int)] 3::.blk wb [.func (.func 232) #[] #[.pointer (some ⟨cb,0,none⟩),.pointer (some ⟨db,0,none⟩),.pointer (some ⟨wb,0,none⟩)]] 303::L)∧(bb=true↔Tr.Ok Alone (7 - lev) x∧c+x.size≤64)∧(bb=true→c' = c+x.size∧d' = max d (lev+x.depth - 1)))
theorem meas_step {x:NT} (ih:∀ y∈x.kids,MeasP y) {w0 w:World} {G:Ghost} {L:List Res} {cb db wb nb no c d lev:Nat} {ta ka:Option Addr} {tc kc:Nat} (M:Mem w0 G (.blk cb [.int .i64 ((c:Nat):Int)] 3::.blk db [.int .i64 ((d:Nat):Int)] 3::.blk wb [.func (.func 232) #[] #[.pointer (some ⟨cb,0,none⟩),.pointer (some ⟨db,0,none⟩),.pointer (some ⟨wb,0,none⟩)]] 303::L) w) (hk:inKind .u8 x.kind) (hl:(x.tag.length≤9223372036854775807∧x.key.length≤9223372036854775807∧x.text.length≤9223372036854775807))
  (SA:RdSl rdAttr 2 G (.slice ta x.as.length tc) x.as) (SK:RdSl rdN 6 G (.slice ka x.kids.length kc) x.kids) (A:At G nb no [.int .u8 (x.kind),.string (str (x.tag)),.string (str (x.key)),.slice (ta) (x.as.length) (tc),.string (str (x.text)),.slice (ka) (x.kids.length) (kc)]) (hc:c≤64) (hd:d≤7) (hl1:1≤lev) (hl2:lev≤7) :
  Calls Tryz.prog 232 #[.pointer (some ⟨nb,no,none⟩),.int .i64 (lev:Int),.pointer (some ⟨cb,0,none⟩),.pointer (some ⟨db,0,none⟩),.pointer (some ⟨wb,0,none⟩)] w
   (RetL w0 G fun L' v=>∃ (bb:Bool) (c' d':Nat),v=.bool bb∧L' = (.blk cb [.int .i64 ((c':Nat):Int)] 3::.blk db [.int .i64 ((d':Nat):Int)] 3::.blk wb [.func (.func 232) #[] #[.pointer (some ⟨cb,0,none⟩),.pointer (some ⟨db,0,none⟩),.pointer (some ⟨wb,0,none⟩)]] 303::L)∧(bb=true↔Tr.Ok Alone (7 - lev) x∧c+x.size≤64)∧(bb=true→c' = c+x.size∧d' = max d (lev+x.depth - 1))):=by
 refine e_start (vs:=[_,_,_,_,_]) Tryz.func232 rfl (n:=45) rfl rfl<|e_seq<|e_reg<|s_as rfl<|e_nil<|e_tn<|e_seq<|e_reg<|s_ld tok3 M 0 rfl rfl rfl rfl<|s_add rfl rfl<|s_st tok3 M 0 rfl rfl rfl rfl rfl rfl<|?_;clear M;intro w M
 refine e_nil<|e_tn<|e_seq<|e_reg<|s_ld tok3 M 1 rfl rfl rfl rfl<|s_mv rfl<|e_run (fun a F=>run_max2N (b:=d) (c:=lev) (F.ev rfl) (F.ev rfl)) rfl<|s_st tok3 M 1 rfl rfl rfl rfl rfl rfl<|?_;clear M;intro w M
 refine e_nil<|e_tn<|e_seq<|e_seq<|e_reg<|s_mv rfl<|s_gt rfl rfl<|s_mv rfl<|?_
 rcases Bool.eq_false_or_eq_true (decide (6 < (lev:Int))) with hc | hc
 ·skip
  have h1b:=hc;clear hc
  have h1:6 < (lev:Int):=of_decide_eq_true h1b
  refine g_f rfl h1b<|g_f rfl h1b<|s_pt rfl h1b rfl<|s_mv rfl<|g_f rfl rfl<|g_f rfl rfl<|g_f rfl rfl<|s_pt rfl rfl rfl<|e_nil<|e_tn<|e_cond_t rfl rfl<|e_seq<|e_reg<|s_as rfl<|e_nil<|e_tn<|e_ret<|e_tr<|e_fin1 rfl rfl<|?_
  replace M:=M.perm (perm_front _ 2 _ rfl)
  replace M:=M.perm (perm_front _ 2 _ rfl)
  replace M:=M.perm (perm_front _ 2 _ rfl)
  change Mem w0 G (.blk cb [.int .i64 ((((c:Nat):Int))+1)] 3::.blk db [.int .i64 (((max d lev:Nat):Int))] 3::_::L) _ at M
  exact ⟨_,M,false,_,_,rfl,rfl,⟨fun h_=>(by cases h_),fun h_=>absurd h_ (meas_no0 (by clear M;grind))⟩,fun h_=>(by cases h_)⟩
 ·skip
  have h2b:=hc;clear hc
  have h2:¬ (6 < (lev:Int)):=of_decide_eq_false h2b
  refine g_t rfl h2b<|s_ld tok3 M 0 rfl rfl rfl rfl<|g_t rfl h2b<|s_gt rfl rfl<|s_pf rfl h2b rfl<|s_mv rfl<|?_
  rcases Bool.eq_false_or_eq_true (decide (64 < (((c:Nat):Int))+1)) with hc | hc
  ·skip
   have h3b:=hc;clear hc
   have h3:64 < (((c:Nat):Int))+1:=of_decide_eq_true h3b
   refine g_f rfl h3b<|g_f rfl h3b<|g_f rfl h3b<|s_pt rfl h3b rfl<|e_nil<|e_tn<|e_cond_t rfl rfl<|e_seq<|e_reg<|s_as rfl<|e_nil<|e_tn<|e_ret<|e_tr<|e_fin1 rfl rfl<|?_
   replace M:=M.perm (perm_front _ 2 _ rfl)
   replace M:=M.perm (perm_front _ 2 _ rfl)
   replace M:=M.perm (perm_front _ 2 _ rfl)
   change Mem w0 G (.blk cb [.int .i64 ((((c:Nat):Int))+1)] 3::.blk db [.int .i64 (((max d lev:Nat):Int))] 3::_::L) _ at M
   exact ⟨_,M,false,_,_,rfl,rfl,⟨fun h_=>(by cases h_),fun h_=>absurd h_ (meas_no0 (by clear M;grind))⟩,fun h_=>(by cases h_)⟩
  ·skip
   have h4b:=hc;clear hc
   have h4:¬ (64 < (((c:Nat):Int))+1):=of_decide_eq_false h4b
   refine g_t rfl h4b<|s_mv rfl<|g_t rfl h4b<|s_cS ent233 rfl rfl (alone_spec (x:=x) M hk hl SA SK A)<|?_;clear M;rintro _ w M ⟨b5,rfl,hb5⟩
   refine g_t rfl h4b<|s_not rfl<|s_pf rfl h4b rfl<|e_nil<|e_tn<|e_cond rfl ?_ ?_
   ·intro hc
    have h6b:=hc;clear hc
    have h6:(b5)=false:=(of_not_t h6b)
    have h6c:(b5)=false:=(of_not_t h6b)
    refine e_seq<|e_reg<|s_as rfl<|e_nil<|e_tn<|e_ret<|e_tr<|e_fin1 rfl rfl<|?_
    replace M:=M.perm (perm_front _ 2 _ rfl)
    replace M:=M.perm (perm_front _ 2 _ rfl)
    replace M:=M.perm (perm_front _ 2 _ rfl)
    change Mem w0 G (.blk cb [.int .i64 ((((c:Nat):Int))+1)] 3::.blk db [.int .i64 (((max d lev:Nat):Int))] 3::_::L) _ at M
    exact ⟨_,M,false,_,_,rfl,rfl,⟨fun h_=>(by cases h_),fun h_=>absurd h_ (meas_no0 (by clear M;grind))⟩,fun h_=>(by cases h_)⟩
   ·intro hc
    have h7b:=hc;clear hc
    have h7:(b5)=true:=(of_not_f h7b)
    have h7c:(b5)=true:=(of_not_f h7b)
    refine e_skip<|e_tn<|e_seq<|e_seq<|?_
    have hAl:Alone x:=by clear M;grind
    have hl6:lev≤6:=by omega
    have hkl:=alone_len hAl
    refine e_reg<|s_mv rfl<|s_nc rfl<|s_fa tok193.k rfl rfl<|s_la tok191 M A 5 rfl rfl rfl rfl<|s_ls tok191.k rfl<|s_mv rfl<|e_nil<|e_tn<|e_block<|fun a F=>w_loopN (fun m a' w'=>∃ (i:Nat),∃ (ci:Nat),∃ (di:Nat),m=x.kids.length - i∧Fits 45 a' [(0,.pointer (some ⟨nb,no,none⟩)),(1,.int .i64 ((lev:Int))),(2,.pointer (some ⟨cb,0,none⟩)),(3,.pointer (some ⟨db,0,none⟩)),(4,.pointer (some ⟨wb,0,none⟩)),(28,.slice (ka) (x.kids.length) (kc)),(29,.int .i64 (((x.kids.length:Nat):Int))),(30,.int .i64 (((i:Nat):Int)))]∧Mem w0 G (.blk cb [.int .i64 (((ci:Nat):Int))] 3::.blk db [.int .i64 (((di:Nat):Int))] 3::.blk wb [.func (.func 232) #[] #[.pointer (some ⟨cb,0,none⟩),.pointer (some ⟨db,0,none⟩),.pointer (some ⟨wb,0,none⟩)]] 303::L) w'∧(i≤x.kids.length)∧(ci=c+1+Tr.sizes (x.kids.take i)∧ci≤64)∧(di=max d (lev+Tr.depths (x.kids.take i)))∧(di≤7)∧(∀ (m:Nat) (y:NT),m < i→x.kids[m]?=some y→Tr.Ok Alone (7 - (lev+1)) y)) _ ⟨0,c+1,max d lev,rfl,F.to ⟨rfl,rfl,rfl,rfl,rfl,rfl,rfl,rfl,trivial⟩,M,Nat.zero_le _,⟨by simp [Tr.sizes],by omega⟩,by simp only [List.take_zero,Tr.depths];omega,by omega,fun m y h=>by omega⟩ ?_
    clear F M
    rintro m a w ⟨i,ci,di,rfl,F,M,hi,hci,hdi,hd7,hO⟩
    revert a
    refine e_seq<|e_reg<|s_lt rfl rfl<|e_nil<|e_tn<|e_seq<|e_cond rfl ?_ ?_
    ·intro hc
     have h8b:=hc;clear hc
     have h8:((i:Nat):Int) < ((x.kids.length:Nat):Int):=of_decide_eq_true h8b
     refine e_skip<|e_tn<|e_seq<|e_block<|e_seq<|e_reg<|s_mv rfl<|s_as rfl<|e_nil<|e_tn<|e_seq<|fun a F=>w_plan2 [(.pure,0),(.free,1),(.free,2),(.free,3),(.pure,4),(.free,5),(.free,6),(.free,7),(.free,8),(.keep,9),(.free,10)] [] (Keep G [.blk wb [.func (.func 232) #[] #[.pointer (some ⟨cb,0,none⟩),.pointer (some ⟨db,0,none⟩),.pointer (some ⟨wb,0,none⟩)]] 303]) rfl (by kernel_rfl) (fun c a d v w h=>by cases d <;> exact h) ((M.drew _).keep (Gle.refl _) (by simp)) ?_
     replace M:=M.drew (w.drawn+1)
     revert a
     refine k_p (fun a F w M=>run_load1 (agf tok303 rfl) (F.ev rfl) (M.cellL (k:=0) rfl rfl)) rfl<|k_f (fun a F w _=>x_mv F rfl) rfl<|k_f (fun a F w _=>run_nilCheck (F.ev rfl)) rfl<|k_f (fun a F w _=>x_fa tok193.k rfl F rfl) rfl<|k_p (fun a F w M=>run_load1 (agf tok191 rfl) (F.ev rfl) (M.cellA A 5 rfl rfl)) rfl<|k_f (fun a F w _=>x_mv F rfl) rfl<|?_
     obtain ⟨Xe9,hXe9⟩:=get_of_lt (xs:=x.kids) (i:=i) (by omega)
     obtain ⟨be9,oe9,_,Ie9,_,Ae9,hTe9⟩:=SK.at hXe9
     obtain ⟨tae9,tce9,kae9,kce9,rfl,hke9,hle9,SAe9,SKe9⟩:=rdT_open hTe9
     refine k_f (fun a F w _=>run_indexI tok191.k tok193 (F.ev rfl) (F.ev rfl) (by omega) Ie9) rfl<|k_f (fun a F w _=>x_mv F rfl) rfl<|k_f (fun a F w _=>run_addi (F.ev rfl) (F.ev rfl) (in_i64 (by omega) (by omega))) rfl<|k_k rfl<|?_
     replace M:=M.perm (perm_front _ 2 _ rfl)
     replace M:=M.perm (perm_front _ 2 _ rfl)
     replace M:=M.perm (perm_front _ 2 _ rfl)
     change Mem w0 G (_::_::_::L) _ at M
     refine s_vL ent232 (caps:=[.pointer (some ⟨cb,0,none⟩),.pointer (some ⟨db,0,none⟩),.pointer (some ⟨wb,0,none⟩)]) rfl rfl rfl (ih Xe9 (List.mem_of_getElem? hXe9) _ _ _ _ _ _ _ _ _ ci di (lev+1) _ _ _ _ M hke9 hle9 SAe9 SKe9 Ae9 (by omega) (by omega) (by omega) (by omega))<|?_;clear M;rintro _ _ w M ⟨b10,cb10,db10,rfl,rfl,hb10,eb10⟩
     refine e_nil<|eK (C':=Keep G [.blk wb [.func (.func 232) #[] #[.pointer (some ⟨cb,0,none⟩),.pointer (some ⟨db,0,none⟩),.pointer (some ⟨wb,0,none⟩)]] 303]) (M.keep (Gle.refl _) (by simp)) (fun w h=>h.mono (Gle.refl _) (by simp))<|k_f (fun a F w _=>run_not (F.ev rfl)) rfl<|k_nil<|e_tn<|e_cond rfl ?_ ?_
     ·intro hc
      have h11b:=hc;clear hc
      have h11:(b10)=false:=(of_not_t h11b)
      have h11c:(b10)=false:=(of_not_t h11b)
      refine e_seq<|e_reg<|s_as rfl<|e_nil<|e_tn<|e_ret<|e_br<|e_tr<|e_tr<|e_br<|e_tr<|e_fin1 rfl rfl<|?_
      replace M:=M.perm (perm_front _ 2 _ rfl)
      replace M:=M.perm (perm_front _ 2 _ rfl)
      replace M:=M.perm (perm_front _ 2 _ rfl)
      change Mem w0 G (_::_::_::L) _ at M
      exact ⟨_,M,false,_,_,rfl,rfl,⟨fun h_=>(by cases h_),fun h_=>absurd h_ (meas_no_kid hXe9 hl6 (by rw [← hci.1];exact fun h_=>by have h9:=hb10.2 h_;simp_all))⟩,fun h_=>(by cases h_)⟩
     ·intro hc
      have h12b:=hc;clear hc
      have h12:(b10)=true:=(of_not_f h12b)
      have h12c:(b10)=true:=(of_not_f h12b)
      refine e_skip<|e_bn<|e_tn<|e_reg<|s_add rfl rfl<|s_mv rfl<|e_nil<|e_tn<|?_
      have hq:=hb10.1 (by assumption)
      obtain ⟨hc2,hd2⟩:=eb10 (by assumption)
      have hs2:=Tr.sizes_snoc hXe9
      have hp2:=Tr.depths_snoc hXe9
      have hps:=hq.1.depth
      intro a F
      exact ⟨_,by omega,i+1,cb10,db10,rfl,F.to ⟨rfl,rfl,rfl,rfl,rfl,rfl,rfl,rfl,trivial⟩,M,by omega,by omega,by omega,by omega,ok_step hO hXe9 hq.1⟩
    ·intro hc
     have h13b:=hc;clear hc
     have h13:¬ (((i:Nat):Int) < ((x.kids.length:Nat):Int)):=of_decide_eq_false h13b
     refine e_exit<|e_te<|e_te<|e_bh<|e_tn<|e_seq<|e_reg<|s_as rfl<|e_nil<|e_tn<|e_ret<|e_fin1 rfl rfl<|?_
     replace M:=M.perm (perm_front _ 2 _ rfl)
     replace M:=M.perm (perm_front _ 2 _ rfl)
     replace M:=M.perm (perm_front _ 2 _ rfl)
     change Mem w0 G (_::_::_::L) _ at M
     have hf:=sizes_full (x:=x) (i:=i) (by omega)
     have hg:=depths_full (x:=x) (i:=i) (by omega)
     exact ⟨_,M,true,_,_,rfl,rfl,⟨fun _=>⟨meas_yes hl6 hAl (by omega) hO,by omega⟩,fun _=>rfl⟩,fun _=>⟨by omega,by omega⟩⟩
theorem meas_all (x:NT):MeasP x:=by
 induction x using Tr.ind with
 | _ x ih=>intro w0 w G L cb db wb nb no c d lev ta ka tc kc M hk hl SA SK A hc hd hl1 hl2;exact meas_step ih M hk hl SA SK A hc hd hl1 hl2
theorem measure_ret {w0 w:World} {G:Ghost} {L:List Res} (M:Mem w0 G L w) {x:NT} {ta:Option Addr} {tc:Nat} {ka:Option Addr} {kc:Nat} (hk:inKind .u8 x.kind) (hl:(x.tag.length≤9223372036854775807∧x.key.length≤9223372036854775807∧x.text.length≤9223372036854775807)) (SA:RdSl rdAttr 2 G (.slice ta x.as.length tc) x.as) (SK:RdSl rdN 6 G (.slice ka x.kids.length kc) x.kids):Calls Tryz.prog 220 #[.agg #[.int .u8 (x.kind),.string (str (x.tag)),.string (str (x.key)),.slice (ta) (x.as.length) (tc),.string (str (x.text)),.slice (ka) (x.kids.length) (kc)]] w (Ret w0 G L fun _ v=>v=.tuple #[.int .i64 ((cntF x:Nat):Int),.int .i64 ((depF x:Nat):Int)]):=by
 refine e_start (vs:=[_]) Tryz.func220 rfl (n:=11) rfl rfl<|e_seq<|e_reg<|s_bx M rfl rfl rfl<|?_;clear M;intro b1 w M
 refine s_al M tok3 rfl rfl<|?_;clear M;intro b2 w M
 refine s_al M tok3 rfl rfl<|?_;clear M;intro b4 w M
 refine e_nil<|e_tn<|e_seq<|e_reg<|s_al M tok303 rfl rfl<|?_;clear M;intro b6 w M
 refine e_nil<|e_tn<|e_seq<|e_reg<|e_run (fun a F=>run_makeFunc (vs:=#[.pointer (some ⟨b2,0,none⟩),.pointer (some ⟨b4,0,none⟩),.pointer (some ⟨b6,0,none⟩)]) (by simp only [List.map_toArray,List.map_cons,List.map_nil,F.ev (x:=.tmp 2) rfl,F.ev (x:=.tmp 3) rfl,F.ev (x:=.tmp 4) rfl])) rfl<|s_st tok303 M 0 rfl rfl rfl rfl rfl rfl<|?_;clear M;intro w M
 refine e_nil<|e_tn<|e_seq<|e_seq<|?_
 obtain ⟨Gq8,hGq8,hbq8,M⟩:=M.freeze (k:=3) rfl
 have Aq8:At Gq8 b1 0 [.int .u8 (x.kind),.string (str (x.tag)),.string (str (x.key)),.slice (ta) (x.as.length) (tc),.string (str (x.text)),.slice (ka) (x.kids.length) (kc)]:=At.of_cells hbq8
 clear hbq8
 replace SA:=SA.mono mono_rdAttr hGq8
 replace SK:=SK.mono mono_rdN hGq8
 change Mem w0 Gq8 (.blk b6 [.func (.func 232) #[] #[.pointer (some ⟨b2,0,none⟩),.pointer (some ⟨b4,0,none⟩),.pointer (some ⟨b6,0,none⟩)]] 303::.blk b4 [.int .i64 0] 3::.blk b2 [.int .i64 0] 3::L) _ at M
 refine e_reg<|s_ld tok303 M 0 rfl rfl rfl rfl<|?_
 replace M:=M.perm (perm_front _ 1 _ rfl)
 replace M:=M.perm (perm_front _ 2 _ rfl)
 change Mem w0 Gq8 (_::_::.blk b6 [.func (.func 232) #[] #[.pointer (some ⟨b2,0,none⟩),.pointer (some ⟨b4,0,none⟩),.pointer (some ⟨b6,0,none⟩)]] 303::L) _ at M
 refine s_vL ent232 (caps:=[.pointer (some ⟨b2,0,none⟩),.pointer (some ⟨b4,0,none⟩),.pointer (some ⟨b6,0,none⟩)]) rfl rfl rfl (meas_all x _ _ _ _ _ _ _ _ _ 0 0 1 _ _ _ _ M hk hl SA SK Aq8 (by omega) (by omega) (by omega) (by omega))<|?_;clear M;rintro _ _ w M ⟨b9,cb9,db9,rfl,rfl,hb9,eb9⟩
 refine s_not rfl<|e_nil<|e_tn<|e_cond rfl ?_ ?_
 ·intro hc
  have h10b:=hc;clear hc
  have h10:(b9)=false:=(of_not_t h10b)
  have h10c:(b9)=false:=(of_not_t h10b)
  refine e_seq<|e_reg<|s_st tok3 M 0 rfl rfl rfl rfl rfl rfl<|?_;clear M;intro w M
  refine s_st tok3 M 1 rfl rfl rfl rfl rfl rfl<|?_;clear M;intro w M
  refine e_nil<|e_tn<|e_ret<|e_tr<|fun a F=>fin_cc F M (k1:=0) (k2:=1) rfl rfl rfl (agf tok3 rfl) (agf tok3 rfl) rfl rfl ?_
  have hV:¬ Valid x:=fun h_=>by have h9:=hb9.2 ⟨h_.1,by have:=h_.2;omega⟩;simp_all
  exact ⟨_,hGq8,(M.weaken (.cons _ (.cons _ (.cons _ (List.Sublist.refl _))))),by rw [cntF_no hV,depF_no hV];rfl⟩
 ·intro hc
  have h11b:=hc;clear hc
  have h11:(b9)=true:=(of_not_f h11b)
  have h11c:(b9)=true:=(of_not_f h11b)
  refine e_skip<|e_tn<|e_seq<|fun a F=>w_plan2 [(.pure,0),(.pure,1),(.keep,2),(.keep,3)] [] (Keep Gq8 [.blk b2 [.int .i64 (((cb9:Nat):Int))] 3,.blk b4 [.int .i64 (((db9:Nat):Int))] 3,.blk b6 [.func (.func 232) #[] #[.pointer (some ⟨b2,0,none⟩),.pointer (some ⟨b4,0,none⟩),.pointer (some ⟨b6,0,none⟩)]] 303]) rfl (by kernel_rfl) (fun c a d v w h=>by cases d <;> exact h) ((M.drew _).keep (Gle.refl _) (by simp)) ?_
  replace M:=M.drew (w.drawn+1)
  revert a
  refine k_p (fun a F w M=>run_load1 (agf tok3 rfl) (F.ev rfl) (M.cellL (k:=0) rfl rfl)) rfl<|k_p (fun a F w M=>run_load1 (agf tok3 rfl) (F.ev rfl) (M.cellL (k:=1) rfl rfl)) rfl<|k_k rfl<|s_st tok3 M 0 rfl rfl rfl rfl rfl rfl<|?_;clear M;intro w M
  refine e_nil<|eK (C':=Keep Gq8 [.blk b2 [.int .i64 (((cb9:Nat):Int))] 3,.blk b4 [.int .i64 (((db9:Nat):Int))] 3,.blk b6 [.func (.func 232) #[] #[.pointer (some ⟨b2,0,none⟩),.pointer (some ⟨b4,0,none⟩),.pointer (some ⟨b6,0,none⟩)]] 303]) (M.keep (Gle.refl _) (by simp)) (fun w h=>h.mono (Gle.refl _) (by simp))<|k_k rfl<|s_st tok3 M 1 rfl rfl rfl rfl rfl rfl<|?_;clear M;intro w M
  refine e_nil<|eK (C':=Keep Gq8 [.blk b2 [.int .i64 (((cb9:Nat):Int))] 3,.blk b4 [.int .i64 (((db9:Nat):Int))] 3,.blk b6 [.func (.func 232) #[] #[.pointer (some ⟨b2,0,none⟩),.pointer (some ⟨b4,0,none⟩),.pointer (some ⟨b6,0,none⟩)]] 303]) (M.keep (Gle.refl _) (by simp)) (fun w h=>h.mono (Gle.refl _) (by simp))<|k_nil<|e_tn<|e_ret<|fun a F=>fin_cc F M (k1:=0) (k2:=1) rfl rfl rfl (agf tok3 rfl) (agf tok3 rfl) rfl rfl ?_
  have hq:=hb9.1 (by assumption)
  have hV:Valid x:=⟨hq.1,by omega⟩
  obtain ⟨hc2,hd2⟩:=eb9 (by assumption)
  have hp1:=Tr.depth_eq x
  exact ⟨_,hGq8,(M.weaken (.cons _ (.cons _ (.cons _ (List.Sublist.refl _))))),by rw [cntF_yes hV,depF_yes hV,show x.size=cb9 by omega,show x.depth=db9 by omega]⟩
theorem measure_spec {w0 w:World} {G:Ghost} {L:List Res} (M:Mem w0 G L w) {x:NT} {ta:Option Addr} {tc:Nat} {ka:Option Addr} {kc:Nat} (hk:inKind .u8 x.kind) (hl:(x.tag.length≤9223372036854775807∧x.key.length≤9223372036854775807∧x.text.length≤9223372036854775807)) (SA:RdSl rdAttr 2 G (.slice ta x.as.length tc) x.as) (SK:RdSl rdN 6 G (.slice ka x.kids.length kc) x.kids):Calls Tryz.prog 220 #[.agg #[.int .u8 (x.kind),.string (str (x.tag)),.string (str (x.key)),.slice (ta) (x.as.length) (tc),.string (str (x.text)),.slice (ka) (x.kids.length) (kc)]] w (RetS w0 G L fun v=>v=.tuple #[.int .i64 ((cntF x:Nat):Int),.int .i64 ((depF x:Nat):Int)]):=Ret.plain M (measure_ret M hk hl SA SK)
theorem ncount_spec {w0 w:World} {G:Ghost} {L:List Res} (M:Mem w0 G L w) {x:NT} {ta:Option Addr} {tc:Nat} {ka:Option Addr} {kc:Nat} (hk:inKind .u8 x.kind) (hl:(x.tag.length≤9223372036854775807∧x.key.length≤9223372036854775807∧x.text.length≤9223372036854775807)) (SA:RdSl rdAttr 2 G (.slice ta x.as.length tc) x.as) (SK:RdSl rdN 6 G (.slice ka x.kids.length kc) x.kids):Calls Tryz.prog 193 #[.agg #[.int .u8 (x.kind),.string (str (x.tag)),.string (str (x.key)),.slice (ta) (x.as.length) (tc),.string (str (x.text)),.slice (ka) (x.kids.length) (kc)]] w (RetS w0 G L fun v=>v=.int .i64 (((cntF x:Nat):Int))):=by
 refine e_start (vs:=[_]) Tryz.func193 rfl (n:=11) rfl rfl<|e_seq<|e_reg<|s_bx M rfl rfl rfl<|?_;clear M;intro b1 w M
 refine s_as rfl<|e_nil<|e_tn<|e_seq<|e_reg<|e_run (fun a F=>run_loadA tok193 rfl (F.ev rfl) (cs:=[.int .u8 (x.kind),.string (str (x.tag)),.string (str (x.key)),.slice (ta) (x.as.length) (tc),.string (str (x.text)),.slice (ka) (x.kids.length) (kc)]) rfl (M.cellsL (k:=0) rfl rfl)) rfl<|s_cS ent220 rfl rfl (measure_spec (x:=x) M hk hl SA SK)<|?_;clear M;rintro _ w M rfl
 refine s_mv rfl<|s_ex rfl rfl<|s_ex rfl rfl<|s_as rfl<|s_as rfl<|e_nil<|e_tn<|e_seq<|e_reg<|s_mv rfl<|s_as rfl<|e_nil<|e_tn<|e_ret<|e_fin1 rfl rfl<|?_
 exact ⟨M.weaken (.cons _ (List.Sublist.refl _)),rfl⟩
theorem ncheck_spec {w0 w:World} {G:Ghost} {L:List Res} (M:Mem w0 G L w) {x:NT} {ta:Option Addr} {tc:Nat} {ka:Option Addr} {kc:Nat} (hk:inKind .u8 x.kind) (hl:(x.tag.length≤9223372036854775807∧x.key.length≤9223372036854775807∧x.text.length≤9223372036854775807)) (SA:RdSl rdAttr 2 G (.slice ta x.as.length tc) x.as) (SK:RdSl rdN 6 G (.slice ka x.kids.length kc) x.kids):Calls Tryz.prog 229 #[.agg #[.int .u8 (x.kind),.string (str (x.tag)),.string (str (x.key)),.slice (ta) (x.as.length) (tc),.string (str (x.text)),.slice (ka) (x.kids.length) (kc)]] w (RetS w0 G L fun v=>v=.int .i64 (chkF x)):=by
 refine e_start (vs:=[_]) Tryz.func229 rfl (n:=6) rfl rfl<|e_seq<|e_reg<|s_bx M rfl rfl rfl<|?_;clear M;intro b1 w M
 refine s_as rfl<|e_nil<|e_tn<|e_seq<|e_seq<|e_reg<|e_run (fun a F=>run_loadA tok193 rfl (F.ev rfl) (cs:=[.int .u8 (x.kind),.string (str (x.tag)),.string (str (x.key)),.slice (ta) (x.as.length) (tc),.string (str (x.text)),.slice (ka) (x.kids.length) (kc)]) rfl (M.cellsL (k:=0) rfl rfl)) rfl<|s_cS ent193 rfl rfl (ncount_spec (x:=x) M hk hl SA SK)<|?_;clear M;rintro _ w M rfl
 refine s_eq rfl rfl<|e_nil<|e_tn<|e_cond rfl ?_ ?_
 ·intro hc
  have h2b:=hc;clear hc
  have h2:((cntF x:Nat):Int)=0:=of_decide_eq_true h2b
  refine e_seq<|e_reg<|s_as rfl<|e_nil<|e_tn<|e_ret<|e_tr<|e_fin1 rfl rfl<|?_
  exact ⟨M.weaken (.cons _ (List.Sublist.refl _)),by rw [chkF_no fun h_=>by have:=cntF_pos.2 h_;omega]⟩
 ·intro hc
  have h3b:=hc;clear hc
  have h3:¬ (((cntF x:Nat):Int)=0):=of_decide_eq_false h3b
  refine e_skip<|e_tn<|e_seq<|e_reg<|s_as rfl<|e_nil<|e_tn<|e_ret<|e_fin1 rfl rfl<|?_
  exact ⟨M.weaken (.cons _ (List.Sublist.refl _)),by rw [chkF_yes (cntF_pos.1 (by omega))]⟩
open Go Go.Y
theorem u8_1:inKind .u8 1:=⟨by decide,by decide⟩
theorem u8_2:inKind .u8 2:=⟨by decide,by decide⟩
theorem u8_b {x:Int} (h:inKind .u8 x):0≤x∧x≤255:=h
theorem named_valid {s:List UInt8}:Valid (.mk 1 s [] [] [] [])↔Name s:=by
 unfold Valid
 constructor
 ·rintro ⟨⟨h,_⟩,_⟩
  rcases h with ⟨h1,_⟩ | ⟨_,_,h,_⟩
  ·exact absurd h1 (by simp [Tr.kind])
  ·exact h
 ·intro h
  refine ⟨⟨Or.inr ⟨by simp [Tr.kind],rfl,h,Or.inl rfl,rfl,by simp [Tr.as],by simp [Tr.kids],fun i x hx=>?_,fun i j a b _ ha=>?_⟩,fun c hc=>?_⟩,by simp [Tr.size,Tr.sizes]⟩
  ·simp [Tr.as] at hx
  ·simp [Tr.kids] at ha
  ·simp [Tr.kids] at hc
theorem words_valid {s:List UInt8}:Valid (.mk 2 [] [] [] s [])↔Str s:=by
 unfold Valid
 constructor
 ·rintro ⟨⟨h,_⟩,_⟩
  rcases h with ⟨_,h,_⟩ | ⟨_,h1,_⟩
  ·exact h
  ·exact absurd h1 (by simp [Tr.kind])
 ·intro h
  refine ⟨⟨Or.inl ⟨rfl,h,rfl,rfl,rfl,rfl⟩,fun c hc=>?_⟩,by simp [Tr.size,Tr.sizes]⟩
  simp [Tr.kids] at hc
theorem chkF_zero {x:NT}:chkF x=0↔Valid x:=by
 unfold chkF
 split
 ·rename_i h;exact ⟨fun _=>h,fun _=>rfl⟩
 ·rename_i h;exact ⟨fun h2=>(by cases h2),fun h2=>absurd h2 h⟩
/-! ### Slots and parts -/
def SlotAt (x:SlotD):Prop:=Name x.n∧x.src≤3∧Str x.v∧(x.src=0∨x.v=[])
def SlotsTo (l:List SlotD) (i:Nat):Prop:=∀ (m:Nat) (x:SlotD),m < i→l[m]?=some x→SlotAt x∧∀ y,0 < m→l[m - 1]?=some y→Op.bytesLess y.n x.n=true
def SlotsOk (l:List SlotD):Prop:=l.length≤8∧SlotsTo l l.length
theorem SlotsTo.zero (l:List SlotD):SlotsTo l 0:=fun m x h=>by omega
theorem SlotsTo.step {l:List SlotD} {i:Nat} {x:SlotD} (h:SlotsTo l i) (hx:l[i]?=some x) (hn:SlotAt x) (ho:∀ y,0 < i→l[i - 1]?=some y→Op.bytesLess y.n x.n=true):SlotsTo l (i+1):=by
 intro m z hm hz
 rcases Nat.eq_or_lt_of_le (show m≤i by omega) with e | e
 ·subst e;rw [hx] at hz;simp only [Option.some.injEq] at hz;subst hz;exact ⟨hn,ho⟩
 ·exact h m z e hz
theorem SlotsTo.done {l:List SlotD} {i:Nat} (h:SlotsTo l i) (h8:l.length≤8) (hi:l.length≤i):SlotsOk l:=⟨h8,fun m x hm hx=>h m x (by omega) hx⟩
theorem slots_no1 {l:List SlotD} {i:Nat} {x:SlotD} (hx:l[i]?=some x) (h:¬ SlotAt x):¬ SlotsOk l:=fun ho=>h (ho.2 i x (lt_of_get hx) hx).1
theorem slots_no2 {l:List SlotD} {i:Nat} {x y:SlotD} (hx:l[i]?=some x) (hy:l[i - 1]?=some y) (hi:0 < i) (h:¬ Op.bytesLess y.n x.n=true):¬ SlotsOk l:=fun ho=>h ((ho.2 i x (lt_of_get hx) hx).2 y hi hy)
def AloneP (x:PT):Prop :=
 (x.kind=1∧Name x.tag∧(x.key=[]∨Name x.key)∧SlotsOk x.as∧x.text=[]∧x.kids.length≤16) ∨
 (x.kind=2∧Str x.text∧x.tag=[]∧x.key=[]∧x.as.length=0∧x.kids.length=0) ∨
 ((x.kind=3∨x.kind=4)∧x.text=[]∧x.tag=[]∧x.key=[]∧x.as.length=0∧x.kids.length=0) ∨
 (x.kind=5∧Name x.tag∧SlotsOk x.as∧x.key=[]∧x.text=[]∧x.kids.length=0)
theorem aloneP_len {x:PT} (h:AloneP x):x.kids.length≤16∧x.as.length≤8:=by
 rcases h with ⟨_,_,_,h,_,h2⟩ | ⟨_,_,_,_,h,h2⟩ | ⟨_,_,_,_,h,h2⟩ | ⟨_,_,h,_,_,h2⟩
 ·exact ⟨h2,h.1⟩
 ·omega
 ·omega
 ·exact ⟨by omega,h.1⟩
def ValidP (x:PT):Prop:=x.kind=1∧Tr.Ok AloneP 6 x∧x.size≤64
open Classical in
/-- The number of parts of a valid template, 0 for another one. -/
noncomputable def cntP (x:PT):Nat:=if ValidP x then x.size else 0
open Classical in
noncomputable def chkP (x:PT):Int:=if ValidP x then 0 else 14
theorem cntP_yes {x:PT} (h:ValidP x):cntP x=x.size:=by unfold cntP;rw [if_pos h]
theorem cntP_no {x:PT} (h:¬ ValidP x):cntP x=0:=by unfold cntP;rw [if_neg h]
theorem chkP_yes {x:PT} (h:ValidP x):chkP x=0:=by unfold chkP;rw [if_pos h]
theorem chkP_no {x:PT} (h:¬ ValidP x):chkP x=14:=by unfold chkP;rw [if_neg h]
theorem cntP_pos {x:PT}:0 < cntP x↔ValidP x:=by
 unfold cntP
 split
 ·rename_i h;exact ⟨fun _=>h,fun _=>Tr.size_pos x⟩
 ·rename_i h;exact ⟨fun h2=>(by omega),fun h2=>absurd h2 h⟩
theorem chkP_zero {x:PT}:chkP x=0↔ValidP x:=by
 unfold chkP
 split
 ·rename_i h;exact ⟨fun _=>h,fun _=>rfl⟩
 ·rename_i h;exact ⟨fun h2=>(by cases h2),fun h2=>absurd h2 h⟩
theorem Cnt.cntP {x:PT} {r:Nat} (h:Cnt AloneP x 6 r):(x.kind≠1∨64 < r→_root_.Go.Proofs.YtmmhmcplegpenaaGreatDoor.T.cntP x=0)∧(x.kind=1→r≤64→_root_.Go.Proofs.YtmmhmcplegpenaaGreatDoor.T.cntP x=r):=by
 refine ⟨fun h1=>cntP_no fun h2=>?_,fun h0 h1=>?_⟩
 ·rcases h1 with h1 | h1
  ·exact h1 h2.1
  ·have:=h.ok.2 h2.2;omega
 ·rw [cntP_yes ⟨h0,h.ok.1 h1⟩,h.eq h1]
/-! ### A walk over all parts -/
section
variable {β σ:Type} (f:σ→Tr β→σ)
mutual
/-- What is there behind all nodes of a tree, a node ahead of those below it. -/
def visit (s:σ):Tr β→σ
 | .mk k t y a x l=>visits (f s (.mk k t y a x l)) l
def visits (s:σ):List (Tr β)→σ
 | []=>s
 | c::l=>visits (visit s c) l
end
theorem visit_eq (s:σ) (x:Tr β):visit f s x=visits f (f s x) x.kids:=by cases x;simp only [visit,Tr.kids]
theorem visits_append:∀ (l m:List (Tr β)) (s:σ),visits f s (l++m)=visits f (visits f s l) m
 | [],m,s=>by simp [visits]
 | x::l,m,s=>by simp only [List.cons_append,visits,visits_append l m]
theorem visits_snoc {l:List (Tr β)} {i:Nat} {x:Tr β} (h:l[i]?=some x) (s:σ):visits f s (l.take (i+1))=visit f (visits f s (l.take i)) x:=by
 rw [Tr.take_snoc' h,visits_append];simp [visits]
end
/-! ### How many nodes a template makes -/
theorem Tr.Ok.kid {β:Type} {A:Tr β→Prop} {n:Nat} {x c:Tr β} (h:Tr.Ok A n x) (hc:c∈x.kids):∃ m,Tr.Ok A m c:=by
 cases n with
 | zero=>exact h.elim
 | succ n=>exact ⟨n,h.2 c hc⟩
/-! ### What a template uses -/
theorem none_snoc {α:Type} {p:α→Prop} {l:List α} {i:Nat} {x:α} (h:∀ (m:Nat) (y:α),m < i→l[m]?=some y→p y) (hx:l[i]?=some x) (hp:p x):∀ (m:Nat) (y:α),m < i+1→l[m]?=some y→p y:=by
 intro m y hm hy
 rcases Nat.eq_or_lt_of_le (show m≤i by omega) with e | e
 ·subst e;rw [hx] at hy;simp only [Option.some.injEq] at hy;subst hy;exact hp
 ·exact h m y e hy
/-! ### Items -/
structure ItemD where
 key:Int
 typ:Int
 text:List UInt8
 marks:List (List UInt8)
def ItemOk (x:ItemD):Prop:=¬ x.key=0∧Str x.text∧x.marks.length≤8∧∀ s∈x.marks,Name s
open Classical in
/-- The error of an item. -/
noncomputable def itmF (x:ItemD):Int:=if ItemOk x then 0 else 6
theorem itmF_yes {x:ItemD} (h:ItemOk x):itmF x=0:=by unfold itmF;rw [if_pos h]
theorem itmF_no {x:ItemD} (h:¬ ItemOk x):itmF x=6:=by unfold itmF;rw [if_neg h]
theorem marks_all {l:List (List UInt8)} {i:Nat} (h:∀ (m:Nat) (s:List UInt8),m < i→l[m]?=some s→Name s) (hi:l.length≤i):∀ s∈l,Name s:=by
 intro s hs
 obtain ⟨m,hm⟩:=List.mem_iff_getElem?.1 hs
 exact h m s (by have:=lt_of_get hm;omega) hm
/-! ### Decimal numbers -/
theorem dec_split (u:Nat):Lib.decDigits u=(if u / 10=0 then [] else Lib.decDigits (u / 10))++[UInt8.ofNat (48+u % 10)]:=by
 rw [Lib.decDigits]
 split
 ·rename_i h
  rw [if_pos (by omega),Nat.mod_eq_of_lt h]
  rfl
 ·rename_i h
  rw [if_neg (by omega)]
theorem dec_len (u:Nat) (h:u < 18446744073709551616):(Lib.decDigits u).length≤20:=by
 rw [Lib.decDigits_length]
 rcases Nat.eq_zero_or_pos u with h0 | h0
 ·subst h0;rw [Lib.nDigits_small (by decide)];omega
 ·have h1:=Lib.numDigits_eq u h0 h
  split at h1 <;> omega
theorem dig_at:∀ k:Nat,k < 10→([48,49,50,51,52,53,54,55,56,57]:List UInt8)[k]?=some (UInt8.ofNat (48+k)):=by decide
theorem set_drop {l:List UInt8} {k:Nat} {b:UInt8} (h:k < l.length):(l.set k b).drop k=b::l.drop (k+1):=by
 rw [List.drop_eq_getElem_cons (by rw [List.length_set];exact h),List.getElem_set_self,List.drop_set_of_lt (by omega)]
theorem decl_step {u n i:Nat} {l:List UInt8} {b:UInt8} (h:Lib.decDigits u=Lib.decDigits n++l.drop i) (hi:1≤i) (hi2:i≤20) (hl:l.length=20) (hb:([48,49,50,51,52,53,54,55,56,57]:List UInt8)[n % 10]?=some b) :
  Lib.decDigits u=(if n / 10=0 then [] else Lib.decDigits (n / 10))++(l.set (i - 1) b).drop (i - 1):=by
 rw [dig_at _ (by omega)] at hb
 simp only [Option.some.injEq] at hb
 rw [h,dec_split n,set_drop (by omega),← hb,show i - 1+1=i by omega]
 simp
theorem decl_pos {u n i:Nat} {l:List UInt8} (h:Lib.decDigits u=Lib.decDigits n++l.drop i) (hu:u < 18446744073709551616) (hl:l.length=20) (hi:i≤20):1≤i:=by
 have h1:=dec_len u hu
 rw [h,List.length_append,List.length_drop,Lib.decDigits_length] at h1
 have:=Lib.nDigits_pos n
 omega
/-! ### Attributes of an item -/
def attrV (x:ItemD) (s:SlotD):List UInt8:=if s.src=1 then x.text else if s.src=2 then Lib.decDigits x.key.toNat else if s.src=3 then Lib.decDigits x.marks.length else s.v
def attrF (x:ItemD) (s:SlotD):AttrD:=⟨s.n,attrV x s⟩
theorem attrs_step {x:ItemD} {xs:List SlotD} {i:Nat} {s:SlotD} (h:xs[i]?=some s) :
  ((xs.take i).map (attrF x)++List.replicate (xs.length - i) (⟨[],[]⟩:AttrD)).set i (attrF x s)=(xs.take (i+1)).map (attrF x)++List.replicate (xs.length - (i+1)) (⟨[],[]⟩:AttrD):=by
 have hi:=lt_of_get h
 rw [Tr.take_snoc' h,List.map_append,List.set_append_right _ _ (by simp;omega)]
 have e:xs.length - i=(xs.length - (i+1))+1:=by omega
 have e2:i - ((xs.take i).map (attrF x)).length=0:=by simp;omega
 rw [e,e2,List.replicate_succ]
 simp
theorem pick4 {x:ItemD} {s:SlotD} (h0:0≤s.src) (h3:s.src≤3):(#[Value.string (str s.v),Value.string (str x.text),Value.string (str (Lib.decDigits x.key.toNat)),Value.string (str (Lib.decDigits x.marks.length))]:Array Value)[s.src.toNat]?=some (.string (str (attrV x s))):=by
 unfold attrV
 have h:s.src=0∨s.src=1∨s.src=2∨s.src=3:=by omega
 rcases h with h | h | h | h <;> rw [h] <;> rfl
theorem attrV_len {x:ItemD} (ht:x.text.length≤9223372036854775807) (hk:inKind .u64 x.key) (hm:x.marks.length≤9223372036854775807) (s:SlotD) (hv:s.v.length≤9223372036854775807):(attrV x s).length≤9223372036854775807:=by
 obtain ⟨h1,h2⟩:0≤x.key∧x.key≤18446744073709551615:=hk
 have a:=dec_len x.key.toNat (by omega)
 have b:=dec_len x.marks.length (by omega)
 unfold attrV
 split
 ·exact ht
 ·split
  ·omega
  ·split
   ·omega
   ·exact hv
theorem slots_src {l:List SlotD} (h:SlotsOk l) {s:SlotD} (hs:s∈l):s.src≤3:=by
 obtain ⟨m,hm⟩:=List.mem_iff_getElem?.1 hs
 exact (h.2 m s (lt_of_get hm) hm).1.2.1
/-! ### What is made of an item -/
def wordsN (s:List UInt8):NT:=.mk 2 [] [] [] s []
def eachN (x:ItemD) (tag:List UInt8) (al:List SlotD) (m:List UInt8):NT:=.mk 1 tag m (al.map (attrF x)) [] [wordsN m]
mutual
def madeF (x:ItemD):PT→List NT
 | .mk k tag key al text kids=>if k=1 then [.mk 1 tag key (al.map (attrF x)) [] (madesF x kids)] else if k=2 then [wordsN text] else if k=3 then [wordsN x.text] else if k=4 then [wordsN (Lib.decDigits x.key.toNat)] else
   if k=5 then x.marks.map (eachN x tag al) else []
def madesF (x:ItemD):List PT→List NT
 | []=>[]
 | c::l=>madeF x c++madesF x l
end
theorem mades_append (x:ItemD):∀ (l r:List PT),madesF x (l++r)=madesF x l++madesF x r
 | [],r=>by simp [madesF]
 | c::l,r=>by simp only [List.cons_append,madesF,mades_append x l r,List.append_assoc]
theorem mades_snoc {x:ItemD} {l:List PT} {i:Nat} {c:PT} (h:l[i]?=some c):madesF x (l.take (i+1))=madesF x (l.take i)++madeF x c:=by
 rw [Tr.take_snoc' h,mades_append];simp [madesF]
theorem made1 {x:ItemD} {p:PT} (h:p.kind=1):madeF x p=[.mk 1 p.tag p.key (p.as.map (attrF x)) [] (madesF x p.kids)]:=by
 cases p;simp only [Tr.kind] at h;subst h;simp [madeF,Tr.tag,Tr.key,Tr.as,Tr.kids]
theorem made2 {x:ItemD} {p:PT} (h:p.kind=2):madeF x p=[wordsN p.text]:=by
 cases p;simp only [Tr.kind] at h;subst h;simp [madeF,Tr.text]
theorem made3 {x:ItemD} {p:PT} (h:p.kind=3):madeF x p=[wordsN x.text]:=by
 cases p;simp only [Tr.kind] at h;subst h;simp [madeF]
theorem made4 {x:ItemD} {p:PT} (h:p.kind=4):madeF x p=[wordsN (Lib.decDigits x.key.toNat)]:=by
 cases p;simp only [Tr.kind] at h;subst h;simp [madeF]
theorem made5 {x:ItemD} {p:PT} (h:p.kind=5):madeF x p=x.marks.map (eachN x p.tag p.as):=by
 cases p;simp only [Tr.kind] at h;subst h;simp [madeF,Tr.tag,Tr.as]
theorem made0 {x:ItemD} {p:PT} (h1:¬ p.kind=1) (h2:¬ p.kind=2) (h3:¬ p.kind=3) (h4:¬ p.kind=4) (h5:¬ p.kind=5):madeF x p=[]:=by
 cases p;simp only [Tr.kind] at h1 h2 h3 h4 h5;simp [madeF,h1,h2,h3,h4,h5]
theorem made_len {x:ItemD} (hm:x.marks.length≤8) (p:PT):(madeF x p).length≤8:=by
 cases p with
 | mk k tag key al text kids =>
  simp only [madeF]
  repeat' split
  all_goals simp
  exact hm
theorem mades_len {x:ItemD} (hm:x.marks.length≤8):∀ l:List PT,(madesF x l).length≤8 * l.length
 | []=>by simp [madesF]
 | c::l=>by
  have h1:=made_len hm c
  have h2:=mades_len hm l
  simp only [madesF,List.length_append,List.length_cons];omega
theorem okP_slots {p:PT} {n:Nat} (h:Tr.Ok AloneP n p) (hk:p.kind=1∨p.kind=5):SlotsOk p.as:=by
 cases n with
 | zero=>exact h.elim
 | succ n =>
  rcases h.1 with ⟨_,_,_,h,_⟩ | ⟨h,_⟩ | ⟨h,_⟩ | ⟨_,_,h,_⟩
  ·exact h
  ·omega
  ·omega
  ·exact h
theorem okP_len {p:PT} {n:Nat} (h:Tr.Ok AloneP n p):p.kids.length≤16:=by
 cases n with
 | zero=>exact h.elim
 | succ n=>exact (aloneP_len h.1).1
theorem okP_kids {p:PT} {n:Nat} (h:Tr.Ok AloneP n p):∀ c∈p.kids,∃ m,Tr.Ok AloneP m c:=fun c hc=>Tr.Ok.kid h hc
theorem each_snoc {l:List (List UInt8)} {j:Nat} {s:List UInt8} (h:l[j]?=some s) (f:List UInt8→NT):(l.take (j+1)).map f=(l.take j).map f++[f s]:=by
 rw [Tr.take_snoc' h,List.map_append];rfl
theorem sizes_kids_lt {ps:List PT} {p:PT} (h:p∈ps):Tr.sizes p.kids < Tr.sizes ps:=by
 have h1:=Tr.size_mem h
 rw [Tr.size_eq] at h1;omega
/-! ### Render -/
def node1 (x:ItemD) (p:PT):NT:=.mk 1 p.tag p.key (p.as.map (attrF x)) [] (madesF x p.kids)
def zeroN:NT:=.mk 0 [] [] [] [] []
theorem mades_one {x:ItemD} {p:PT} (h:p.kind=1):madesF x [p]=[node1 x p]:=by simp [madesF,made1 h,node1]
open Classical in
/-- The error of Render. -/
noncomputable def rendE (p:PT) (x:ItemD) (most:Int):Int :=
 if most < 1∨64 < most then 1 else if ¬ ValidP p then 14 else if ¬ ItemOk x then 6 else if cntF (node1 x p)=0∨most < (cntF (node1 x p):Int) then 14 else 0
open Classical in
noncomputable def rendN (p:PT) (x:ItemD) (most:Int):NT:=if rendE p x most=0 then node1 x p else zeroN
section
variable {p:PT} {x:ItemD} {most:Int}
theorem rend_arg (h:most < 1∨64 < most):rendE p x most=1:=by unfold rendE;rw [if_pos h]
theorem rend_tree (h:¬ (most < 1∨64 < most)) (hp:¬ ValidP p):rendE p x most=14:=by unfold rendE;rw [if_neg h,if_pos hp]
theorem rend_item (h:¬ (most < 1∨64 < most)) (hp:ValidP p) (hx:¬ ItemOk x):rendE p x most=6:=by unfold rendE;rw [if_neg h,if_neg (not_not_intro hp),if_pos hx]
theorem rend_many (h:¬ (most < 1∨64 < most)) (hp:ValidP p) (hx:ItemOk x) (hc:cntF (node1 x p)=0∨most < (cntF (node1 x p):Int)):rendE p x most=14:=by
 unfold rendE;rw [if_neg h,if_neg (not_not_intro hp),if_neg (not_not_intro hx),if_pos hc]
theorem rend_ok (h:¬ (most < 1∨64 < most)) (hp:ValidP p) (hx:ItemOk x) (hc:¬ (cntF (node1 x p)=0∨most < (cntF (node1 x p):Int))):rendE p x most=0:=by
 unfold rendE;rw [if_neg h,if_neg (not_not_intro hp),if_neg (not_not_intro hx),if_neg hc]
theorem rendN_ok (h:rendE p x most=0):rendN p x most=node1 x p:=by unfold rendN;rw [if_pos h]
theorem rendN_no (h:rendE p x most≠0):rendN p x most=zeroN:=by unfold rendN;rw [if_neg h]
end
theorem itmF_zero {x:ItemD}:itmF x=0↔ItemOk x:=by
 unfold itmF
 split
 ·rename_i h;exact ⟨fun _=>h,fun _=>rfl⟩
 ·rename_i h;exact ⟨fun h2=>(by cases h2),fun h2=>absurd h2 h⟩
theorem validP_elem {p:PT} (h:ValidP p):∃ n,Tr.Ok AloneP n p:=⟨6,h.2.1⟩
theorem perm_mid3 {a b c:Res} (R L:List Res):(a::b::c::(R++L)).Perm (R++(a::b::c::L)):=by
 have h1:(R++(a::b::c::L)).Perm (a::(R++(b::c::L))):=List.perm_middle
 have h2:(R++(b::c::L)).Perm (b::(R++(c::L))):=List.perm_middle
 have h3:(R++(c::L)).Perm (c::(R++L)):=List.perm_middle
 exact (h1.trans ((h2.trans (h3.cons b)).cons a)).symm
open Go Go.Y Go.Proofs
set_option linter.unusedSimpArgs false
set_option linter.unusedVariables false
theorem tnamed_spec {w0 w:World} {G:Ghost} {L:List Res} (M:Mem w0 G L w) {s:List UInt8} (hs:s.length≤9223372036854775807):Calls Tryz.prog 216 #[.string (str s)] w (RetS w0 G L fun v=>∃ b:Bool,v=.bool b∧(b=true↔Name s)):=by
 refine e_start (vs:=[_]) Tryz.func216 rfl (n:=7) rfl rfl<|e_seq<|e_reg<|s_as rfl<|e_nil<|e_tn<|e_seq<|e_reg<|s_mv rfl<|e_run (fun a F=>run_buildS (cs:=[.int .u8 1,.string (str (s)),.string (str ([]:List UInt8)),.slice none 0 0,.string (str ([]:List UInt8)),.slice none 0 0]) (ps:=[(0,.int .u8 1),(1,.string (str (s)))]) tok193.k rfl tok193 (F.evp rfl) rfl) rfl<|s_cS ent229 rfl rfl (ncheck_spec (x:=(.mk 1 s ([]:List UInt8) [] ([]:List UInt8) []:NT)) M ⟨by show (0:Int)≤1;omega,by show 1≤(255:Int);omega⟩ ⟨by first | exact Nat.zero_le _ | assumption | (simp only [Tr.tag,Tr.key,Tr.text];omega),by first | exact Nat.zero_le _ | assumption | (simp only [Tr.tag,Tr.key,Tr.text];omega),by first | exact Nat.zero_le _ | assumption | (simp only [Tr.tag,Tr.key,Tr.text];omega)⟩ RdSl.nil RdSl.nil)<|?_;clear M;rintro _ w M rfl
 refine s_eq rfl rfl<|s_as rfl<|e_nil<|e_tn<|e_ret<|e_fin1 rfl rfl<|?_
 exact ⟨M,(decide (chkF ((.mk 1 s ([]:List UInt8) [] ([]:List UInt8) []:NT))=0)),rfl,(decide_eq_true_iff.trans (chkF_zero.trans named_valid))⟩
theorem tplain_spec {w0 w:World} {G:Ghost} {L:List Res} (M:Mem w0 G L w) {s:List UInt8} (hs:s.length≤9223372036854775807):Calls Tryz.prog 214 #[.string (str s)] w (RetS w0 G L fun v=>∃ b:Bool,v=.bool b∧(b=true↔Str s)):=by
 refine e_start (vs:=[_]) Tryz.func214 rfl (n:=7) rfl rfl<|e_seq<|e_reg<|s_as rfl<|e_nil<|e_tn<|e_seq<|e_reg<|s_mv rfl<|e_run (fun a F=>run_buildS (cs:=[.int .u8 2,.string (str ([]:List UInt8)),.string (str ([]:List UInt8)),.slice none 0 0,.string (str (s)),.slice none 0 0]) (ps:=[(0,.int .u8 2),(4,.string (str (s)))]) tok193.k rfl tok193 (F.evp rfl) rfl) rfl<|s_cS ent229 rfl rfl (ncheck_spec (x:=(.mk 2 ([]:List UInt8) ([]:List UInt8) [] s []:NT)) M ⟨by show (0:Int)≤2;omega,by show 2≤(255:Int);omega⟩ ⟨by first | exact Nat.zero_le _ | assumption | (simp only [Tr.tag,Tr.key,Tr.text];omega),by first | exact Nat.zero_le _ | assumption | (simp only [Tr.tag,Tr.key,Tr.text];omega),by first | exact Nat.zero_le _ | assumption | (simp only [Tr.tag,Tr.key,Tr.text];omega)⟩ RdSl.nil RdSl.nil)<|?_;clear M;rintro _ w M rfl
 refine s_eq rfl rfl<|s_as rfl<|e_nil<|e_tn<|e_ret<|e_fin1 rfl rfl<|?_
 exact ⟨M,(decide (chkF ((.mk 2 ([]:List UInt8) ([]:List UInt8) [] s []:NT))=0)),rfl,(decide_eq_true_iff.trans (chkF_zero.trans words_valid))⟩
theorem tslots_spec {w0 w:World} {G:Ghost} {L:List Res} (M:Mem w0 G L w) {ad:Option Addr} {cd:Nat} {xs:List SlotD} (S:RdSl rdSlot 3 G (.slice ad xs.length cd) xs) (hxs:xs.length≤9223372036854775807):Calls Tryz.prog 235 #[.slice ad xs.length cd] w (RetS w0 G L fun v=>∃ b:Bool,v=.bool b∧(b=true↔SlotsOk xs)):=by
 refine e_start (vs:=[_]) Tryz.func235 rfl (n:=56) rfl rfl<|e_seq<|e_reg<|s_as rfl<|e_nil<|e_tn<|e_seq<|e_seq<|e_reg<|s_mv rfl<|s_ls tok76.k rfl<|s_gt rfl rfl<|e_nil<|e_tn<|e_cond rfl ?_ ?_
 ·intro hc
  have h1b:=hc;clear hc
  have h1:8 < ((xs.length:Nat):Int):=of_decide_eq_true h1b
  refine e_seq<|e_reg<|s_as rfl<|e_nil<|e_tn<|e_ret<|e_tr<|e_fin1 rfl rfl<|?_
  exact ⟨M,false,rfl,⟨fun h_=>(by cases h_),fun h_=>(by have:=h_.1;omega)⟩⟩
 ·intro hc
  have h2b:=hc;clear hc
  have h2:¬ (8 < ((xs.length:Nat):Int)):=of_decide_eq_false h2b
  refine e_skip<|e_tn<|e_seq<|e_seq<|e_reg<|s_mv rfl<|s_ls tok76.k rfl<|s_mv rfl<|e_nil<|e_tn<|e_block<|fun a F=>w_loopN (fun m a' w'=>∃ (i:Nat),m=xs.length - i∧Fits 56 a' [(0,.slice (ad) (xs.length) (cd)),(8,.slice (ad) (xs.length) (cd)),(9,.int .i64 (((xs.length:Nat):Int))),(10,.int .i64 (((i:Nat):Int)))]∧Mem w0 G (L) w'∧(i≤xs.length)∧(SlotsTo xs i)) _ ⟨0,rfl,F.to ⟨rfl,rfl,rfl,rfl,trivial⟩,M,Nat.zero_le _,SlotsTo.zero _⟩ ?_
  clear F M
  rintro m a w ⟨i,rfl,F,M,hi,hS⟩
  revert a
  refine e_seq<|e_reg<|s_lt rfl rfl<|e_nil<|e_tn<|e_seq<|e_cond rfl ?_ ?_
  ·intro hc
   have h3b:=hc;clear hc
   have h3:((i:Nat):Int) < ((xs.length:Nat):Int):=of_decide_eq_true h3b
   refine e_skip<|e_tn<|e_seq<|e_block<|e_seq<|e_reg<|s_mv rfl<|?_
   obtain ⟨Xe4,hXe4⟩:=get_of_lt (xs:=xs) (i:=i) (by omega)
   obtain ⟨be4,oe4,_,Ie4,_,Ae4,⟨rfl,hn1e4,hk1e4,hv1e4⟩⟩:=S.at hXe4
   refine s_ix tok76.k tok189 Ie4 rfl rfl<|e_run (fun a F=>run_loadA tok189 rfl (F.ev rfl) (cs:=[.string (str (Xe4.n)),.int .u8 (Xe4.src),.string (str (Xe4.v))]) rfl (M.cellsA Ae4 0 (by omega) rfl)) rfl<|s_al M tok189 rfl rfl<|?_;clear M;intro b5 w M
   refine s_as rfl<|fun a F=>?_
   refine rl_storeA F M tok189 (k:=0) rfl rfl rfl (us:=[.string (str (Xe4.n)),.int .u8 (Xe4.src),.string (str (Xe4.v))]) rfl rfl (by simp [Value.oneCell']) (by simp) ?_;clear F M a;intro w a M F
   change Mem w0 G (.blk b5 [.string (str (Xe4.n)),.int .u8 (Xe4.src),.string (str (Xe4.v))] 189::L) _ at M
   revert a
   refine e_nil<|e_tn<|e_seq<|fun a F=>w_plan2 [(.free,0),(.pure,1),(.keep,2),(.free,3),(.free,4),(.free,5),(.pure,6),(.free,7),(.free,8),(.free,9),(.free,10),(.pure,11),(.keep,12),(.free,13),(.free,14),(.free,15),(.free,16),(.pure,17),(.free,18),(.free,19),(.free,20),(.pure,21),(.free,22),(.free,23),(.free,24),(.free,25),(.free,26),(.free,27),(.free,28),(.free,29),(.pure,30),(.free,31),(.free,32),(.free,33),(.free,34),(.free,35),(.pure,36),(.free,37),(.free,38),(.free,39)] [] (Keep G [.blk b5 [.string (str (Xe4.n)),.int .u8 (Xe4.src),.string (str (Xe4.v))] 189]) rfl (by kernel_rfl) (fun c a d v w h=>by cases d <;> exact h) ((M.drew _).keep (Gle.refl _) (by simp)) ?_
   replace M:=M.drew (w.drawn+1)
   revert a
   refine k_f (fun a F w _=>x_fa tok189.k rfl F rfl) rfl<|k_p (fun a F w M=>run_load1 (agf tok9 rfl) (F.ev rfl) (M.cellL (k:=0) rfl rfl)) rfl<|k_k rfl<|s_cS ent216 rfl rfl (tnamed_spec (s:=Xe4.n) M (by omega))<|?_;clear M;rintro _ w M ⟨b7,rfl,hb7⟩
   refine e_nil<|eK (C':=Keep G [.blk b5 [.string (str (Xe4.n)),.int .u8 (Xe4.src),.string (str (Xe4.v))] 189]) (M.keep (Gle.refl _) (by simp)) (fun w h=>h.mono (Gle.refl _) (by simp))<|k_f (fun a F w _=>run_not (F.ev rfl)) rfl<|k_f (fun a F w _=>x_mv F rfl) rfl<|?_
   rcases Bool.eq_false_or_eq_true (!(b7)) with hc | hc
   ·skip
    have h8b:=hc;clear hc
    have h8:(b7)=false:=(of_not_t h8b)
    have h8c:(b7)=false:=(of_not_t h8b)
    refine k_s rfl (not_t h8c)<|k_s rfl (not_t h8c)<|k_s rfl (not_t h8c)<|k_f (fun a F w _=>x_pt F rfl (not_t h8c) rfl) rfl<|k_f (fun a F w _=>x_mv F rfl) rfl<|k_s rfl rfl<|k_s rfl rfl<|k_s rfl rfl<|k_s rfl rfl<|k_f (fun a F w _=>x_pt F rfl rfl rfl) rfl<|k_f (fun a F w _=>x_mv F rfl) rfl<|k_s rfl rfl<|k_s rfl rfl<|k_s rfl rfl<|k_s rfl rfl<|k_u rfl<|k_u rfl<|k_u rfl<|k_s rfl rfl<|k_f (fun a F w _=>x_pt F rfl rfl rfl) rfl<|k_f (fun a F w _=>x_mv F rfl) rfl<|k_s rfl rfl<|k_s rfl rfl<|k_s rfl rfl<|?_
    refine k_u rfl<|k_u rfl<|k_u rfl<|k_u rfl<|k_u rfl<|k_u rfl<|k_u rfl<|k_u rfl<|k_u rfl<|k_s rfl rfl<|k_f (fun a F w _=>x_pt F rfl rfl rfl) rfl<|k_nil<|e_tn<|e_cond_t rfl rfl<|e_seq<|e_reg<|s_as rfl<|e_nil<|e_tn<|e_ret<|e_br<|e_tr<|e_tr<|e_br<|?_
    refine e_tr<|e_fin1 rfl rfl<|?_
    exact ⟨(M.weaken (.cons _ (List.Sublist.refl _))),false,rfl,(by have hu:=u8_b hk1e4;have q0:=slots_no1 hXe4;have q9:=@bl_le;clear M;unfold SlotAt at q0;grind)⟩
   ·skip
    have h9b:=hc;clear hc
    have h9:(b7)=true:=(of_not_f h9b)
    have h9c:(b7)=true:=(of_not_f h9b)
    refine k_fg rfl (not_f h9c) (fun a F w _=>x_fa tok189.k rfl F rfl)<|k_pg rfl (not_f h9c) (fun a F w M=>run_load1 (agf tok5 rfl) (F.ev rfl) (M.cellL (k:=0) rfl rfl))<|k_fg rfl (not_f h9c) (fun a F w _=>run_gtr (F.ev rfl) (F.ev rfl))<|k_f (fun a F w _=>x_pf F rfl (not_f h9c) rfl) rfl<|k_f (fun a F w _=>x_mv F rfl) rfl<|?_
    rcases Bool.eq_false_or_eq_true (decide (3 < Xe4.src)) with hc | hc
    ·skip
     have h10b:=hc;clear hc
     have h10:3 < Xe4.src:=of_decide_eq_true h10b
     refine k_s rfl h10b<|k_s rfl h10b<|k_s rfl h10b<|k_s rfl h10b<|k_f (fun a F w _=>x_pt F rfl h10b rfl) rfl<|k_f (fun a F w _=>x_mv F rfl) rfl<|k_s rfl rfl<|k_s rfl rfl<|k_s rfl rfl<|k_s rfl rfl<|k_u rfl<|k_u rfl<|k_u rfl<|k_s rfl rfl<|k_f (fun a F w _=>x_pt F rfl rfl rfl) rfl<|k_f (fun a F w _=>x_mv F rfl) rfl<|k_s rfl rfl<|k_s rfl rfl<|k_s rfl rfl<|k_u rfl<|k_u rfl<|k_u rfl<|k_u rfl<|k_u rfl<|?_
     refine k_u rfl<|k_u rfl<|k_u rfl<|k_u rfl<|k_s rfl rfl<|k_f (fun a F w _=>x_pt F rfl rfl rfl) rfl<|k_nil<|e_tn<|e_cond_t rfl rfl<|e_seq<|e_reg<|s_as rfl<|e_nil<|e_tn<|e_ret<|e_br<|e_tr<|e_tr<|e_br<|e_tr<|e_fin1 rfl rfl<|?_
     exact ⟨(M.weaken (.cons _ (List.Sublist.refl _))),false,rfl,(by have hu:=u8_b hk1e4;have q0:=slots_no1 hXe4;have q9:=@bl_le;clear M;unfold SlotAt at q0;grind)⟩
    ·skip
     have h11b:=hc;clear hc
     have h11:¬ (3 < Xe4.src):=of_decide_eq_false h11b
     refine k_fg rfl h11b (fun a F w _=>x_fa tok189.k rfl F rfl)<|k_pg rfl h11b (fun a F w M=>run_load1 (agf tok9 rfl) (F.ev rfl) (M.cellL (k:=0) rfl rfl))<|fun a F=>pk_keep_g F rfl rfl h11b ?_
     revert a
     refine g_t rfl h11b<|s_cS ent214 rfl rfl (tplain_spec (s:=Xe4.v) M (by omega))<|?_;clear M;rintro _ w M ⟨b12,rfl,hb12⟩
     refine e_nil<|eK (C':=Keep G [.blk b5 [.string (str (Xe4.n)),.int .u8 (Xe4.src),.string (str (Xe4.v))] 189]) (M.keep (Gle.refl _) (by simp)) (fun w h=>h.mono (Gle.refl _) (by simp))<|k_fg rfl h11b (fun a F w _=>run_not (F.ev rfl))<|k_f (fun a F w _=>x_pf F rfl h11b rfl) rfl<|k_f (fun a F w _=>x_mv F rfl) rfl<|?_
     rcases Bool.eq_false_or_eq_true (!(b12)) with hc | hc
     ·skip
      have h13b:=hc;clear hc
      have h13:(b12)=false:=(of_not_t h13b)
      have h13c:(b12)=false:=(of_not_t h13b)
      refine k_s rfl (not_t h13c)<|k_s rfl (not_t h13c)<|k_s rfl (not_t h13c)<|k_s rfl (not_t h13c)<|k_u rfl<|k_u rfl<|k_u rfl<|k_s rfl (not_t h13c)<|k_f (fun a F w _=>x_pt F rfl (not_t h13c) rfl) rfl<|k_f (fun a F w _=>x_mv F rfl) rfl<|k_s rfl rfl<|k_s rfl rfl<|k_s rfl rfl<|k_u rfl<|k_u rfl<|k_u rfl<|k_u rfl<|k_u rfl<|k_u rfl<|k_u rfl<|k_u rfl<|k_u rfl<|k_s rfl rfl<|k_f (fun a F w _=>x_pt F rfl rfl rfl) rfl<|?_
      refine k_nil<|e_tn<|e_cond_t rfl rfl<|e_seq<|e_reg<|s_as rfl<|e_nil<|e_tn<|e_ret<|e_br<|e_tr<|e_tr<|e_br<|e_tr<|e_fin1 rfl rfl<|?_
      exact ⟨(M.weaken (.cons _ (List.Sublist.refl _))),false,rfl,(by have hu:=u8_b hk1e4;have q0:=slots_no1 hXe4;have q9:=@bl_le;clear M;unfold SlotAt at q0;grind)⟩
     ·skip
      have h14b:=hc;clear hc
      have h14:(b12)=true:=(of_not_f h14b)
      have h14c:(b12)=true:=(of_not_f h14b)
      refine k_fg rfl (not_f h14c) (fun a F w _=>x_fa tok189.k rfl F rfl)<|k_pg rfl (not_f h14c) (fun a F w M=>run_load1 (agf tok5 rfl) (F.ev rfl) (M.cellL (k:=0) rfl rfl))<|k_fg rfl (not_f h14c) (fun a F w _=>run_gtr (F.ev rfl) (F.ev rfl))<|k_fg rfl (not_f h14c) (fun a F w _=>x_mv F rfl)<|?_
      rcases Bool.eq_false_or_eq_true (decide (0 < Xe4.src)) with hc | hc
      ·skip
       have h15b:=hc;clear hc
       have h15:0 < Xe4.src:=of_decide_eq_true h15b
       refine k_fg rfl h15b (fun a F w _=>x_fa tok189.k rfl F rfl)<|k_pg rfl h15b (fun a F w M=>run_load1 (agf tok9 rfl) (F.ev rfl) (M.cellL (k:=0) rfl rfl))<|k_fg rfl h15b (fun a F w _=>run_strNe (F.ev rfl) (F.ev rfl))<|k_fg rfl (not_f h14c) (fun a F w _=>x_pt F rfl h15b rfl)<|k_f (fun a F w _=>x_pf F rfl (not_f h14c) rfl) rfl<|k_f (fun a F w _=>x_mv F rfl) rfl<|?_
       rcases Bool.eq_false_or_eq_true (!(decide (Xe4.v=([]:List UInt8)))) with hc | hc
       ·skip
        have h16b:=hc;clear hc
        have h16:¬ (Xe4.v=([]:List UInt8)):=of_decide_eq_false (of_not_t h16b)
        have h16c:(decide (Xe4.v=([]:List UInt8)))=false:=(of_not_t h16b)
        refine k_s rfl (not_t h16c)<|k_s rfl (not_t h16c)<|k_s rfl (not_t h16c)<|k_u rfl<|k_u rfl<|k_u rfl<|k_u rfl<|k_u rfl<|k_u rfl<|k_u rfl<|k_u rfl<|k_u rfl<|k_s rfl (not_t h16c)<|k_f (fun a F w _=>x_pt F rfl (not_t h16c) rfl) rfl<|k_nil<|e_tn<|e_cond_t rfl rfl<|e_seq<|e_reg<|s_as rfl<|e_nil<|e_tn<|e_ret<|e_br<|?_
        refine e_tr<|e_tr<|e_br<|e_tr<|e_fin1 rfl rfl<|?_
        exact ⟨(M.weaken (.cons _ (List.Sublist.refl _))),false,rfl,(by have hu:=u8_b hk1e4;have q0:=slots_no1 hXe4;have q9:=@bl_le;clear M;unfold SlotAt at q0;grind)⟩
       ·skip
        have h17b:=hc;clear hc
        have h17:Xe4.v=([]:List UInt8):=of_decide_eq_true (of_not_f h17b)
        have h17c:(decide (Xe4.v=([]:List UInt8)))=true:=(of_not_f h17b)
        refine k_fg rfl (not_f h17c) (fun a F w _=>x_mv F rfl)<|k_fg rfl (not_f h17c) (fun a F w _=>run_gtr (F.ev rfl) (F.ev rfl))<|k_fg rfl (not_f h17c) (fun a F w _=>x_mv F rfl)<|?_
        rcases Bool.eq_false_or_eq_true (decide (0 < ((i:Nat):Int))) with hc | hc
        ·skip
         have h18b:=hc;clear hc
         have h18:0 < ((i:Nat):Int):=of_decide_eq_true h18b
         refine k_fg rfl h18b (fun a F w _=>x_fa tok189.k rfl F rfl)<|k_pg rfl h18b (fun a F w M=>run_load1 (agf tok9 rfl) (F.ev rfl) (M.cellL (k:=0) rfl rfl))<|k_fg rfl h18b (fun a F w _=>x_mv F rfl)<|k_fg rfl h18b (fun a F w _=>x_mv F rfl)<|k_fg rfl h18b (fun a F w _=>run_subi (F.ev rfl) (F.ev rfl) (in_i64 (by omega) (by omega)))<|?_
         have hs19:((((i:Nat):Int)) - 1:Int)=((i - 1:Nat):Int):=by omega
         intro a F
         rw [hs19] at F
         obtain ⟨Xe20,hXe20⟩:=get_of_lt (xs:=xs) (i:=i - 1) (by omega)
         obtain ⟨be20,oe20,_,Ie20,_,Ae20,⟨rfl,hn1e20,hk1e20,hv1e20⟩⟩:=S.at hXe20
         revert a
         refine k_fg rfl h18b (fun a F w _=>run_indexI tok76.k tok189 (F.ev rfl) (F.ev rfl) (by omega) Ie20)<|k_fg rfl h18b (fun a F w _=>x_fa tok189.k rfl F rfl)<|k_pg rfl h18b (fun a F w M=>run_load1 (agf tok9 rfl) (F.ev rfl) (M.cellA Ae20 0 rfl rfl))<|k_fg rfl h18b (fun a F w _=>run_strLeq (F.ev rfl) (F.ev rfl))<|k_fg rfl (not_f h17c) (fun a F w _=>x_pt F rfl h18b rfl)<|k_f (fun a F w _=>x_pf F rfl (not_f h17c) rfl) rfl<|k_nil<|e_tn<|e_cond rfl ?_ ?_
         ·intro hc
          have h21b:=hc;clear hc
          have h21:(Op.bytesLess Xe4.n Xe20.n || Xe4.n==Xe20.n)=true:=h21b
          refine e_seq<|e_reg<|s_as rfl<|e_nil<|e_tn<|e_ret<|e_br<|e_tr<|e_tr<|e_br<|e_tr<|e_fin1 rfl rfl<|?_
          exact ⟨(M.weaken (.cons _ (List.Sublist.refl _))),false,rfl,(by have hu:=u8_b hk1e4;have q0:=slots_no1 hXe4;have q1:=slots_no2 hXe4 hXe20;have q9:=@bl_le;clear M;unfold SlotAt at q0;grind)⟩
         ·intro hc
          have h22b:=hc;clear hc
          have h22:(Op.bytesLess Xe4.n Xe20.n || Xe4.n==Xe20.n)=false:=h22b
          refine e_skip<|e_bn<|e_tn<|e_reg<|s_add rfl rfl<|s_mv rfl<|e_nil<|e_tn<|fun a F=>?_
          exact ⟨_,by omega,i+1,rfl,F.to ⟨rfl,rfl,rfl,rfl,trivial⟩,(M.weaken (.cons _ (List.Sublist.refl _))),by omega,hS.step hXe4 (by have hu:=u8_b hk1e4;clear F M;unfold SlotAt;grind) (fun y h_ hy=>by rw [hXe20] at hy;simp only [Option.some.injEq] at hy;subst hy;clear F M;have q99:=@bl_le;grind)⟩
        ·skip
         have h23b:=hc;clear hc
         have h23:¬ (0 < ((i:Nat):Int)):=of_decide_eq_false h23b
         refine k_s rfl h23b<|k_s rfl h23b<|k_s rfl h23b<|k_s rfl h23b<|k_s rfl h23b<|k_s rfl h23b<|k_s rfl h23b<|k_s rfl h23b<|k_s rfl h23b<|k_fg rfl (not_f h17c) (fun a F w _=>x_pf F rfl h23b rfl)<|k_f (fun a F w _=>x_pf F rfl (not_f h17c) rfl) rfl<|k_nil<|e_tn<|e_cond_f rfl rfl<|e_skip<|e_bn<|e_tn<|e_reg<|s_add rfl rfl<|s_mv rfl<|e_nil<|e_tn<|fun a F=>?_
         exact ⟨_,by omega,i+1,rfl,F.to ⟨rfl,rfl,rfl,rfl,trivial⟩,(M.weaken (.cons _ (List.Sublist.refl _))),by omega,hS.step hXe4 (by have hu:=u8_b hk1e4;clear F M;unfold SlotAt;grind) (fun y h_=>by omega)⟩
      ·skip
       have h24b:=hc;clear hc
       have h24:¬ (0 < Xe4.src):=of_decide_eq_false h24b
       refine k_s rfl h24b<|k_s rfl h24b<|k_s rfl h24b<|k_fg rfl (not_f h14c) (fun a F w _=>x_pf F rfl h24b rfl)<|k_f (fun a F w _=>x_pf F rfl (not_f h14c) rfl) rfl<|k_f (fun a F w _=>x_mv F rfl) rfl<|k_fg rfl rfl (fun a F w _=>x_mv F rfl)<|k_fg rfl rfl (fun a F w _=>run_gtr (F.ev rfl) (F.ev rfl))<|k_fg rfl rfl (fun a F w _=>x_mv F rfl)<|?_
       rcases Bool.eq_false_or_eq_true (decide (0 < ((i:Nat):Int))) with hc | hc
       ·skip
        have h25b:=hc;clear hc
        have h25:0 < ((i:Nat):Int):=of_decide_eq_true h25b
        refine k_fg rfl h25b (fun a F w _=>x_fa tok189.k rfl F rfl)<|k_pg rfl h25b (fun a F w M=>run_load1 (agf tok9 rfl) (F.ev rfl) (M.cellL (k:=0) rfl rfl))<|k_fg rfl h25b (fun a F w _=>x_mv F rfl)<|k_fg rfl h25b (fun a F w _=>x_mv F rfl)<|k_fg rfl h25b (fun a F w _=>run_subi (F.ev rfl) (F.ev rfl) (in_i64 (by omega) (by omega)))<|?_
        have hs26:((((i:Nat):Int)) - 1:Int)=((i - 1:Nat):Int):=by omega
        intro a F
        rw [hs26] at F
        obtain ⟨Xe27,hXe27⟩:=get_of_lt (xs:=xs) (i:=i - 1) (by omega)
        obtain ⟨be27,oe27,_,Ie27,_,Ae27,⟨rfl,hn1e27,hk1e27,hv1e27⟩⟩:=S.at hXe27
        revert a
        refine k_fg rfl h25b (fun a F w _=>run_indexI tok76.k tok189 (F.ev rfl) (F.ev rfl) (by omega) Ie27)<|k_fg rfl h25b (fun a F w _=>x_fa tok189.k rfl F rfl)<|k_pg rfl h25b (fun a F w M=>run_load1 (agf tok9 rfl) (F.ev rfl) (M.cellA Ae27 0 rfl rfl))<|k_fg rfl h25b (fun a F w _=>run_strLeq (F.ev rfl) (F.ev rfl))<|k_fg rfl rfl (fun a F w _=>x_pt F rfl h25b rfl)<|k_f (fun a F w _=>x_pf F rfl rfl rfl) rfl<|k_nil<|e_tn<|e_cond rfl ?_ ?_
        ·intro hc
         have h28b:=hc;clear hc
         have h28:(Op.bytesLess Xe4.n Xe27.n || Xe4.n==Xe27.n)=true:=h28b
         refine e_seq<|e_reg<|s_as rfl<|e_nil<|e_tn<|e_ret<|e_br<|e_tr<|e_tr<|e_br<|e_tr<|e_fin1 rfl rfl<|?_
         exact ⟨(M.weaken (.cons _ (List.Sublist.refl _))),false,rfl,(by have hu:=u8_b hk1e4;have q0:=slots_no1 hXe4;have q1:=slots_no2 hXe4 hXe27;have q9:=@bl_le;clear M;unfold SlotAt at q0;grind)⟩
        ·intro hc
         have h29b:=hc;clear hc
         have h29:(Op.bytesLess Xe4.n Xe27.n || Xe4.n==Xe27.n)=false:=h29b
         refine e_skip<|e_bn<|e_tn<|e_reg<|s_add rfl rfl<|s_mv rfl<|e_nil<|e_tn<|fun a F=>?_
         exact ⟨_,by omega,i+1,rfl,F.to ⟨rfl,rfl,rfl,rfl,trivial⟩,(M.weaken (.cons _ (List.Sublist.refl _))),by omega,hS.step hXe4 (by have hu:=u8_b hk1e4;clear F M;unfold SlotAt;grind) (fun y h_ hy=>by rw [hXe27] at hy;simp only [Option.some.injEq] at hy;subst hy;clear F M;have q99:=@bl_le;grind)⟩
       ·skip
        have h30b:=hc;clear hc
        have h30:¬ (0 < ((i:Nat):Int)):=of_decide_eq_false h30b
        refine k_s rfl h30b<|k_s rfl h30b<|k_s rfl h30b<|k_s rfl h30b<|k_s rfl h30b<|k_s rfl h30b<|k_s rfl h30b<|k_s rfl h30b<|k_s rfl h30b<|k_fg rfl rfl (fun a F w _=>x_pf F rfl h30b rfl)<|k_f (fun a F w _=>x_pf F rfl rfl rfl) rfl<|k_nil<|e_tn<|e_cond_f rfl rfl<|e_skip<|e_bn<|e_tn<|e_reg<|s_add rfl rfl<|s_mv rfl<|e_nil<|e_tn<|fun a F=>?_
        exact ⟨_,by omega,i+1,rfl,F.to ⟨rfl,rfl,rfl,rfl,trivial⟩,(M.weaken (.cons _ (List.Sublist.refl _))),by omega,hS.step hXe4 (by have hu:=u8_b hk1e4;clear F M;unfold SlotAt;grind) (fun y h_=>by omega)⟩
  ·intro hc
   have h31b:=hc;clear hc
   have h31:¬ (((i:Nat):Int) < ((xs.length:Nat):Int)):=of_decide_eq_false h31b
   refine e_exit<|e_te<|e_te<|e_bh<|e_tn<|e_seq<|e_reg<|s_as rfl<|e_nil<|e_tn<|e_ret<|e_fin1 rfl rfl<|?_
   exact ⟨M,true,rfl,⟨fun _=>hS.done (by omega) (by omega),fun _=>rfl⟩⟩
theorem talone_spec {w0 w:World} {G:Ghost} {L:List Res} (M:Mem w0 G L w) {rk:Rd PT} {x:PT} {ta:Option Addr} {tc:Nat} {ka:Option Addr} {kc:Nat} (hk:inKind .u8 x.kind) (hl:(x.tag.length≤9223372036854775807∧x.key.length≤9223372036854775807∧x.text.length≤9223372036854775807)) (SA:RdSl rdSlot 3 G (.slice ta x.as.length tc) x.as) (SK:RdSl rk 6 G (.slice ka x.kids.length kc) x.kids) {nb no:Nat} (A:At G nb no [.int .u8 (x.kind),.string (str (x.tag)),.string (str (x.key)),.slice (ta) (x.as.length) (tc),.string (str (x.text)),.slice (ka) (x.kids.length) (kc)]):Calls Tryz.prog 228 #[.pointer (some ⟨nb,no,none⟩)] w (RetS w0 G L fun v=>∃ bb:Bool,v=.bool bb∧(bb=true↔AloneP x)):=by
 refine e_start (vs:=[_]) Tryz.func228 rfl (n:=91) rfl rfl<|e_seq<|e_reg<|s_as rfl<|e_nil<|e_tn<|e_seq<|e_reg<|s_mv rfl<|s_nc rfl<|e_run (fun a F=>run_loadA tok79 rfl (F.ev rfl) (cs:=[.int .u8 (x.kind),.string (str (x.tag)),.string (str (x.key)),.slice (ta) (x.as.length) (tc),.string (str (x.text)),.slice (ka) (x.kids.length) (kc)]) rfl (M.cellsA A 0 (by omega) rfl)) rfl<|s_al M tok79 rfl rfl<|?_;clear M;intro b1 w M
 intro a F
 refine rl_storeA F M tok79 (k:=0) rfl rfl rfl (us:=[.int .u8 (x.kind),.string (str (x.tag)),.string (str (x.key)),.slice (ta) (x.as.length) (tc),.string (str (x.text)),.slice (ka) (x.kids.length) (kc)]) rfl rfl (by simp [Value.oneCell']) (by simp) ?_;clear F M a;intro w a M F
 change Mem w0 G (.blk b1 [.int .u8 (x.kind),.string (str (x.tag)),.string (str (x.key)),.slice (ta) (x.as.length) (tc),.string (str (x.text)),.slice (ka) (x.kids.length) (kc)] 79::L) _ at M
 revert a
 refine e_nil<|e_tn<|e_seq<|e_seq<|e_reg<|s_mv rfl<|s_nc rfl<|s_fa tok79.k rfl rfl<|s_la tok5 M A 0 rfl rfl rfl rfl<|e_nil<|e_tn<|e_block<|e_seq<|e_block<|e_seq<|e_block<|e_seq<|e_block<|e_seq<|e_block<|e_seq<|e_block<|e_seq<|e_seq<|?_
 refine e_seq<|e_reg<|s_eq rfl rfl<|s_as rfl<|e_nil<|e_tn<|e_cond rfl ?_ ?_
 ·intro hc
  have h3b:=hc;clear hc
  have h3:x.kind=1:=of_decide_eq_true h3b
  refine e_exit<|e_te<|e_te<|e_bh<|e_tn<|e_seq<|e_seq<|e_reg<|s_mv rfl<|s_nc rfl<|s_fa tok79.k rfl rfl<|s_la tok9 M A 2 rfl rfl rfl rfl<|s_sne rfl rfl<|s_mv rfl<|?_
  rcases Bool.eq_false_or_eq_true (!(decide (x.key=([]:List UInt8)))) with hc | hc
  ·skip
   have h4b:=hc;clear hc
   have h4:¬ (x.key=([]:List UInt8)):=of_decide_eq_false (of_not_t h4b)
   have h4c:(decide (x.key=([]:List UInt8)))=false:=(of_not_t h4b)
   refine g_t rfl (not_t h4c)<|s_mv rfl<|g_t rfl (not_t h4c)<|s_nc rfl<|g_t rfl (not_t h4c)<|s_fa tok79.k rfl rfl<|g_t rfl (not_t h4c)<|s_la tok9 M A 2 rfl rfl rfl rfl<|g_t rfl (not_t h4c)<|s_cS ent216 rfl rfl (tnamed_spec (s:=x.key) M (by omega))<|?_;clear M;rintro _ w M ⟨b5,rfl,hb5⟩
   refine g_t rfl (not_t h4c)<|s_not rfl<|s_pt rfl (not_t h4c) rfl<|s_mv rfl<|?_
   rcases Bool.eq_false_or_eq_true (!(b5)) with hc | hc
   ·skip
    have h6b:=hc;clear hc
    have h6:(b5)=false:=(of_not_t h6b)
    have h6c:(b5)=false:=(of_not_t h6b)
    refine g_f rfl (not_t h6c)<|g_f rfl (not_t h6c)<|g_f rfl (not_t h6c)<|g_f rfl (not_t h6c)<|g_f rfl (not_t h6c)<|g_f rfl (not_t h6c)<|s_pt rfl (not_t h6c) rfl<|e_nil<|e_tn<|e_cond_t rfl rfl<|e_seq<|e_reg<|s_as rfl<|e_nil<|e_tn<|e_ret<|e_tr<|e_br<|e_tr<|e_br<|e_tr<|e_br<|e_tr<|e_br<|?_
    refine e_tr<|e_br<|e_tr<|e_fin1 rfl rfl<|?_
    exact ⟨(M.weaken (.cons _ (List.Sublist.refl _))),false,rfl,(by clear M;unfold AloneP;grind)⟩
   ·skip
    have h7b:=hc;clear hc
    have h7:(b5)=true:=(of_not_f h7b)
    have h7c:(b5)=true:=(of_not_f h7b)
    refine g_t rfl (not_f h7c)<|s_mv rfl<|g_t rfl (not_f h7c)<|s_nc rfl<|g_t rfl (not_f h7c)<|s_fa tok79.k rfl rfl<|g_t rfl (not_f h7c)<|s_la tok77 M A 5 rfl rfl rfl rfl<|g_t rfl (not_f h7c)<|s_ls tok77.k rfl<|g_t rfl (not_f h7c)<|s_gt rfl rfl<|s_pf rfl (not_f h7c) rfl<|e_nil<|e_tn<|e_cond rfl ?_ ?_
    ·intro hc
     have h8b:=hc;clear hc
     have h8:16 < ((x.kids.length:Nat):Int):=of_decide_eq_true h8b
     refine e_seq<|e_reg<|s_as rfl<|e_nil<|e_tn<|e_ret<|e_tr<|e_br<|e_tr<|e_br<|e_tr<|e_br<|e_tr<|e_br<|e_tr<|e_br<|e_tr<|e_fin1 rfl rfl<|?_
     exact ⟨(M.weaken (.cons _ (List.Sublist.refl _))),false,rfl,(by clear M;unfold AloneP;grind)⟩
    ·intro hc
     have h9b:=hc;clear hc
     have h9:¬ (16 < ((x.kids.length:Nat):Int)):=of_decide_eq_false h9b
     refine e_skip<|e_tn<|e_reg<|s_fa tok79.k rfl rfl<|s_st tok9 M 0 rfl rfl rfl rfl rfl rfl<|?_;clear M;intro w M
     refine s_fa tok79.k rfl rfl<|s_st tok77 M 0 rfl rfl rfl rfl rfl rfl<|?_;clear M;intro w M
     refine e_nil<|e_bn<|e_tn<|e_seq<|e_seq<|e_seq<|e_reg<|s_mv rfl<|s_nc rfl<|s_fa tok79.k rfl rfl<|s_la tok9 M A 1 rfl rfl rfl rfl<|s_cS ent216 rfl rfl (tnamed_spec (s:=x.tag) M (by omega))<|?_;clear M;rintro _ w M ⟨b10,rfl,hb10⟩
     refine s_not rfl<|s_mv rfl<|?_
     rcases Bool.eq_false_or_eq_true (!(b10)) with hc | hc
     ·skip
      have h11b:=hc;clear hc
      have h11:(b10)=false:=(of_not_t h11b)
      have h11c:(b10)=false:=(of_not_t h11b)
      refine g_f rfl (not_t h11c)<|g_f rfl (not_t h11c)<|g_f rfl (not_t h11c)<|g_f rfl (not_t h11c)<|g_f rfl (not_t h11c)<|g_f rfl (not_t h11c)<|s_pt rfl (not_t h11c) rfl<|e_nil<|e_tn<|e_cond_t rfl rfl<|e_seq<|e_reg<|s_as rfl<|e_nil<|e_tn<|e_ret<|e_tr<|e_tr<|e_br<|e_tr<|e_br<|e_tr<|e_br<|e_tr<|?_
      refine e_br<|e_tr<|e_fin1 rfl rfl<|?_
      exact ⟨(M.weaken (.cons _ (List.Sublist.refl _))),false,rfl,(by clear M;unfold AloneP;grind)⟩
     ·skip
      have h12b:=hc;clear hc
      have h12:(b10)=true:=(of_not_f h12b)
      have h12c:(b10)=true:=(of_not_f h12b)
      refine g_t rfl (not_f h12c)<|s_mv rfl<|g_t rfl (not_f h12c)<|s_nc rfl<|g_t rfl (not_f h12c)<|s_fa tok79.k rfl rfl<|g_t rfl (not_f h12c)<|s_la tok76 M A 3 rfl rfl rfl rfl<|g_t rfl (not_f h12c)<|s_cS ent235 rfl rfl (tslots_spec (xs:=x.as) M SA (by have:=SA.bound;omega))<|?_;clear M;rintro _ w M ⟨b13,rfl,hb13⟩
      refine g_t rfl (not_f h12c)<|s_not rfl<|s_pf rfl (not_f h12c) rfl<|e_nil<|e_tn<|e_cond rfl ?_ ?_
      ·intro hc
       have h14b:=hc;clear hc
       have h14:(b13)=false:=(of_not_t h14b)
       have h14c:(b13)=false:=(of_not_t h14b)
       refine e_seq<|e_reg<|s_as rfl<|e_nil<|e_tn<|e_ret<|e_tr<|e_tr<|e_br<|e_tr<|e_br<|e_tr<|e_br<|e_tr<|e_br<|e_tr<|e_fin1 rfl rfl<|?_
       exact ⟨(M.weaken (.cons _ (List.Sublist.refl _))),false,rfl,(by clear M;unfold AloneP;grind)⟩
      ·intro hc
       have h15b:=hc;clear hc
       have h15:(b13)=true:=(of_not_f h15b)
       have h15c:(b13)=true:=(of_not_f h15b)
       refine e_skip<|e_tn<|e_reg<|s_fa tok79.k rfl rfl<|s_st tok9 M 0 rfl rfl rfl rfl rfl rfl<|?_;clear M;intro w M
       refine s_fa tok79.k rfl rfl<|s_st tok76 M 0 rfl rfl rfl rfl rfl rfl<|?_;clear M;intro w M
       refine e_nil<|e_tn<|e_exit<|e_be rfl<|e_te<|e_be rfl<|e_te<|e_be rfl<|e_te<|e_bh<|e_tn<|e_seq<|e_reg<|s_fa tok79.k rfl rfl<|s_ld tok9 M 0 rfl rfl rfl rfl<|s_seq rfl rfl<|s_mv rfl<|g_t rfl (by decide)<|s_fa tok79.k rfl rfl<|g_t rfl (by decide)<|s_ld tok9 M 0 rfl rfl rfl rfl<|g_t rfl (by decide)<|s_seq rfl rfl<|s_pt rfl (by decide) rfl<|?_
       refine s_mv rfl<|g_t rfl (by decide)<|s_fa tok79.k rfl rfl<|g_t rfl (by decide)<|s_ld tok9 M 0 rfl rfl rfl rfl<|g_t rfl (by decide)<|s_seq rfl rfl<|s_pt rfl (by decide) rfl<|s_mv rfl<|?_
       rcases Bool.eq_false_or_eq_true (decide (x.text=([]:List UInt8))) with hc | hc
       ·skip
        have h16b:=hc;clear hc
        have h16:x.text=([]:List UInt8):=of_decide_eq_true h16b
        refine g_t rfl h16b<|s_fa tok79.k rfl rfl<|g_t rfl h16b<|s_ld tok76 M 0 rfl rfl rfl rfl<|g_t rfl h16b<|s_ls tok76.k rfl<|g_t rfl h16b<|s_eq rfl rfl<|s_pt rfl h16b rfl<|s_mv rfl<|g_t rfl (decide_eq_true (by decide))<|s_fa tok79.k rfl rfl<|g_t rfl (decide_eq_true (by decide))<|s_ld tok77 M 0 rfl rfl rfl rfl<|g_t rfl (decide_eq_true (by decide))<|s_ls tok77.k rfl<|g_t rfl (decide_eq_true (by decide))<|s_eq rfl rfl<|s_pt rfl (decide_eq_true (by decide)) rfl<|s_as rfl<|e_nil<|e_tn<|e_ret<|e_fin1 rfl rfl<|?_
        exact ⟨(M.weaken (.cons _ (List.Sublist.refl _))),(decide (((0:Nat):Int)=0)),rfl,(by clear M;unfold AloneP;grind)⟩
       ·skip
        have h17b:=hc;clear hc
        have h17:¬ (x.text=([]:List UInt8)):=of_decide_eq_false h17b
        refine g_f rfl h17b<|g_f rfl h17b<|g_f rfl h17b<|g_f rfl h17b<|s_pf rfl h17b rfl<|s_mv rfl<|g_f rfl rfl<|g_f rfl rfl<|g_f rfl rfl<|g_f rfl rfl<|s_pf rfl rfl rfl<|s_as rfl<|e_nil<|e_tn<|e_ret<|e_fin1 rfl rfl<|?_
        exact ⟨(M.weaken (.cons _ (List.Sublist.refl _))),false,rfl,(by clear M;unfold AloneP;grind)⟩
  ·skip
   have h18b:=hc;clear hc
   have h18:x.key=([]:List UInt8):=of_decide_eq_true (of_not_f h18b)
   have h18c:(decide (x.key=([]:List UInt8)))=true:=(of_not_f h18b)
   refine g_f rfl (not_f h18c)<|g_f rfl (not_f h18c)<|g_f rfl (not_f h18c)<|g_f rfl (not_f h18c)<|g_f rfl (not_f h18c)<|g_f rfl (not_f h18c)<|s_pf rfl (not_f h18c) rfl<|s_mv rfl<|g_t rfl rfl<|s_mv rfl<|g_t rfl rfl<|s_nc rfl<|g_t rfl rfl<|s_fa tok79.k rfl rfl<|g_t rfl rfl<|s_la tok77 M A 5 rfl rfl rfl rfl<|g_t rfl rfl<|s_ls tok77.k rfl<|g_t rfl rfl<|s_gt rfl rfl<|s_pf rfl rfl rfl<|e_nil<|e_tn<|e_cond rfl ?_ ?_
   ·intro hc
    have h19b:=hc;clear hc
    have h19:16 < ((x.kids.length:Nat):Int):=of_decide_eq_true h19b
    refine e_seq<|e_reg<|s_as rfl<|e_nil<|e_tn<|e_ret<|e_tr<|e_br<|e_tr<|e_br<|e_tr<|e_br<|e_tr<|e_br<|e_tr<|e_br<|e_tr<|e_fin1 rfl rfl<|?_
    exact ⟨(M.weaken (.cons _ (List.Sublist.refl _))),false,rfl,(by clear M;unfold AloneP;grind)⟩
   ·intro hc
    have h20b:=hc;clear hc
    have h20:¬ (16 < ((x.kids.length:Nat):Int)):=of_decide_eq_false h20b
    refine e_skip<|e_tn<|e_reg<|s_fa tok79.k rfl rfl<|s_st tok9 M 0 rfl rfl rfl rfl rfl rfl<|?_;clear M;intro w M
    refine s_fa tok79.k rfl rfl<|s_st tok77 M 0 rfl rfl rfl rfl rfl rfl<|?_;clear M;intro w M
    refine e_nil<|e_bn<|e_tn<|e_seq<|e_seq<|e_seq<|e_reg<|s_mv rfl<|s_nc rfl<|s_fa tok79.k rfl rfl<|s_la tok9 M A 1 rfl rfl rfl rfl<|s_cS ent216 rfl rfl (tnamed_spec (s:=x.tag) M (by omega))<|?_;clear M;rintro _ w M ⟨b21,rfl,hb21⟩
    refine s_not rfl<|s_mv rfl<|?_
    rcases Bool.eq_false_or_eq_true (!(b21)) with hc | hc
    ·skip
     have h22b:=hc;clear hc
     have h22:(b21)=false:=(of_not_t h22b)
     have h22c:(b21)=false:=(of_not_t h22b)
     refine g_f rfl (not_t h22c)<|g_f rfl (not_t h22c)<|g_f rfl (not_t h22c)<|g_f rfl (not_t h22c)<|g_f rfl (not_t h22c)<|g_f rfl (not_t h22c)<|s_pt rfl (not_t h22c) rfl<|e_nil<|e_tn<|e_cond_t rfl rfl<|e_seq<|e_reg<|s_as rfl<|e_nil<|e_tn<|e_ret<|e_tr<|e_tr<|e_br<|e_tr<|e_br<|e_tr<|e_br<|e_tr<|?_
     refine e_br<|e_tr<|e_fin1 rfl rfl<|?_
     exact ⟨(M.weaken (.cons _ (List.Sublist.refl _))),false,rfl,(by clear M;unfold AloneP;grind)⟩
    ·skip
     have h23b:=hc;clear hc
     have h23:(b21)=true:=(of_not_f h23b)
     have h23c:(b21)=true:=(of_not_f h23b)
     refine g_t rfl (not_f h23c)<|s_mv rfl<|g_t rfl (not_f h23c)<|s_nc rfl<|g_t rfl (not_f h23c)<|s_fa tok79.k rfl rfl<|g_t rfl (not_f h23c)<|s_la tok76 M A 3 rfl rfl rfl rfl<|g_t rfl (not_f h23c)<|s_cS ent235 rfl rfl (tslots_spec (xs:=x.as) M SA (by have:=SA.bound;omega))<|?_;clear M;rintro _ w M ⟨b24,rfl,hb24⟩
     refine g_t rfl (not_f h23c)<|s_not rfl<|s_pf rfl (not_f h23c) rfl<|e_nil<|e_tn<|e_cond rfl ?_ ?_
     ·intro hc
      have h25b:=hc;clear hc
      have h25:(b24)=false:=(of_not_t h25b)
      have h25c:(b24)=false:=(of_not_t h25b)
      refine e_seq<|e_reg<|s_as rfl<|e_nil<|e_tn<|e_ret<|e_tr<|e_tr<|e_br<|e_tr<|e_br<|e_tr<|e_br<|e_tr<|e_br<|e_tr<|e_fin1 rfl rfl<|?_
      exact ⟨(M.weaken (.cons _ (List.Sublist.refl _))),false,rfl,(by clear M;unfold AloneP;grind)⟩
     ·intro hc
      have h26b:=hc;clear hc
      have h26:(b24)=true:=(of_not_f h26b)
      have h26c:(b24)=true:=(of_not_f h26b)
      refine e_skip<|e_tn<|e_reg<|s_fa tok79.k rfl rfl<|s_st tok9 M 0 rfl rfl rfl rfl rfl rfl<|?_;clear M;intro w M
      refine s_fa tok79.k rfl rfl<|s_st tok76 M 0 rfl rfl rfl rfl rfl rfl<|?_;clear M;intro w M
      refine e_nil<|e_tn<|e_exit<|e_be rfl<|e_te<|e_be rfl<|e_te<|e_be rfl<|e_te<|e_bh<|e_tn<|e_seq<|e_reg<|s_fa tok79.k rfl rfl<|s_ld tok9 M 0 rfl rfl rfl rfl<|s_seq rfl rfl<|s_mv rfl<|g_t rfl (by decide)<|s_fa tok79.k rfl rfl<|g_t rfl (by decide)<|s_ld tok9 M 0 rfl rfl rfl rfl<|g_t rfl (by decide)<|s_seq rfl rfl<|s_pt rfl (by decide) rfl<|?_
      refine s_mv rfl<|g_t rfl (by decide)<|s_fa tok79.k rfl rfl<|g_t rfl (by decide)<|s_ld tok9 M 0 rfl rfl rfl rfl<|g_t rfl (by decide)<|s_seq rfl rfl<|s_pt rfl (by decide) rfl<|s_mv rfl<|?_
      rcases Bool.eq_false_or_eq_true (decide (x.text=([]:List UInt8))) with hc | hc
      ·skip
       have h27b:=hc;clear hc
       have h27:x.text=([]:List UInt8):=of_decide_eq_true h27b
       refine g_t rfl h27b<|s_fa tok79.k rfl rfl<|g_t rfl h27b<|s_ld tok76 M 0 rfl rfl rfl rfl<|g_t rfl h27b<|s_ls tok76.k rfl<|g_t rfl h27b<|s_eq rfl rfl<|s_pt rfl h27b rfl<|s_mv rfl<|g_t rfl (decide_eq_true (by decide))<|s_fa tok79.k rfl rfl<|g_t rfl (decide_eq_true (by decide))<|s_ld tok77 M 0 rfl rfl rfl rfl<|g_t rfl (decide_eq_true (by decide))<|s_ls tok77.k rfl<|g_t rfl (decide_eq_true (by decide))<|s_eq rfl rfl<|s_pt rfl (decide_eq_true (by decide)) rfl<|s_as rfl<|e_nil<|e_tn<|e_ret<|e_fin1 rfl rfl<|?_
       exact ⟨(M.weaken (.cons _ (List.Sublist.refl _))),(decide (((0:Nat):Int)=0)),rfl,(by clear M;unfold AloneP;grind)⟩
      ·skip
       have h28b:=hc;clear hc
       have h28:¬ (x.text=([]:List UInt8)):=of_decide_eq_false h28b
       refine g_f rfl h28b<|g_f rfl h28b<|g_f rfl h28b<|g_f rfl h28b<|s_pf rfl h28b rfl<|s_mv rfl<|g_f rfl rfl<|g_f rfl rfl<|g_f rfl rfl<|g_f rfl rfl<|s_pf rfl rfl rfl<|s_as rfl<|e_nil<|e_tn<|e_ret<|e_fin1 rfl rfl<|?_
       exact ⟨(M.weaken (.cons _ (List.Sublist.refl _))),false,rfl,(by clear M;unfold AloneP;grind)⟩
 ·intro hc
  have h29b:=hc;clear hc
  have h29:¬ (x.kind=1):=of_decide_eq_false h29b
  refine e_skip<|e_tn<|e_seq<|e_seq<|e_reg<|s_eq rfl rfl<|s_as rfl<|e_nil<|e_tn<|e_cond rfl ?_ ?_
  ·intro hc
   have h30b:=hc;clear hc
   have h30:x.kind=5:=of_decide_eq_true h30b
   refine e_exit<|e_te<|e_te<|e_be rfl<|e_te<|e_bh<|e_tn<|e_seq<|e_seq<|e_seq<|e_reg<|s_mv rfl<|s_nc rfl<|s_fa tok79.k rfl rfl<|s_la tok9 M A 1 rfl rfl rfl rfl<|s_cS ent216 rfl rfl (tnamed_spec (s:=x.tag) M (by omega))<|?_;clear M;rintro _ w M ⟨b31,rfl,hb31⟩
   refine s_not rfl<|s_mv rfl<|?_
   rcases Bool.eq_false_or_eq_true (!(b31)) with hc | hc
   ·skip
    have h32b:=hc;clear hc
    have h32:(b31)=false:=(of_not_t h32b)
    have h32c:(b31)=false:=(of_not_t h32b)
    refine g_f rfl (not_t h32c)<|g_f rfl (not_t h32c)<|g_f rfl (not_t h32c)<|g_f rfl (not_t h32c)<|g_f rfl (not_t h32c)<|g_f rfl (not_t h32c)<|s_pt rfl (not_t h32c) rfl<|e_nil<|e_tn<|e_cond_t rfl rfl<|e_seq<|e_reg<|s_as rfl<|e_nil<|e_tn<|e_ret<|e_tr<|e_tr<|e_br<|e_tr<|e_br<|e_tr<|e_br<|e_tr<|?_
    refine e_br<|e_tr<|e_fin1 rfl rfl<|?_
    exact ⟨(M.weaken (.cons _ (List.Sublist.refl _))),false,rfl,(by clear M;unfold AloneP;grind)⟩
   ·skip
    have h33b:=hc;clear hc
    have h33:(b31)=true:=(of_not_f h33b)
    have h33c:(b31)=true:=(of_not_f h33b)
    refine g_t rfl (not_f h33c)<|s_mv rfl<|g_t rfl (not_f h33c)<|s_nc rfl<|g_t rfl (not_f h33c)<|s_fa tok79.k rfl rfl<|g_t rfl (not_f h33c)<|s_la tok76 M A 3 rfl rfl rfl rfl<|g_t rfl (not_f h33c)<|s_cS ent235 rfl rfl (tslots_spec (xs:=x.as) M SA (by have:=SA.bound;omega))<|?_;clear M;rintro _ w M ⟨b34,rfl,hb34⟩
    refine g_t rfl (not_f h33c)<|s_not rfl<|s_pf rfl (not_f h33c) rfl<|e_nil<|e_tn<|e_cond rfl ?_ ?_
    ·intro hc
     have h35b:=hc;clear hc
     have h35:(b34)=false:=(of_not_t h35b)
     have h35c:(b34)=false:=(of_not_t h35b)
     refine e_seq<|e_reg<|s_as rfl<|e_nil<|e_tn<|e_ret<|e_tr<|e_tr<|e_br<|e_tr<|e_br<|e_tr<|e_br<|e_tr<|e_br<|e_tr<|e_fin1 rfl rfl<|?_
     exact ⟨(M.weaken (.cons _ (List.Sublist.refl _))),false,rfl,(by clear M;unfold AloneP;grind)⟩
    ·intro hc
     have h36b:=hc;clear hc
     have h36:(b34)=true:=(of_not_f h36b)
     have h36c:(b34)=true:=(of_not_f h36b)
     refine e_skip<|e_tn<|e_reg<|s_fa tok79.k rfl rfl<|s_st tok9 M 0 rfl rfl rfl rfl rfl rfl<|?_;clear M;intro w M
     refine s_fa tok79.k rfl rfl<|s_st tok76 M 0 rfl rfl rfl rfl rfl rfl<|?_;clear M;intro w M
     refine e_nil<|e_tn<|e_exit<|e_be rfl<|e_te<|e_be rfl<|e_te<|e_be rfl<|e_te<|e_bh<|e_tn<|e_seq<|e_reg<|s_fa tok79.k rfl rfl<|s_ld tok9 M 0 rfl rfl rfl rfl<|s_seq rfl rfl<|s_mv rfl<|g_t rfl (by decide)<|s_fa tok79.k rfl rfl<|g_t rfl (by decide)<|s_ld tok9 M 0 rfl rfl rfl rfl<|g_t rfl (by decide)<|s_seq rfl rfl<|s_pt rfl (by decide) rfl<|?_
     refine s_mv rfl<|?_
     rcases Bool.eq_false_or_eq_true (decide (x.key=([]:List UInt8))) with hc | hc
     ·skip
      have h37b:=hc;clear hc
      have h37:x.key=([]:List UInt8):=of_decide_eq_true h37b
      refine g_t rfl h37b<|s_fa tok79.k rfl rfl<|g_t rfl h37b<|s_ld tok9 M 0 rfl rfl rfl rfl<|g_t rfl h37b<|s_seq rfl rfl<|s_pt rfl h37b rfl<|s_mv rfl<|?_
      rcases Bool.eq_false_or_eq_true (decide (x.text=([]:List UInt8))) with hc | hc
      ·skip
       have h38b:=hc;clear hc
       have h38:x.text=([]:List UInt8):=of_decide_eq_true h38b
       refine g_t rfl h38b<|s_fa tok79.k rfl rfl<|g_t rfl h38b<|s_ld tok76 M 0 rfl rfl rfl rfl<|g_t rfl h38b<|s_ls tok76.k rfl<|g_t rfl h38b<|s_eq rfl rfl<|s_pt rfl h38b rfl<|s_mv rfl<|g_t rfl (decide_eq_true (by decide))<|s_fa tok79.k rfl rfl<|g_t rfl (decide_eq_true (by decide))<|s_ld tok77 M 0 rfl rfl rfl rfl<|g_t rfl (decide_eq_true (by decide))<|s_ls tok77.k rfl<|g_t rfl (decide_eq_true (by decide))<|s_eq rfl rfl<|s_pt rfl (decide_eq_true (by decide)) rfl<|s_as rfl<|e_nil<|e_tn<|e_ret<|e_fin1 rfl rfl<|?_
       exact ⟨(M.weaken (.cons _ (List.Sublist.refl _))),(decide (((x.kids.length:Nat):Int)=0)),rfl,(by clear M;unfold AloneP;grind)⟩
      ·skip
       have h39b:=hc;clear hc
       have h39:¬ (x.text=([]:List UInt8)):=of_decide_eq_false h39b
       refine g_f rfl h39b<|g_f rfl h39b<|g_f rfl h39b<|g_f rfl h39b<|s_pf rfl h39b rfl<|s_mv rfl<|g_f rfl rfl<|g_f rfl rfl<|g_f rfl rfl<|g_f rfl rfl<|s_pf rfl rfl rfl<|s_as rfl<|e_nil<|e_tn<|e_ret<|e_fin1 rfl rfl<|?_
       exact ⟨(M.weaken (.cons _ (List.Sublist.refl _))),false,rfl,(by clear M;unfold AloneP;grind)⟩
     ·skip
      have h40b:=hc;clear hc
      have h40:¬ (x.key=([]:List UInt8)):=of_decide_eq_false h40b
      refine g_f rfl h40b<|g_f rfl h40b<|g_f rfl h40b<|s_pf rfl h40b rfl<|s_mv rfl<|g_f rfl rfl<|g_f rfl rfl<|g_f rfl rfl<|g_f rfl rfl<|s_pf rfl rfl rfl<|s_mv rfl<|g_f rfl rfl<|g_f rfl rfl<|g_f rfl rfl<|g_f rfl rfl<|s_pf rfl rfl rfl<|s_as rfl<|e_nil<|e_tn<|e_ret<|e_fin1 rfl rfl<|?_
      exact ⟨(M.weaken (.cons _ (List.Sublist.refl _))),false,rfl,(by clear M;unfold AloneP;grind)⟩
  ·intro hc
   have h41b:=hc;clear hc
   have h41:¬ (x.kind=5):=of_decide_eq_false h41b
   refine e_skip<|e_tn<|e_seq<|e_seq<|e_reg<|s_eq rfl rfl<|s_as rfl<|e_nil<|e_tn<|e_cond rfl ?_ ?_
   ·intro hc
    have h42b:=hc;clear hc
    have h42:x.kind=2:=of_decide_eq_true h42b
    refine e_exit<|e_te<|e_te<|e_be rfl<|e_te<|e_be rfl<|e_te<|e_bh<|e_tn<|e_seq<|e_seq<|e_seq<|e_reg<|s_mv rfl<|s_nc rfl<|s_fa tok79.k rfl rfl<|s_la tok9 M A 4 rfl rfl rfl rfl<|s_cS ent214 rfl rfl (tplain_spec (s:=x.text) M (by omega))<|?_;clear M;rintro _ w M ⟨b43,rfl,hb43⟩
    refine s_not rfl<|e_nil<|e_tn<|e_cond rfl ?_ ?_
    ·intro hc
     have h44b:=hc;clear hc
     have h44:(b43)=false:=(of_not_t h44b)
     have h44c:(b43)=false:=(of_not_t h44b)
     refine e_seq<|e_reg<|s_as rfl<|e_nil<|e_tn<|e_ret<|e_tr<|e_tr<|e_br<|e_tr<|e_br<|e_tr<|e_br<|e_tr<|e_fin1 rfl rfl<|?_
     exact ⟨(M.weaken (.cons _ (List.Sublist.refl _))),false,rfl,(by clear M;unfold AloneP;grind)⟩
    ·intro hc
     have h45b:=hc;clear hc
     have h45:(b43)=true:=(of_not_f h45b)
     have h45c:(b43)=true:=(of_not_f h45b)
     refine e_skip<|e_tn<|e_reg<|s_fa tok79.k rfl rfl<|s_st tok9 M 0 rfl rfl rfl rfl rfl rfl<|?_;clear M;intro w M
     refine e_nil<|e_tn<|e_exit<|e_be rfl<|e_te<|e_be rfl<|e_te<|e_bh<|e_tn<|e_seq<|e_reg<|s_fa tok79.k rfl rfl<|s_ld tok9 M 0 rfl rfl rfl rfl<|s_seq rfl rfl<|s_mv rfl<|?_
     rcases Bool.eq_false_or_eq_true (decide (x.tag=([]:List UInt8))) with hc | hc
     ·skip
      have h46b:=hc;clear hc
      have h46:x.tag=([]:List UInt8):=of_decide_eq_true h46b
      refine g_t rfl h46b<|s_fa tok79.k rfl rfl<|g_t rfl h46b<|s_ld tok9 M 0 rfl rfl rfl rfl<|g_t rfl h46b<|s_seq rfl rfl<|s_pt rfl h46b rfl<|s_mv rfl<|?_
      rcases Bool.eq_false_or_eq_true (decide (x.key=([]:List UInt8))) with hc | hc
      ·skip
       have h47b:=hc;clear hc
       have h47:x.key=([]:List UInt8):=of_decide_eq_true h47b
       refine g_t rfl h47b<|s_fa tok79.k rfl rfl<|g_t rfl h47b<|s_ld tok9 M 0 rfl rfl rfl rfl<|g_t rfl h47b<|s_seq rfl rfl<|s_pt rfl h47b rfl<|s_mv rfl<|g_t rfl (by decide)<|s_fa tok79.k rfl rfl<|g_t rfl (by decide)<|s_ld tok76 M 0 rfl rfl rfl rfl<|g_t rfl (by decide)<|s_ls tok76.k rfl<|g_t rfl (by decide)<|s_eq rfl rfl<|s_pt rfl (by decide) rfl<|s_mv rfl<|?_
       rcases Bool.eq_false_or_eq_true (decide (((x.as.length:Nat):Int)=0)) with hc | hc
       ·skip
        have h48b:=hc;clear hc
        have h48:((x.as.length:Nat):Int)=0:=of_decide_eq_true h48b
        refine g_t rfl h48b<|s_fa tok79.k rfl rfl<|g_t rfl h48b<|s_ld tok77 M 0 rfl rfl rfl rfl<|g_t rfl h48b<|s_ls tok77.k rfl<|g_t rfl h48b<|s_eq rfl rfl<|s_pt rfl h48b rfl<|s_as rfl<|e_nil<|e_tn<|e_ret<|e_fin1 rfl rfl<|?_
        exact ⟨(M.weaken (.cons _ (List.Sublist.refl _))),(decide (((x.kids.length:Nat):Int)=0)),rfl,(by clear M;unfold AloneP;grind)⟩
       ·skip
        have h49b:=hc;clear hc
        have h49:¬ (((x.as.length:Nat):Int)=0):=of_decide_eq_false h49b
        refine g_f rfl h49b<|g_f rfl h49b<|g_f rfl h49b<|g_f rfl h49b<|s_pf rfl h49b rfl<|s_as rfl<|e_nil<|e_tn<|e_ret<|e_fin1 rfl rfl<|?_
        exact ⟨(M.weaken (.cons _ (List.Sublist.refl _))),false,rfl,(by clear M;unfold AloneP;grind)⟩
      ·skip
       have h50b:=hc;clear hc
       have h50:¬ (x.key=([]:List UInt8)):=of_decide_eq_false h50b
       refine g_f rfl h50b<|g_f rfl h50b<|g_f rfl h50b<|s_pf rfl h50b rfl<|s_mv rfl<|g_f rfl rfl<|g_f rfl rfl<|g_f rfl rfl<|g_f rfl rfl<|s_pf rfl rfl rfl<|s_mv rfl<|g_f rfl rfl<|g_f rfl rfl<|g_f rfl rfl<|g_f rfl rfl<|s_pf rfl rfl rfl<|s_as rfl<|e_nil<|e_tn<|e_ret<|e_fin1 rfl rfl<|?_
       exact ⟨(M.weaken (.cons _ (List.Sublist.refl _))),false,rfl,(by clear M;unfold AloneP;grind)⟩
     ·skip
      have h51b:=hc;clear hc
      have h51:¬ (x.tag=([]:List UInt8)):=of_decide_eq_false h51b
      refine g_f rfl h51b<|g_f rfl h51b<|g_f rfl h51b<|s_pf rfl h51b rfl<|s_mv rfl<|g_f rfl rfl<|g_f rfl rfl<|g_f rfl rfl<|s_pf rfl rfl rfl<|s_mv rfl<|g_f rfl rfl<|g_f rfl rfl<|g_f rfl rfl<|g_f rfl rfl<|s_pf rfl rfl rfl<|s_mv rfl<|g_f rfl rfl<|g_f rfl rfl<|g_f rfl rfl<|g_f rfl rfl<|s_pf rfl rfl rfl<|s_as rfl<|e_nil<|e_tn<|?_
      refine e_ret<|e_fin1 rfl rfl<|?_
      exact ⟨(M.weaken (.cons _ (List.Sublist.refl _))),false,rfl,(by clear M;unfold AloneP;grind)⟩
   ·intro hc
    have h52b:=hc;clear hc
    have h52:¬ (x.kind=2):=of_decide_eq_false h52b
    refine e_skip<|e_tn<|e_seq<|e_seq<|e_reg<|s_eq rfl rfl<|s_as rfl<|e_nil<|e_tn<|e_cond rfl ?_ ?_
    ·intro hc
     have h53b:=hc;clear hc
     have h53:x.kind=3:=of_decide_eq_true h53b
     refine e_skip<|e_tn<|e_cond_t rfl h53b<|e_exit<|e_te<|e_be rfl<|e_te<|e_be rfl<|e_te<|e_be rfl<|e_te<|e_bh<|e_tn<|e_exit<|e_be rfl<|e_te<|e_bh<|e_tn<|e_seq<|e_reg<|s_fa tok79.k rfl rfl<|s_ld tok9 M 0 rfl rfl rfl rfl<|s_seq rfl rfl<|s_mv rfl<|?_
     rcases Bool.eq_false_or_eq_true (decide (x.tag=([]:List UInt8))) with hc | hc
     ·skip
      have h54b:=hc;clear hc
      have h54:x.tag=([]:List UInt8):=of_decide_eq_true h54b
      refine g_t rfl h54b<|s_fa tok79.k rfl rfl<|g_t rfl h54b<|s_ld tok9 M 0 rfl rfl rfl rfl<|g_t rfl h54b<|s_seq rfl rfl<|s_pt rfl h54b rfl<|s_mv rfl<|?_
      rcases Bool.eq_false_or_eq_true (decide (x.key=([]:List UInt8))) with hc | hc
      ·skip
       have h55b:=hc;clear hc
       have h55:x.key=([]:List UInt8):=of_decide_eq_true h55b
       refine g_t rfl h55b<|s_fa tok79.k rfl rfl<|g_t rfl h55b<|s_ld tok9 M 0 rfl rfl rfl rfl<|g_t rfl h55b<|s_seq rfl rfl<|s_pt rfl h55b rfl<|s_mv rfl<|?_
       rcases Bool.eq_false_or_eq_true (decide (x.text=([]:List UInt8))) with hc | hc
       ·skip
        have h56b:=hc;clear hc
        have h56:x.text=([]:List UInt8):=of_decide_eq_true h56b
        refine g_t rfl h56b<|s_fa tok79.k rfl rfl<|g_t rfl h56b<|s_ld tok76 M 0 rfl rfl rfl rfl<|g_t rfl h56b<|s_ls tok76.k rfl<|g_t rfl h56b<|s_eq rfl rfl<|s_pt rfl h56b rfl<|s_mv rfl<|?_
        rcases Bool.eq_false_or_eq_true (decide (((x.as.length:Nat):Int)=0)) with hc | hc
        ·skip
         have h57b:=hc;clear hc
         have h57:((x.as.length:Nat):Int)=0:=of_decide_eq_true h57b
         refine g_t rfl h57b<|s_fa tok79.k rfl rfl<|g_t rfl h57b<|s_ld tok77 M 0 rfl rfl rfl rfl<|g_t rfl h57b<|s_ls tok77.k rfl<|g_t rfl h57b<|s_eq rfl rfl<|s_pt rfl h57b rfl<|s_as rfl<|e_nil<|e_tn<|e_ret<|e_fin1 rfl rfl<|?_
         exact ⟨(M.weaken (.cons _ (List.Sublist.refl _))),(decide (((x.kids.length:Nat):Int)=0)),rfl,(by clear M;unfold AloneP;grind)⟩
        ·skip
         have h58b:=hc;clear hc
         have h58:¬ (((x.as.length:Nat):Int)=0):=of_decide_eq_false h58b
         refine g_f rfl h58b<|g_f rfl h58b<|g_f rfl h58b<|g_f rfl h58b<|s_pf rfl h58b rfl<|s_as rfl<|e_nil<|e_tn<|e_ret<|e_fin1 rfl rfl<|?_
         exact ⟨(M.weaken (.cons _ (List.Sublist.refl _))),false,rfl,(by clear M;unfold AloneP;grind)⟩
       ·skip
        have h59b:=hc;clear hc
        have h59:¬ (x.text=([]:List UInt8)):=of_decide_eq_false h59b
        refine g_f rfl h59b<|g_f rfl h59b<|g_f rfl h59b<|g_f rfl h59b<|s_pf rfl h59b rfl<|s_mv rfl<|g_f rfl rfl<|g_f rfl rfl<|g_f rfl rfl<|g_f rfl rfl<|s_pf rfl rfl rfl<|s_as rfl<|e_nil<|e_tn<|e_ret<|e_fin1 rfl rfl<|?_
        exact ⟨(M.weaken (.cons _ (List.Sublist.refl _))),false,rfl,(by clear M;unfold AloneP;grind)⟩
      ·skip
       have h60b:=hc;clear hc
       have h60:¬ (x.key=([]:List UInt8)):=of_decide_eq_false h60b
       refine g_f rfl h60b<|g_f rfl h60b<|g_f rfl h60b<|s_pf rfl h60b rfl<|s_mv rfl<|g_f rfl rfl<|g_f rfl rfl<|g_f rfl rfl<|g_f rfl rfl<|s_pf rfl rfl rfl<|s_mv rfl<|g_f rfl rfl<|g_f rfl rfl<|g_f rfl rfl<|g_f rfl rfl<|s_pf rfl rfl rfl<|s_as rfl<|e_nil<|e_tn<|e_ret<|e_fin1 rfl rfl<|?_
       exact ⟨(M.weaken (.cons _ (List.Sublist.refl _))),false,rfl,(by clear M;unfold AloneP;grind)⟩
     ·skip
      have h61b:=hc;clear hc
      have h61:¬ (x.tag=([]:List UInt8)):=of_decide_eq_false h61b
      refine g_f rfl h61b<|g_f rfl h61b<|g_f rfl h61b<|s_pf rfl h61b rfl<|s_mv rfl<|g_f rfl rfl<|g_f rfl rfl<|g_f rfl rfl<|s_pf rfl rfl rfl<|s_mv rfl<|g_f rfl rfl<|g_f rfl rfl<|g_f rfl rfl<|g_f rfl rfl<|s_pf rfl rfl rfl<|s_mv rfl<|g_f rfl rfl<|g_f rfl rfl<|g_f rfl rfl<|g_f rfl rfl<|s_pf rfl rfl rfl<|s_as rfl<|e_nil<|e_tn<|?_
      refine e_ret<|e_fin1 rfl rfl<|?_
      exact ⟨(M.weaken (.cons _ (List.Sublist.refl _))),false,rfl,(by clear M;unfold AloneP;grind)⟩
    ·intro hc
     have h62b:=hc;clear hc
     have h62:¬ (x.kind=3):=of_decide_eq_false h62b
     refine e_reg<|s_eq rfl rfl<|s_as rfl<|e_nil<|e_tn<|e_cond rfl ?_ ?_
     ·intro hc
      have h63b:=hc;clear hc
      have h63:x.kind=4:=of_decide_eq_true h63b
      refine e_exit<|e_te<|e_be rfl<|e_te<|e_be rfl<|e_te<|e_be rfl<|e_te<|e_bh<|e_tn<|e_exit<|e_be rfl<|e_te<|e_bh<|e_tn<|e_seq<|e_reg<|s_fa tok79.k rfl rfl<|s_ld tok9 M 0 rfl rfl rfl rfl<|s_seq rfl rfl<|s_mv rfl<|?_
      rcases Bool.eq_false_or_eq_true (decide (x.tag=([]:List UInt8))) with hc | hc
      ·skip
       have h64b:=hc;clear hc
       have h64:x.tag=([]:List UInt8):=of_decide_eq_true h64b
       refine g_t rfl h64b<|s_fa tok79.k rfl rfl<|g_t rfl h64b<|s_ld tok9 M 0 rfl rfl rfl rfl<|g_t rfl h64b<|s_seq rfl rfl<|s_pt rfl h64b rfl<|s_mv rfl<|?_
       rcases Bool.eq_false_or_eq_true (decide (x.key=([]:List UInt8))) with hc | hc
       ·skip
        have h65b:=hc;clear hc
        have h65:x.key=([]:List UInt8):=of_decide_eq_true h65b
        refine g_t rfl h65b<|s_fa tok79.k rfl rfl<|g_t rfl h65b<|s_ld tok9 M 0 rfl rfl rfl rfl<|g_t rfl h65b<|s_seq rfl rfl<|s_pt rfl h65b rfl<|s_mv rfl<|?_
        rcases Bool.eq_false_or_eq_true (decide (x.text=([]:List UInt8))) with hc | hc
        ·skip
         have h66b:=hc;clear hc
         have h66:x.text=([]:List UInt8):=of_decide_eq_true h66b
         refine g_t rfl h66b<|s_fa tok79.k rfl rfl<|g_t rfl h66b<|s_ld tok76 M 0 rfl rfl rfl rfl<|g_t rfl h66b<|s_ls tok76.k rfl<|g_t rfl h66b<|s_eq rfl rfl<|s_pt rfl h66b rfl<|s_mv rfl<|?_
         rcases Bool.eq_false_or_eq_true (decide (((x.as.length:Nat):Int)=0)) with hc | hc
         ·skip
          have h67b:=hc;clear hc
          have h67:((x.as.length:Nat):Int)=0:=of_decide_eq_true h67b
          refine g_t rfl h67b<|s_fa tok79.k rfl rfl<|g_t rfl h67b<|s_ld tok77 M 0 rfl rfl rfl rfl<|g_t rfl h67b<|s_ls tok77.k rfl<|g_t rfl h67b<|s_eq rfl rfl<|s_pt rfl h67b rfl<|s_as rfl<|e_nil<|e_tn<|e_ret<|e_fin1 rfl rfl<|?_
          exact ⟨(M.weaken (.cons _ (List.Sublist.refl _))),(decide (((x.kids.length:Nat):Int)=0)),rfl,(by clear M;unfold AloneP;grind)⟩
         ·skip
          have h68b:=hc;clear hc
          have h68:¬ (((x.as.length:Nat):Int)=0):=of_decide_eq_false h68b
          refine g_f rfl h68b<|g_f rfl h68b<|g_f rfl h68b<|g_f rfl h68b<|s_pf rfl h68b rfl<|s_as rfl<|e_nil<|e_tn<|e_ret<|e_fin1 rfl rfl<|?_
          exact ⟨(M.weaken (.cons _ (List.Sublist.refl _))),false,rfl,(by clear M;unfold AloneP;grind)⟩
        ·skip
         have h69b:=hc;clear hc
         have h69:¬ (x.text=([]:List UInt8)):=of_decide_eq_false h69b
         refine g_f rfl h69b<|g_f rfl h69b<|g_f rfl h69b<|g_f rfl h69b<|s_pf rfl h69b rfl<|s_mv rfl<|g_f rfl rfl<|g_f rfl rfl<|g_f rfl rfl<|g_f rfl rfl<|s_pf rfl rfl rfl<|s_as rfl<|e_nil<|e_tn<|e_ret<|e_fin1 rfl rfl<|?_
         exact ⟨(M.weaken (.cons _ (List.Sublist.refl _))),false,rfl,(by clear M;unfold AloneP;grind)⟩
       ·skip
        have h70b:=hc;clear hc
        have h70:¬ (x.key=([]:List UInt8)):=of_decide_eq_false h70b
        refine g_f rfl h70b<|g_f rfl h70b<|g_f rfl h70b<|s_pf rfl h70b rfl<|s_mv rfl<|g_f rfl rfl<|g_f rfl rfl<|g_f rfl rfl<|g_f rfl rfl<|s_pf rfl rfl rfl<|s_mv rfl<|g_f rfl rfl<|g_f rfl rfl<|g_f rfl rfl<|g_f rfl rfl<|s_pf rfl rfl rfl<|s_as rfl<|e_nil<|e_tn<|e_ret<|e_fin1 rfl rfl<|?_
        exact ⟨(M.weaken (.cons _ (List.Sublist.refl _))),false,rfl,(by clear M;unfold AloneP;grind)⟩
      ·skip
       have h71b:=hc;clear hc
       have h71:¬ (x.tag=([]:List UInt8)):=of_decide_eq_false h71b
       refine g_f rfl h71b<|g_f rfl h71b<|g_f rfl h71b<|s_pf rfl h71b rfl<|s_mv rfl<|g_f rfl rfl<|g_f rfl rfl<|g_f rfl rfl<|s_pf rfl rfl rfl<|s_mv rfl<|g_f rfl rfl<|g_f rfl rfl<|g_f rfl rfl<|g_f rfl rfl<|s_pf rfl rfl rfl<|s_mv rfl<|g_f rfl rfl<|g_f rfl rfl<|g_f rfl rfl<|g_f rfl rfl<|s_pf rfl rfl rfl<|s_as rfl<|e_nil<|e_tn<|?_
       refine e_ret<|e_fin1 rfl rfl<|?_
       exact ⟨(M.weaken (.cons _ (List.Sublist.refl _))),false,rfl,(by clear M;unfold AloneP;grind)⟩
     ·intro hc
      have h72b:=hc;clear hc
      have h72:¬ (x.kind=4):=of_decide_eq_false h72b
      refine e_skip<|e_tn<|e_exit<|e_be rfl<|e_te<|e_be rfl<|e_te<|e_be rfl<|e_te<|e_be rfl<|e_te<|e_bh<|e_tn<|e_seq<|e_seq<|e_reg<|s_as rfl<|e_nil<|e_tn<|e_ret<|e_tr<|e_br<|e_tr<|e_fin1 rfl rfl<|?_
      exact ⟨(M.weaken (.cons _ (List.Sublist.refl _))),false,rfl,(by clear M;unfold AloneP;grind)⟩
open Go Go.Y Go.Proofs
set_option linter.unusedSimpArgs false
set_option linter.unusedVariables false
/-- What the function that is called for each part does: it takes a state further. -/
structure FEff (w0:World) (ff:FuncId) (caps:List Value) {σ:Type} (Rs:σ→List Res) (stp:σ→PT→σ):Prop where
 ent:Ent Tryz.prog ff
 run:∀ {w:World} {G:Ghost} {L:List Res} {nb no:Nat} {s:σ} {x:PT} {ta ka:Option Addr} {tc kc:Nat},Mem w0 G (Rs s++L) w→inKind .u8 x.kind→(x.tag.length≤9223372036854775807∧x.key.length≤9223372036854775807∧x.text.length≤9223372036854775807)→RdSl rdSlot 3 G (.slice ta x.as.length tc) x.as→RdSl rdP 6 G (.slice ka x.kids.length kc) x.kids→At G nb no [.int .u8 (x.kind),.string (str (x.tag)),.string (str (x.key)),.slice (ta) (x.as.length) (tc),.string (str (x.text)),.slice (ka) (x.kids.length) (kc)]→AloneP x →
  Calls Tryz.prog ff (.pointer (some ⟨nb,no,none⟩)::caps).toArray w (RetL w0 G fun L' v=>v=.tuple #[]∧L' = Rs (stp s x)++L)
def WalkP (w0:World) (ff:FuncId) (caps:List Value) {σ:Type} (Rs:σ→List Res) (stp:σ→PT→σ) (x:PT):Prop:=∀ (w:World) (G:Ghost) (L:List Res) (cb fb eb nb no c lev:Nat) (s:σ) (ta ka:Option Addr) (tc kc:Nat),Mem w0 G (.blk cb [.int .i64 ((c:Nat):Int)] 3::.blk fb [.func (.func ff) #[] caps.toArray] 286::.blk eb [.func (.func 227) #[] #[.pointer (some ⟨cb,0,none⟩),.pointer (some ⟨fb,0,none⟩),.pointer (some ⟨eb,0,none⟩)]] 297::(Rs s++L)) w →
  inKind .u8 x.kind→(x.tag.length≤9223372036854775807∧x.key.length≤9223372036854775807∧x.text.length≤9223372036854775807)→RdSl rdSlot 3 G (.slice ta x.as.length tc) x.as→RdSl rdP 6 G (.slice ka x.kids.length kc) x.kids→At G nb no [.int .u8 (x.kind),.string (str (x.tag)),.string (str (x.key)),.slice (ta) (x.as.length) (tc),.string (str (x.text)),.slice (ka) (x.kids.length) (kc)]→c≤64→1≤lev→lev≤7→Calls Tryz.prog 227 #[.pointer (some ⟨nb,no,none⟩),.int .i64 (lev:Int),.pointer (some ⟨cb,0,none⟩),.pointer (some ⟨fb,0,none⟩),.pointer (some ⟨eb,0,none⟩)] w (RetL w0 G fun L' v=>∃ (bb:Bool) (c':Nat) (s':σ),v=.bool bb∧L' = (.blk cb [.int .i64 ((c':Nat):Int)] 3::.blk fb [.func (.func ff) #[] caps.toArray] 286::.blk eb [.func (.func 227) #[] #[.pointer (some ⟨cb,0,none⟩),.pointer (some ⟨fb,0,none⟩),.pointer (some ⟨eb,0,none⟩)]] 297::(Rs s'++L))∧(bb=true↔Tr.Ok AloneP (7 - lev) x∧c+x.size≤64)∧(bb=true→c' = c+x.size∧s' = visit stp s x))
theorem tw_step {w0:World} {ff:FuncId} {caps:List Value} {σ:Type} {Rs:σ→List Res} {stp:σ→PT→σ} (hF:FEff w0 ff caps Rs stp) {x:PT} (ih:∀ y∈x.kids,WalkP w0 ff caps Rs stp y) {w:World} {G:Ghost} {L:List Res} {cb fb eb nb no c lev:Nat} {s:σ} {ta ka:Option Addr} {tc kc:Nat} (M:Mem w0 G (.blk cb [.int .i64 ((c:Nat):Int)] 3::.blk fb [.func (.func ff) #[] caps.toArray] 286::.blk eb [.func (.func 227) #[] #[.pointer (some ⟨cb,0,none⟩),.pointer (some ⟨fb,0,none⟩),.pointer (some ⟨eb,0,none⟩)]] 297::(Rs s++L)) w) (hk:inKind .u8 x.kind) (hl:(x.tag.length≤9223372036854775807∧x.key.length≤9223372036854775807∧x.text.length≤9223372036854775807))
  (SA:RdSl rdSlot 3 G (.slice ta x.as.length tc) x.as) (SK:RdSl rdP 6 G (.slice ka x.kids.length kc) x.kids) (A:At G nb no [.int .u8 (x.kind),.string (str (x.tag)),.string (str (x.key)),.slice (ta) (x.as.length) (tc),.string (str (x.text)),.slice (ka) (x.kids.length) (kc)]) (hc:c≤64) (hl1:1≤lev) (hl2:lev≤7) :
  Calls Tryz.prog 227 #[.pointer (some ⟨nb,no,none⟩),.int .i64 (lev:Int),.pointer (some ⟨cb,0,none⟩),.pointer (some ⟨fb,0,none⟩),.pointer (some ⟨eb,0,none⟩)] w (RetL w0 G fun L' v=>∃ (bb:Bool) (c':Nat) (s':σ),v=.bool bb∧L' = (.blk cb [.int .i64 ((c':Nat):Int)] 3::.blk fb [.func (.func ff) #[] caps.toArray] 286::.blk eb [.func (.func 227) #[] #[.pointer (some ⟨cb,0,none⟩),.pointer (some ⟨fb,0,none⟩),.pointer (some ⟨eb,0,none⟩)]] 297::(Rs s'++L))∧(bb=true↔Tr.Ok AloneP (7 - lev) x∧c+x.size≤64)∧(bb=true→c' = c+x.size∧s' = visit stp s x)):=by
 refine e_start (vs:=[_,_,_,_,_]) Tryz.func227 rfl (n:=45) rfl rfl<|e_seq<|e_reg<|s_as rfl<|e_nil<|e_tn<|e_seq<|e_reg<|s_ld tok3 M 0 rfl rfl rfl rfl<|s_add rfl rfl<|s_st tok3 M 0 rfl rfl rfl rfl rfl rfl<|?_;clear M;intro w M
 refine e_nil<|e_tn<|e_seq<|e_seq<|e_reg<|s_mv rfl<|s_gt rfl rfl<|s_mv rfl<|?_
 rcases Bool.eq_false_or_eq_true (decide (6 < (lev:Int))) with hc | hc
 ·skip
  have h1b:=hc;clear hc
  have h1:6 < (lev:Int):=of_decide_eq_true h1b
  refine g_f rfl h1b<|g_f rfl h1b<|s_pt rfl h1b rfl<|s_mv rfl<|g_f rfl rfl<|g_f rfl rfl<|g_f rfl rfl<|s_pt rfl rfl rfl<|e_nil<|e_tn<|e_cond_t rfl rfl<|e_seq<|e_reg<|s_as rfl<|e_nil<|e_tn<|e_ret<|e_tr<|e_fin1 rfl rfl<|?_
  replace M:=M.perm (perm_front _ 2 _ rfl)
  replace M:=M.perm (perm_front _ 2 _ rfl)
  replace M:=M.perm (perm_front _ 2 _ rfl)
  change Mem w0 G (.blk cb [.int .i64 ((((c:Nat):Int))+1)] 3::_::_::(Rs s++L)) _ at M
  exact ⟨_,M,false,_,_,rfl,rfl,⟨fun h_=>(by cases h_),fun h_=>absurd h_ (meas_no0 (by clear M;grind))⟩,fun h_=>(by cases h_)⟩
 ·skip
  have h2b:=hc;clear hc
  have h2:¬ (6 < (lev:Int)):=of_decide_eq_false h2b
  refine g_t rfl h2b<|s_ld tok3 M 0 rfl rfl rfl rfl<|g_t rfl h2b<|s_gt rfl rfl<|s_pf rfl h2b rfl<|s_mv rfl<|?_
  rcases Bool.eq_false_or_eq_true (decide (64 < (((c:Nat):Int))+1)) with hc | hc
  ·skip
   have h3b:=hc;clear hc
   have h3:64 < (((c:Nat):Int))+1:=of_decide_eq_true h3b
   refine g_f rfl h3b<|g_f rfl h3b<|g_f rfl h3b<|s_pt rfl h3b rfl<|e_nil<|e_tn<|e_cond_t rfl rfl<|e_seq<|e_reg<|s_as rfl<|e_nil<|e_tn<|e_ret<|e_tr<|e_fin1 rfl rfl<|?_
   replace M:=M.perm (perm_front _ 2 _ rfl)
   replace M:=M.perm (perm_front _ 2 _ rfl)
   replace M:=M.perm (perm_front _ 2 _ rfl)
   change Mem w0 G (.blk cb [.int .i64 ((((c:Nat):Int))+1)] 3::_::_::(Rs s++L)) _ at M
   exact ⟨_,M,false,_,_,rfl,rfl,⟨fun h_=>(by cases h_),fun h_=>absurd h_ (meas_no0 (by clear M;grind))⟩,fun h_=>(by cases h_)⟩
  ·skip
   have h4b:=hc;clear hc
   have h4:¬ (64 < (((c:Nat):Int))+1):=of_decide_eq_false h4b
   refine g_t rfl h4b<|s_mv rfl<|g_t rfl h4b<|s_cS ent228 rfl rfl (talone_spec (x:=x) M hk hl SA SK A)<|?_;clear M;rintro _ w M ⟨b5,rfl,hb5⟩
   refine g_t rfl h4b<|s_not rfl<|s_pf rfl h4b rfl<|e_nil<|e_tn<|e_cond rfl ?_ ?_
   ·intro hc
    have h6b:=hc;clear hc
    have h6:(b5)=false:=(of_not_t h6b)
    have h6c:(b5)=false:=(of_not_t h6b)
    refine e_seq<|e_reg<|s_as rfl<|e_nil<|e_tn<|e_ret<|e_tr<|e_fin1 rfl rfl<|?_
    replace M:=M.perm (perm_front _ 2 _ rfl)
    replace M:=M.perm (perm_front _ 2 _ rfl)
    replace M:=M.perm (perm_front _ 2 _ rfl)
    change Mem w0 G (.blk cb [.int .i64 ((((c:Nat):Int))+1)] 3::_::_::(Rs s++L)) _ at M
    exact ⟨_,M,false,_,_,rfl,rfl,⟨fun h_=>(by cases h_),fun h_=>absurd h_ (meas_no0 (by clear M;grind))⟩,fun h_=>(by cases h_)⟩
   ·intro hc
    have h7b:=hc;clear hc
    have h7:(b5)=true:=(of_not_f h7b)
    have h7c:(b5)=true:=(of_not_f h7b)
    refine e_skip<|e_tn<|e_seq<|?_
    have hAl:AloneP x:=by clear M;grind
    have hl6:lev≤6:=by omega
    have hkl:=aloneP_len hAl
    refine e_reg<|s_ld tok286 M 1 rfl rfl rfl rfl<|s_mv rfl<|?_
    replace M:=M.perm (perm_front _ 2 _ rfl)
    replace M:=M.perm (perm_front _ 2 _ rfl)
    replace M:=M.perm (perm_front _ 2 _ rfl)
    change Mem w0 G (.blk cb [.int .i64 ((((c:Nat):Int))+1)] 3::_::_::(Rs s++L)) _ at M
    replace M:=M.perm (perm_mid3 _ _)
    intro a F
    refine rl_callvL F hF.ent (caps:=caps) rfl rfl rfl (hF.run (s:=s) (x:=x) M hk hl SA SK A hAl) ?_;clear F M a;rintro _ _ w a M ⟨rfl,rfl⟩ F
    replace M:=M.perm (perm_mid3 _ _).symm
    revert a
    refine e_nil<|e_tn<|e_seq<|e_seq<|e_reg<|s_mv rfl<|s_nc rfl<|s_fa tok79.k rfl rfl<|s_la tok77 M A 5 rfl rfl rfl rfl<|s_ls tok77.k rfl<|s_mv rfl<|e_nil<|e_tn<|e_block<|fun a F=>w_loopN (fun m a' w'=>∃ (i:Nat),∃ (ci:Nat),∃ (si:σ),m=x.kids.length - i∧Fits 45 a' [(0,.pointer (some ⟨nb,no,none⟩)),(1,.int .i64 ((lev:Int))),(2,.pointer (some ⟨cb,0,none⟩)),(3,.pointer (some ⟨fb,0,none⟩)),(4,.pointer (some ⟨eb,0,none⟩)),(28,.slice (ka) (x.kids.length) (kc)),(29,.int .i64 (((x.kids.length:Nat):Int))),(30,.int .i64 (((i:Nat):Int)))]∧Mem w0 G (.blk cb [.int .i64 (((ci:Nat):Int))] 3::.blk fb [.func (.func ff) #[] caps.toArray] 286::.blk eb [.func (.func 227) #[] #[.pointer (some ⟨cb,0,none⟩),.pointer (some ⟨fb,0,none⟩),.pointer (some ⟨eb,0,none⟩)]] 297::(Rs si++L)) w'∧(i≤x.kids.length)∧(ci=c+1+Tr.sizes (x.kids.take i)∧ci≤64)∧(si=visits stp (stp s x) (x.kids.take i))∧(∀ (m:Nat) (y:PT),m < i→x.kids[m]?=some y→Tr.Ok AloneP (7 - (lev+1)) y)) _ ⟨0,c+1,(stp s x),rfl,F.to ⟨rfl,rfl,rfl,rfl,rfl,rfl,rfl,rfl,trivial⟩,M,Nat.zero_le _,⟨by simp [Tr.sizes],by omega⟩,by simp [visits],fun m y h=>by omega⟩ ?_
    clear F M
    rintro m a w ⟨i,ci,si,rfl,F,M,hi,hci,hsi,hO⟩
    revert a
    refine e_seq<|e_reg<|s_lt rfl rfl<|e_nil<|e_tn<|e_seq<|e_cond rfl ?_ ?_
    ·intro hc
     have h8b:=hc;clear hc
     have h8:((i:Nat):Int) < ((x.kids.length:Nat):Int):=of_decide_eq_true h8b
     refine e_skip<|e_tn<|e_seq<|e_block<|e_seq<|e_reg<|s_mv rfl<|s_as rfl<|e_nil<|e_tn<|e_seq<|fun a F=>w_plan2 [(.pure,0),(.free,1),(.free,2),(.free,3),(.pure,4),(.free,5),(.free,6),(.free,7),(.free,8),(.keep,9),(.free,10)] [] (Keep G [.blk eb [.func (.func 227) #[] #[.pointer (some ⟨cb,0,none⟩),.pointer (some ⟨fb,0,none⟩),.pointer (some ⟨eb,0,none⟩)]] 297]) rfl (by kernel_rfl) (fun c a d v w h=>by cases d <;> exact h) ((M.drew _).keep (Gle.refl _) (by simp)) ?_
     replace M:=M.drew (w.drawn+1)
     revert a
     refine k_p (fun a F w M=>run_load1 (agf tok297 rfl) (F.ev rfl) (M.cellL (k:=0) rfl rfl)) rfl<|k_f (fun a F w _=>x_mv F rfl) rfl<|k_f (fun a F w _=>run_nilCheck (F.ev rfl)) rfl<|k_f (fun a F w _=>x_fa tok79.k rfl F rfl) rfl<|k_p (fun a F w M=>run_load1 (agf tok77 rfl) (F.ev rfl) (M.cellA A 5 rfl rfl)) rfl<|k_f (fun a F w _=>x_mv F rfl) rfl<|?_
     obtain ⟨Xe9,hXe9⟩:=get_of_lt (xs:=x.kids) (i:=i) (by omega)
     obtain ⟨be9,oe9,_,Ie9,_,Ae9,hTe9⟩:=SK.at hXe9
     obtain ⟨tae9,tce9,kae9,kce9,rfl,hke9,hle9,SAe9,SKe9⟩:=rdT_open hTe9
     refine k_f (fun a F w _=>run_indexI tok77.k tok79 (F.ev rfl) (F.ev rfl) (by omega) Ie9) rfl<|k_f (fun a F w _=>x_mv F rfl) rfl<|k_f (fun a F w _=>run_addi (F.ev rfl) (F.ev rfl) (in_i64 (by omega) (by omega))) rfl<|k_k rfl<|?_
     replace M:=M.perm (perm_front _ 2 _ rfl)
     replace M:=M.perm (perm_front _ 2 _ rfl)
     replace M:=M.perm (perm_front _ 2 _ rfl)
     change Mem w0 G (_::_::_::(Rs si++L)) _ at M
     refine s_vL ent227 (caps:=[.pointer (some ⟨cb,0,none⟩),.pointer (some ⟨fb,0,none⟩),.pointer (some ⟨eb,0,none⟩)]) rfl rfl rfl (ih Xe9 (List.mem_of_getElem? hXe9) _ _ L _ _ _ _ _ ci (lev+1) si _ _ _ _ M hke9 hle9 SAe9 SKe9 Ae9 (by omega) (by omega) (by omega))<|?_;clear M;rintro _ _ w M ⟨b10,cb10,sb10,rfl,rfl,hb10,eb10⟩
     refine e_nil<|eK (C':=Keep G [.blk eb [.func (.func 227) #[] #[.pointer (some ⟨cb,0,none⟩),.pointer (some ⟨fb,0,none⟩),.pointer (some ⟨eb,0,none⟩)]] 297]) (M.keep (Gle.refl _) (by simp)) (fun w h=>h.mono (Gle.refl _) (by simp))<|k_f (fun a F w _=>run_not (F.ev rfl)) rfl<|k_nil<|e_tn<|e_cond rfl ?_ ?_
     ·intro hc
      have h11b:=hc;clear hc
      have h11:(b10)=false:=(of_not_t h11b)
      have h11c:(b10)=false:=(of_not_t h11b)
      refine e_seq<|e_reg<|s_as rfl<|e_nil<|e_tn<|e_ret<|e_br<|e_tr<|e_tr<|e_br<|e_tr<|e_fin1 rfl rfl<|?_
      replace M:=M.perm (perm_front _ 2 _ rfl)
      replace M:=M.perm (perm_front _ 2 _ rfl)
      replace M:=M.perm (perm_front _ 2 _ rfl)
      change Mem w0 G (_::_::_::(Rs sb10++L)) _ at M
      exact ⟨_,M,false,_,_,rfl,rfl,⟨fun h_=>(by cases h_),fun h_=>absurd h_ (meas_no_kid hXe9 hl6 (by rw [← hci.1];exact fun h_=>by have h9:=hb10.2 h_;simp_all))⟩,fun h_=>(by cases h_)⟩
     ·intro hc
      have h12b:=hc;clear hc
      have h12:(b10)=true:=(of_not_f h12b)
      have h12c:(b10)=true:=(of_not_f h12b)
      refine e_skip<|e_bn<|e_tn<|e_reg<|s_add rfl rfl<|s_mv rfl<|e_nil<|e_tn<|?_
      have hq:=hb10.1 (by assumption)
      obtain ⟨hc2,hd2⟩:=eb10 (by assumption)
      have hs2:=Tr.sizes_snoc hXe9
      intro a F
      exact ⟨_,by omega,i+1,cb10,sb10,rfl,F.to ⟨rfl,rfl,rfl,rfl,rfl,rfl,rfl,rfl,trivial⟩,M,by omega,by omega,by rw [visits_snoc stp hXe9,← hsi];exact hd2,ok_step hO hXe9 hq.1⟩
    ·intro hc
     have h13b:=hc;clear hc
     have h13:¬ (((i:Nat):Int) < ((x.kids.length:Nat):Int)):=of_decide_eq_false h13b
     refine e_exit<|e_te<|e_te<|e_bh<|e_tn<|e_seq<|e_reg<|s_as rfl<|e_nil<|e_tn<|e_ret<|e_fin1 rfl rfl<|?_
     replace M:=M.perm (perm_front _ 2 _ rfl)
     replace M:=M.perm (perm_front _ 2 _ rfl)
     replace M:=M.perm (perm_front _ 2 _ rfl)
     change Mem w0 G (_::_::_::(Rs si++L)) _ at M
     have hf:=sizes_full (x:=x) (i:=i) (by omega)
     rw [List.take_of_length_le (by omega)] at hsi
     exact ⟨_,M,true,_,_,rfl,rfl,⟨fun _=>⟨meas_yes hl6 hAl (by omega) hO,by omega⟩,fun _=>rfl⟩,fun _=>⟨by omega,by rw [visit_eq];exact hsi⟩⟩
theorem tw_all {w0:World} {ff:FuncId} {caps:List Value} {σ:Type} {Rs:σ→List Res} {stp:σ→PT→σ} (hF:FEff w0 ff caps Rs stp) (x:PT):WalkP w0 ff caps Rs stp x:=by
 induction x using Tr.ind with
 | _ x ih=>intro w G L cb fb eb nb no c lev s ta ka tc kc M hk hl SA SK A hc hl1 hl2;exact tw_step hF ih M hk hl SA SK A hc hl1 hl2
theorem twalk_spec {w0:World} {ff:FuncId} {caps:List Value} {σ:Type} {Rs:σ→List Res} {stp:σ→PT→σ} (hF:FEff w0 ff caps Rs stp) {x:PT} {w:World} {G:Ghost} {L:List Res} {nb no:Nat} {s:σ} {ta ka:Option Addr} {tc kc:Nat} (M:Mem w0 G (Rs s++L) w) (hk:inKind .u8 x.kind) (hl:(x.tag.length≤9223372036854775807∧x.key.length≤9223372036854775807∧x.text.length≤9223372036854775807))
  (SA:RdSl rdSlot 3 G (.slice ta x.as.length tc) x.as) (SK:RdSl rdP 6 G (.slice ka x.kids.length kc) x.kids) (A:At G nb no [.int .u8 (x.kind),.string (str (x.tag)),.string (str (x.key)),.slice (ta) (x.as.length) (tc),.string (str (x.text)),.slice (ka) (x.kids.length) (kc)]) :
  Calls Tryz.prog 212 #[.pointer (some ⟨nb,no,none⟩),.func (.func ff) #[] caps.toArray] w (RetL w0 G fun L' v=>∃ (k:Nat) (s':σ),v=.int .i64 (k:Int)∧L' = (Rs s'++L)∧k=cntP x∧(ValidP x→s' = visit stp s x)):=by
 refine e_start (vs:=[_,_]) Tryz.func212 rfl (n:=18) rfl rfl<|e_seq<|e_reg<|s_bx M rfl rfl rfl<|?_;clear M;intro b1 w M
 refine s_as rfl<|e_nil<|e_tn<|e_seq<|e_seq<|e_reg<|s_mv rfl<|s_nc rfl<|s_fa tok79.k rfl rfl<|s_la tok5 M A 0 rfl rfl rfl rfl<|s_ne rfl rfl<|e_nil<|e_tn<|e_cond rfl ?_ ?_
 ·intro hc
  have h2b:=hc;clear hc
  have h2:¬ (x.kind=1):=of_decide_eq_false (of_not_t h2b)
  have h2c:(decide (x.kind=1))=false:=(of_not_t h2b)
  refine e_seq<|e_reg<|s_as rfl<|e_nil<|e_tn<|e_ret<|e_tr<|e_fin1 rfl rfl<|?_
  have hV:¬ ValidP x:=fun h_=>by have:=h_.1;omega
  exact ⟨_,M.weaken (.cons _ (List.Sublist.refl _)),0,s,rfl,rfl,(cntP_no hV).symm,fun h_=>absurd h_ hV⟩
 ·intro hc
  have h3b:=hc;clear hc
  have h3:x.kind=1:=of_decide_eq_true (of_not_f h3b)
  have h3c:(decide (x.kind=1))=true:=(of_not_f h3b)
  refine e_skip<|e_tn<|e_seq<|e_reg<|s_al M tok3 rfl rfl<|?_;clear M;intro b4 w M
  refine s_st tok3 M 0 rfl rfl rfl rfl rfl rfl<|?_;clear M;intro w M
  refine e_nil<|e_tn<|e_seq<|e_reg<|s_al M tok297 rfl rfl<|?_;clear M;intro b6 w M
  refine e_nil<|e_tn<|e_seq<|e_reg<|e_run (fun a F=>run_makeFunc (vs:=#[.pointer (some ⟨b4,0,none⟩),.pointer (some ⟨b1,0,none⟩),.pointer (some ⟨b6,0,none⟩)]) (by simp only [List.map_toArray,List.map_cons,List.map_nil,F.ev (x:=.tmp 5) rfl,F.ev (x:=.tmp 3) rfl,F.ev (x:=.tmp 6) rfl])) rfl<|s_st tok297 M 0 rfl rfl rfl rfl rfl rfl<|?_;clear M;intro w M
  refine e_nil<|e_tn<|e_seq<|e_seq<|e_reg<|s_ld tok297 M 0 rfl rfl rfl rfl<|s_mv rfl<|?_
  replace M:=M.perm (perm_front _ 2 _ rfl)
  replace M:=M.perm (perm_front _ 2 _ rfl)
  change Mem w0 G (.blk b4 [.int .i64 0] 3::_::.blk b6 [.func (.func 227) #[] #[.pointer (some ⟨b4,0,none⟩),.pointer (some ⟨b1,0,none⟩),.pointer (some ⟨b6,0,none⟩)]] 297::(Rs s++L)) _ at M
  refine s_vL ent227 (caps:=[.pointer (some ⟨b4,0,none⟩),.pointer (some ⟨b1,0,none⟩),.pointer (some ⟨b6,0,none⟩)]) rfl rfl rfl (tw_all hF x _ _ L _ _ _ _ _ 0 1 s _ _ _ _ M hk hl SA SK A (by omega) (by omega) (by omega))<|?_;clear M;rintro _ _ w M ⟨b8,cb8,sb8,rfl,rfl,hb8,eb8⟩
  refine s_not rfl<|e_nil<|e_tn<|e_cond rfl ?_ ?_
  ·intro hc
   have h9b:=hc;clear hc
   have h9:(b8)=false:=(of_not_t h9b)
   have h9c:(b8)=false:=(of_not_t h9b)
   refine e_seq<|e_reg<|s_as rfl<|e_nil<|e_tn<|e_ret<|e_tr<|e_fin1 rfl rfl<|?_
   have hV:¬ ValidP x:=fun h_=>by have h9:=hb8.2 ⟨h_.2.1,by have:=h_.2.2;omega⟩;simp_all
   exact ⟨_,M.weaken (.cons _ (.cons _ (.cons _ (List.Sublist.refl _)))),0,_,rfl,rfl,(cntP_no hV).symm,fun h_=>absurd h_ hV⟩
  ·intro hc
   have h10b:=hc;clear hc
   have h10:(b8)=true:=(of_not_f h10b)
   have h10c:(b8)=true:=(of_not_f h10b)
   refine e_skip<|e_tn<|e_seq<|e_reg<|s_ld tok3 M 0 rfl rfl rfl rfl<|s_as rfl<|e_nil<|e_tn<|e_ret<|e_fin1 rfl rfl<|?_
   have hq:=hb8.1 (by assumption)
   have hV:ValidP x:=⟨by omega,hq.1,by omega⟩
   obtain ⟨hc2,hd2⟩:=eb8 (by assumption)
   exact ⟨_,M.weaken (.cons _ (.cons _ (.cons _ (List.Sublist.refl _)))),_,_,rfl,rfl,by rw [cntP_yes hV];omega,fun _=>hd2⟩
theorem tcnt1_spec {w0 w:World} {G:Ghost} {L:List Res} (M:Mem w0 G L w) {v:Value}:Calls Tryz.prog 213 #[v] w (RetL w0 G fun L' v=>v=.tuple #[]∧L' = L):=by
 refine e_start (vs:=[_]) Tryz.func213 rfl (n:=2) rfl rfl<|e_skip<|fun a F=>fin0n F rfl ?_
 exact ⟨_,M,rfl,rfl⟩
theorem feff_count {w0:World}:FEff w0 213 [] (fun _:Unit=>[]) (fun _ _=>()):=⟨ent213,fun M _ _ _ _ _ _=>tcnt1_spec M⟩
theorem tcount_ret {w0 w:World} {G:Ghost} {L:List Res} (M:Mem w0 G L w) {x:PT} {ta:Option Addr} {tc:Nat} {ka:Option Addr} {kc:Nat} (hk:inKind .u8 x.kind) (hl:(x.tag.length≤9223372036854775807∧x.key.length≤9223372036854775807∧x.text.length≤9223372036854775807)) (SA:RdSl rdSlot 3 G (.slice ta x.as.length tc) x.as) (SK:RdSl rdP 6 G (.slice ka x.kids.length kc) x.kids):Calls Tryz.prog 189 #[.agg #[.int .u8 (x.kind),.string (str (x.tag)),.string (str (x.key)),.slice (ta) (x.as.length) (tc),.string (str (x.text)),.slice (ka) (x.kids.length) (kc)]] w (Ret w0 G L fun _ v=>v=.int .i64 (((cntP x:Nat):Int))):=by
 refine e_start (vs:=[_]) Tryz.func189 rfl (n:=4) rfl rfl<|e_seq<|e_reg<|s_bx M rfl rfl rfl<|?_;clear M;intro b1 w M
 refine s_as rfl<|e_nil<|e_tn<|e_seq<|?_
 obtain ⟨Gq2,hGq2,hbq2,M⟩:=M.freeze (k:=0) rfl
 have Aq2:At Gq2 b1 0 [.int .u8 (x.kind),.string (str (x.tag)),.string (str (x.key)),.slice (ta) (x.as.length) (tc),.string (str (x.text)),.slice (ka) (x.kids.length) (kc)]:=At.of_cells hbq2
 clear hbq2
 replace SA:=SA.mono mono_rdSlot hGq2
 replace SK:=SK.mono mono_rdP hGq2
 change Mem w0 Gq2 (L) _ at M
 refine e_reg<|?_
 change Mem w0 Gq2 (L) _ at M
 refine s_cL ent212 rfl rfl (twalk_spec feff_count (x:=x) (s:=()) (L:=L) M hk hl SA SK Aq2)<|?_;clear M;rintro _ _ w M ⟨k3,sk3,rfl,hLk3,hk3,ek3⟩
 intro a F
 rw [hLk3] at M;clear hLk3
 replace M:Mem w0 Gq2 (L) _:=M
 revert a
 refine s_as rfl<|e_nil<|e_tn<|e_ret<|e_fin1 rfl rfl<|?_
 exact ⟨_,hGq2,M.weaken (List.Sublist.refl _),by rw [hk3]⟩
theorem tcount_spec {w0 w:World} {G:Ghost} {L:List Res} (M:Mem w0 G L w) {x:PT} {ta:Option Addr} {tc:Nat} {ka:Option Addr} {kc:Nat} (hk:inKind .u8 x.kind) (hl:(x.tag.length≤9223372036854775807∧x.key.length≤9223372036854775807∧x.text.length≤9223372036854775807)) (SA:RdSl rdSlot 3 G (.slice ta x.as.length tc) x.as) (SK:RdSl rdP 6 G (.slice ka x.kids.length kc) x.kids):Calls Tryz.prog 189 #[.agg #[.int .u8 (x.kind),.string (str (x.tag)),.string (str (x.key)),.slice (ta) (x.as.length) (tc),.string (str (x.text)),.slice (ka) (x.kids.length) (kc)]] w (RetS w0 G L fun v=>v=.int .i64 (((cntP x:Nat):Int))):=Ret.plain M (tcount_ret M hk hl SA SK)
theorem tcheck_spec {w0 w:World} {G:Ghost} {L:List Res} (M:Mem w0 G L w) {x:PT} {ta:Option Addr} {tc:Nat} {ka:Option Addr} {kc:Nat} (hk:inKind .u8 x.kind) (hl:(x.tag.length≤9223372036854775807∧x.key.length≤9223372036854775807∧x.text.length≤9223372036854775807)) (SA:RdSl rdSlot 3 G (.slice ta x.as.length tc) x.as) (SK:RdSl rdP 6 G (.slice ka x.kids.length kc) x.kids):Calls Tryz.prog 155 #[.agg #[.int .u8 (x.kind),.string (str (x.tag)),.string (str (x.key)),.slice (ta) (x.as.length) (tc),.string (str (x.text)),.slice (ka) (x.kids.length) (kc)]] w (RetS w0 G L fun v=>v=.int .i64 (chkP x)):=by
 refine e_start (vs:=[_]) Tryz.func155 rfl (n:=6) rfl rfl<|e_seq<|e_reg<|s_bx M rfl rfl rfl<|?_;clear M;intro b1 w M
 refine s_as rfl<|e_nil<|e_tn<|e_seq<|e_seq<|e_reg<|e_run (fun a F=>run_loadA tok79 rfl (F.ev rfl) (cs:=[.int .u8 (x.kind),.string (str (x.tag)),.string (str (x.key)),.slice (ta) (x.as.length) (tc),.string (str (x.text)),.slice (ka) (x.kids.length) (kc)]) rfl (M.cellsL (k:=0) rfl rfl)) rfl<|s_cS ent189 rfl rfl (tcount_spec (x:=x) M hk hl SA SK)<|?_;clear M;rintro _ w M rfl
 refine s_eq rfl rfl<|e_nil<|e_tn<|e_cond rfl ?_ ?_
 ·intro hc
  have h2b:=hc;clear hc
  have h2:((cntP x:Nat):Int)=0:=of_decide_eq_true h2b
  refine e_seq<|e_reg<|s_as rfl<|e_nil<|e_tn<|e_ret<|e_tr<|e_fin1 rfl rfl<|?_
  exact ⟨M.weaken (.cons _ (List.Sublist.refl _)),by rw [chkP_no fun h_=>by have:=cntP_pos.2 h_;omega]⟩
 ·intro hc
  have h3b:=hc;clear hc
  have h3:¬ (((cntP x:Nat):Int)=0):=of_decide_eq_false h3b
  refine e_skip<|e_tn<|e_seq<|e_reg<|s_as rfl<|e_nil<|e_tn<|e_ret<|e_fin1 rfl rfl<|?_
  exact ⟨M.weaken (.cons _ (List.Sublist.refl _)),by rw [chkP_yes (cntP_pos.1 (by omega))]⟩
end Go.Proofs.YtmmhmcplegpenaaGreatDoor.T
