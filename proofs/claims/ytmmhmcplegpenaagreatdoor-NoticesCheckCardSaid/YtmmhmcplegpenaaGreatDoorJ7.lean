/- The walks, part LG. · The walks, part LH. · The walks, part LI. -/
import Derived.Test.YtmmhmcplegpenaaGreatDoorJ6
namespace Go.Proofs.YtmmhmcplegpenaaGreatDoor
open Go Go.Y Go.Proofs
set_option linter.unusedSimpArgs false
set_option linter.unusedVariables false
theorem check_ok {c:RulesD} {l:List EntD} (h:checkE c l=0):ValidC c∧l.length≤1024∧(∀ i x,l[i]?=some x→entE c (l.take i) x=0)∧overE l=0:=by
 by_cases hv:ValidC c
 ·by_cases h2:1024 < l.length
  ·rw [check_3 hv h2] at h;cases h
  ·by_cases h3:firstE (scanE c l) l.length=0
   ·rw [check_end hv h2 h3 (Nat.le_refl _)] at h
    exact ⟨hv,by omega,fun i x hx=>by have:=firstE_zero.1 h3 i (lt_of_get hx);rwa [scan_at hx] at this,h⟩
   ·unfold checkE at h;rw [if_neg (not_not_intro hv),if_neg h2,if_neg h3] at h;exact absurd h h3
 ·rw [check_7 hv] at h;cases h
theorem check_key {c:RulesD} {l:List EntD} (h:checkE c l=0) {i:Nat} {x:EntD} (hx:l[i]?=some x):¬ hasKey (l.take i) x.item.key:=(itemE_zero.1 (entE_zero.1 ((check_ok h).2.2.1 i x hx)).1).2.1
theorem check_item {c:RulesD} {l:List EntD} (h:checkE c l=0):∀ x∈l,ItemOk (c.kinds.length:Int) x.item:=fun x hx=>by
 obtain ⟨i,hi⟩:=List.mem_iff_getElem?.1 hx
 exact (itemE_zero.1 (entE_zero.1 ((check_ok h).2.2.1 i x hi)).1).1
theorem unseen_spec {w0 w:World} {G:Ghost} {L:List Res} (M:Mem w0 G L w) {c:RulesD} {a1:Option Addr} {c1:Nat} {l:List EntD} (S:RdSl rdEnt 6 G (.slice a1 l.length c1) l) (hck:checkE c l=0):Calls Tryz.prog 139 #[.slice a1 l.length c1] w (RetL w0 G fun L' v=>∃ (b mb:Nat) (es:Array MapEntry) (cl:Nat) (ks:List Nat),v=.func (.func 168) #[] #[.pointer (some ⟨b,0,none⟩)]∧L' = (.blk b [.map (some mb)] 185::.obj mb (.map es cl)::L)∧SetIs es ks∧∀ q,q∈ks↔hasKey l q):=by
 have bS:=S.bound
 refine e_start (vs:=[_]) Tryz.func139 rfl (n:=19) rfl rfl<|e_seq<|e_reg<|s_as rfl<|e_nil<|e_tn<|e_seq<|e_reg<|fun a F=>?_
 refine rl_makeSet (kt:=23) (et:=4) F M rfl ?_;clear F M a;intro bm1 w a M F
 revert a
 refine s_al M tok185 rfl rfl<|?_;clear M;intro b2 w M
 refine s_st tok185 M 0 rfl rfl rfl rfl rfl rfl<|?_;clear M;intro w M
 refine e_nil<|e_tn<|e_seq<|e_seq<|e_reg<|s_mv rfl<|s_ls tok52.k rfl<|s_mv rfl<|e_nil<|e_tn<|e_block<|fun a F=>w_loopN (fun m a' w'=>∃ (i:Nat),∃ (es:Array MapEntry),∃ (cl:Nat),∃ (ks:List Nat),m=l.length - i∧Fits 19 a' [(3,.pointer (some ⟨b2,0,none⟩)),(7,.slice (a1) (l.length) (c1)),(8,.int .i64 (((l.length:Nat):Int))),(9,.int .i64 (((i:Nat):Int)))]∧Mem w0 G (.blk b2 [.map (some bm1)] 185::.obj bm1 (.map es cl)::L) w'∧(i≤l.length)∧(SetIs es ks)∧(KeysTo l i ks)) _ ⟨0,#[],0,([]:List Nat),rfl,F.to ⟨rfl,rfl,rfl,rfl,trivial⟩,M,Nat.zero_le _,SetIs.nil,KeysTo.zero l⟩ ?_
 clear F M
 rintro m a w ⟨i,es,cl,ks,rfl,F,M,hi,Es,hks⟩
 revert a
 refine e_seq<|e_reg<|s_lt rfl rfl<|e_nil<|e_tn<|e_seq<|e_cond rfl ?_ ?_
 ·intro hc
  have h4b:=hc;clear hc
  have h4:((i:Nat):Int) < ((l.length:Nat):Int):=of_decide_eq_true h4b
  refine e_skip<|e_tn<|e_seq<|e_block<|e_seq<|e_reg<|?_
  obtain ⟨Xe5,hXe5⟩:=get_of_lt (xs:=l) (i:=i) (by omega)
  obtain ⟨be5,oe5,_,Ie5,_,Ae5,hTe5⟩:=S.at hXe5
  obtain ⟨c1e5,hcse5,hPe5,hBe5⟩:=hTe5
  obtain ⟨mae5,mce5,rfl,hke5,hte5,hxe5,hne5,SMe5⟩:=hPe5
  subst hcse5
  have hIe5:(Xe5.item.key < 18446744073709551616∧Xe5.item.typ < 256∧Xe5.item.text.length≤9223372036854775807):=⟨hke5,hte5,hxe5⟩
  have hQe5:-9223372036854775808≤Xe5.size∧Xe5.size≤9223372036854775807:=hBe5
  refine s_ix tok52.k tok69 Ie5 rfl rfl<|e_run (fun a F=>run_loadA tok69 rfl (F.ev rfl) (cs:=[.int .u64 (((Xe5.item.key:Nat):Int)),.int .u8 (((Xe5.item.typ:Nat):Int)),.string (str (Xe5.item.text)),.slice (mae5) (Xe5.item.marks.length) (mce5),.int .i64 (Xe5.size),.bool (Xe5.known)]) rfl (M.cellsA Ae5 0 (by omega) rfl)) rfl<|s_al M tok69 rfl rfl<|?_;clear M;intro b6 w M
  intro a F
  refine rl_storeA F M tok69 (k:=0) rfl rfl rfl (us:=[.int .u64 (((Xe5.item.key:Nat):Int)),.int .u8 (((Xe5.item.typ:Nat):Int)),.string (str (Xe5.item.text)),.slice (mae5) (Xe5.item.marks.length) (mce5),.int .i64 (Xe5.size),.bool (Xe5.known)]) rfl rfl (by simp [Value.oneCell']) (by simp) ?_;clear F M a;intro w a M F
  change Mem w0 G (.blk b6 [.int .u64 (((Xe5.item.key:Nat):Int)),.int .u8 (((Xe5.item.typ:Nat):Int)),.string (str (Xe5.item.text)),.slice (mae5) (Xe5.item.marks.length) (mce5),.int .i64 (Xe5.size),.bool (Xe5.known)] 69::.blk b2 [.map (some bm1)] 185::_::L) _ at M
  revert a
  refine e_nil<|e_tn<|?_
  have hnk:¬ Xe5.item.key∈ks:=fun h_=>check_key hck hXe5 ((hks _).1 h_)
  refine e_reg<|s_ld tok185 M 1 rfl rfl rfl rfl<|s_fa tok69.k rfl rfl<|s_fa tok26.k rfl rfl<|s_ld tok23 M 0 rfl rfl rfl rfl<|fun a F=>?_
  refine rl_putSet (z:=Xe5.item.key) F M (k:=2) rfl Es tok185.k tok23.k rfl rfl rfl (by assumption) ?_;clear F M a;intro esm8 clm8 w a Em8 M F
  revert a
  refine e_nil<|e_bn<|e_tn<|e_reg<|s_add rfl rfl<|s_mv rfl<|e_nil<|e_tn<|fun a F=>?_
  exact ⟨_,by omega,i+1,esm8,clm8,(Xe5.item.key::ks),rfl,F.to ⟨rfl,rfl,rfl,rfl,trivial⟩,(M.weaken (.cons _ (.cons_cons _ (.cons_cons _ (List.Sublist.refl _))))),by omega,Em8,hks.step hXe5⟩
 ·intro hc
  have h9b:=hc;clear hc
  have h9:¬ (((i:Nat):Int) < ((l.length:Nat):Int)):=of_decide_eq_false h9b
  refine e_exit<|e_te<|e_te<|e_bh<|e_tn<|e_seq<|e_reg<|e_run (fun a F=>run_makeFunc (vs:=#[.pointer (some ⟨b2,0,none⟩)]) (by simp only [List.map_toArray,List.map_cons,List.map_nil,F.ev (x:=.tmp 3) rfl])) rfl<|s_as rfl<|e_nil<|e_tn<|e_ret<|e_fin1 rfl rfl<|?_
  replace M:=M.perm (perm_front _ 1 _ rfl)
  replace M:=M.perm (perm_front _ 1 _ rfl)
  change Mem w0 G (.blk b2 [.map (some bm1)] 185::_::L) _ at M
  exact ⟨_,M,b2,bm1,es,cl,ks,rfl,rfl,Es,by have h_:=hks;unfold KeysTo at h_;rwa [List.take_of_length_le (by omega)] at h_⟩
theorem unseen1_spec {w0 w:World} {G:Ghost} {L:List Res} {b mb:Nat} {es:Array MapEntry} {cl:Nat} {ks:List Nat} (M:Mem w0 G (.blk b [.map (some mb)] 185::.obj mb (.map es cl)::L) w) (Es:SetIs es ks) {x:ItemD} {ma:Option Addr} {mc:Nat} (hI:(x.key < 18446744073709551616∧x.typ < 256∧x.text.length≤9223372036854775807)) (SM:RdSl rdStr 1 G (.slice ma x.marks.length mc) x.marks) {i:Int} :
  Calls Tryz.prog 168 #[.int .i64 i,.agg #[.int .u64 (((x.key:Nat):Int)),.int .u8 (((x.typ:Nat):Int)),.string (str (x.text)),.slice (ma) (x.marks.length) (mc)],.pointer (some ⟨b,0,none⟩)] w (RetL w0 G fun L' v=>∃ (es':Array MapEntry) (cl':Nat),v=.int .i64 (if x.key∈ks then 8 else 0)∧L' = (.blk b [.map (some mb)] 185::.obj mb (.map es' cl')::L)∧(¬ x.key∈ks→SetIs es' (x.key::ks))):=by
 refine e_start (vs:=[_,_,_]) Tryz.func168 rfl (n:=13) rfl rfl<|e_seq<|e_reg<|s_bx M rfl rfl rfl<|?_;clear M;intro b1 w M
 refine s_as rfl<|e_nil<|e_tn<|e_seq<|e_seq<|e_reg<|s_ld tok185 M 1 rfl rfl rfl rfl<|s_fa tok26.k rfl rfl<|s_ld tok23 M 0 rfl rfl rfl rfl<|fun a F=>rl_lookSet F M (k:=2) rfl Es tok185.k tok23.k tok4 rfl rfl rfl rfl ?_;clear F a;intro a F
 revert a
 refine e_nil<|e_tn<|e_cond rfl ?_ ?_
 ·intro hc
  have h2b:=hc;clear hc
  have h2:x.key∈ks:=of_decide_eq_true h2b
  refine e_seq<|e_reg<|s_as rfl<|e_nil<|e_tn<|e_ret<|e_tr<|e_fin1 rfl rfl<|?_
  replace M:=M.perm (perm_front _ 2 _ rfl)
  replace M:=M.perm (perm_front _ 2 _ rfl)
  change Mem w0 G (_::_::_::L) _ at M
  exact ⟨_,M.weaken (.cons_cons _ (.cons_cons _ (.cons _ (List.Sublist.refl _)))),es,cl,by rw [if_pos (by assumption)],rfl,fun h_=>absurd (by assumption) h_⟩
 ·intro hc
  have h3b:=hc;clear hc
  have h3:¬ (x.key∈ks):=of_decide_eq_false h3b
  refine e_skip<|e_tn<|e_seq<|e_reg<|s_ld tok185 M 1 rfl rfl rfl rfl<|s_fa tok26.k rfl rfl<|s_ld tok23 M 0 rfl rfl rfl rfl<|fun a F=>?_
  refine rl_putSet (z:=x.key) F M (k:=2) rfl Es tok185.k tok23.k rfl rfl rfl (by assumption) ?_;clear F M a;intro esm4 clm4 w a Em4 M F
  revert a
  refine e_nil<|e_tn<|e_seq<|e_reg<|s_as rfl<|e_nil<|e_tn<|e_ret<|e_fin1 rfl rfl<|?_
  replace M:=M.perm (perm_front _ 2 _ rfl)
  replace M:=M.perm (perm_front _ 2 _ rfl)
  change Mem w0 G (_::_::_::L) _ at M
  exact ⟨_,M.weaken (.cons_cons _ (.cons_cons _ (.cons _ (List.Sublist.refl _)))),esm4,clm4,by rw [if_neg (by assumption)],rfl,fun _=>Em4⟩
theorem ins1_spec {w0 w:World} {G:Ghost} {L:List Res} (M:Mem w0 G L w) {a1:Option Addr} {c1:Nat} {l:List EntD} (S:RdSl rdEnt 6 G (.slice a1 l.length c1) l) {b5:Nat} (A5:At G b5 0 [.slice a1 l.length c1]) {b6 p:Nat} (A6:At G b6 0 [.int .i64 ((p:Nat):Int)]) {a2:Option Addr} {c2:Nat} {fr:List EntD} (R:RdSl rdEnt 6 G (.slice a2 fr.length c2) fr) (hp:p≤l.length) (hl:l.length≤1000000) (hf:fr.length≤1000000):Calls Tryz.prog 161 #[.slice a2 fr.length c2,.pointer (some ⟨b5,0,none⟩),.pointer (some ⟨b6,0,none⟩)] w (Ret w0 G L fun G' v=>∃ (a:Option Addr) (cc:Nat),v=.slice a (midL l p 0 fr).length cc∧RdSl rdEnt 6 G' (.slice a (midL l p 0 fr).length cc) (midL l p 0 fr)):=by
 refine e_start (vs:=[_,_,_]) Tryz.func161 rfl (n:=10) rfl rfl<|e_seq<|e_reg<|s_as rfl<|e_nil<|e_tn<|e_seq<|e_reg<|s_fa tok54.k rfl rfl<|s_la tok52 M A5 0 rfl rfl rfl rfl<|s_la tok3 M A6 0 rfl rfl (by omega) rfl<|s_mv rfl<|s_cR ent119 rfl rfl (splice_spec (l:=l) (fr:=fr) (p:=p) (n:=0) M S R (by omega) (by omega) (by omega))<|?_;clear M;rintro _ Gq1 w hGq1 M ⟨aq1,cq1,rfl,Sq1⟩
 replace S:=S.mono mono_rdEnt hGq1
 replace A5:=A5.mono hGq1
 replace A6:=A6.mono hGq1
 replace R:=R.mono mono_rdEnt hGq1
 refine s_as rfl<|e_nil<|e_tn<|e_ret<|e_fin1 rfl rfl<|?_
 exact ⟨_,hGq1,M,aq1,cq1,rfl,Sq1⟩
theorem rem1_spec {w0 w:World} {G:Ghost} {L:List Res} (M:Mem w0 G L w) {a1:Option Addr} {c1:Nat} {l:List EntD} (S:RdSl rdEnt 6 G (.slice a1 l.length c1) l) {b5:Nat} (A5:At G b5 0 [.slice a1 l.length c1]) {b6 p:Nat} (A6:At G b6 0 [.int .i64 ((p:Nat):Int)]) {b7 n:Nat} (A7:At G b7 0 [.int .i64 ((n:Nat):Int)]) {a2:Option Addr} {c2:Nat} {fr:List EntD} (R:RdSl rdEnt 6 G (.slice a2 fr.length c2) fr) (hp:p+n≤l.length) (hl:l.length≤1000000):Calls Tryz.prog 118 #[.slice a2 fr.length c2,.pointer (some ⟨b5,0,none⟩),.pointer (some ⟨b6,0,none⟩),.pointer (some ⟨b7,0,none⟩)] w (Ret w0 G L fun G' v=>∃ (a:Option Addr) (cc:Nat),v=.slice a (midL l p n []).length cc∧RdSl rdEnt 6 G' (.slice a (midL l p n []).length cc) (midL l p n [])):=by
 refine e_start (vs:=[_,_,_,_]) Tryz.func118 rfl (n:=11) rfl rfl<|e_seq<|e_reg<|s_as rfl<|e_nil<|e_tn<|e_seq<|e_reg<|s_fa tok54.k rfl rfl<|s_la tok52 M A5 0 rfl rfl rfl rfl<|s_la tok3 M A6 0 rfl rfl (by omega) rfl<|s_la tok3 M A7 0 rfl rfl (by omega) rfl<|s_cR ent119 rfl rfl (splice_spec (l:=l) (fr:=([]:List EntD)) (p:=p) (n:=n) M S RdSl.nil (by omega) (by omega) (by (show 0≤1000000;omega)))<|?_;clear M;rintro _ Gq1 w hGq1 M ⟨aq1,cq1,rfl,Sq1⟩
 replace S:=S.mono mono_rdEnt hGq1
 replace A5:=A5.mono hGq1
 replace A6:=A6.mono hGq1
 replace A7:=A7.mono hGq1
 replace R:=R.mono mono_rdEnt hGq1
 refine s_as rfl<|e_nil<|e_tn<|e_ret<|e_fin1 rfl rfl<|?_
 exact ⟨_,hGq1,M,aq1,cq1,rfl,Sq1⟩
theorem mov1_spec {w0 w:World} {G:Ghost} {L:List Res} (M:Mem w0 G L w) {a1:Option Addr} {c1:Nat} {l:List EntD} (S:RdSl rdEnt 6 G (.slice a1 l.length c1) l) {b5:Nat} (A5:At G b5 0 [.slice a1 l.length c1]) {b6 p:Nat} (A6:At G b6 0 [.int .i64 ((p:Nat):Int)]) {b7 n:Nat} (A7:At G b7 0 [.int .i64 ((n:Nat):Int)]) {b8 q:Nat} (A8:At G b8 0 [.int .i64 ((q:Nat):Int)]) {a2:Option Addr} {c2:Nat} {fr:List EntD} (R:RdSl rdEnt 6 G (.slice a2 fr.length c2) fr) (hp:p+n≤l.length) (hq:q+n≤l.length) (hl:l.length≤1000000):Calls Tryz.prog 162 #[.slice a2 fr.length c2,.pointer (some ⟨b5,0,none⟩),.pointer (some ⟨b6,0,none⟩),.pointer (some ⟨b7,0,none⟩),.pointer (some ⟨b8,0,none⟩)] w (Ret w0 G L fun G' v=>∃ (a:Option Addr) (cc:Nat),v=.slice a (movL l p n q).length cc∧RdSl rdEnt 6 G' (.slice a (movL l p n q).length cc) (movL l p n q)):=by
 refine e_start (vs:=[_,_,_,_,_]) Tryz.func162 rfl (n:=21) rfl rfl<|e_seq<|e_reg<|s_as rfl<|e_nil<|e_tn<|e_seq<|fun a F=>w_plan [(true,0),(true,1),(true,2),(true,3),(true,5),(true,6),(true,7),(true,8),(true,9),(true,10),(true,11),(true,12),(false,4),(false,13),(true,14)] (Keep G []) rfl (by kernel_rfl) (fun c a d v w h=>by cases d <;> exact h) ((M.drew _).keep (Gle.refl _) (by simp)) ?_
 replace M:=M.drew (w.drawn+1)
 revert a
 refine l_r (fun a F w M=>x_fa tok54.k rfl F rfl) rfl<|l_r (fun a F w M=>run_load1 (agf tok52 rfl) (F.ev rfl) (M.cellA A5 0 rfl rfl)) rfl<|l_r (fun a F w M=>run_load1 (agf tok3 rfl) (F.ev rfl) (M.cellA A6 0 (by omega) rfl)) rfl<|l_r (fun a F w M=>run_load1 (agf tok3 rfl) (F.ev rfl) (M.cellA A7 0 (by omega) rfl)) rfl<|l_r (fun a F w M=>run_load1 (agf tok3 rfl) (F.ev rfl) (M.cellA A8 0 (by omega) rfl)) rfl<|l_r (fun a F w M=>x_fa tok54.k rfl F rfl) rfl<|l_r (fun a F w M=>run_load1 (agf tok52 rfl) (F.ev rfl) (M.cellA A5 0 rfl rfl)) rfl<|l_r (fun a F w M=>run_load1 (agf tok3 rfl) (F.ev rfl) (M.cellA A6 0 (by omega) rfl)) rfl<|l_r (fun a F w M=>run_load1 (agf tok3 rfl) (F.ev rfl) (M.cellA A6 0 (by omega) rfl)) rfl<|l_r (fun a F w M=>run_load1 (agf tok3 rfl) (F.ev rfl) (M.cellA A7 0 (by omega) rfl)) rfl<|l_r (fun a F w M=>run_addi (F.ev rfl) (F.ev rfl) (in_i64 (by omega) (by omega))) rfl<|?_
 obtain ⟨as1,cs1,Is1,hms1,hcs1,Ss1⟩:=S.part (p) (p+n) (by omega) (by omega)
 refine l_r (fun a F w M=>run_sliceI tok52.k tok69 Is1 (F.ev rfl) (h:=p+n) ⟨(F.ev rfl),by omega⟩ ⟨(F.ev rfl),by omega⟩ (by omega) (by omega)) rfl<|l_a rfl<|s_cR ent119 rfl rfl (splice_spec (l:=l) (fr:=([]:List EntD)) (p:=p) (n:=n) M S RdSl.nil (by omega) (by omega) (by (first | (show 0≤1000000;omega) | (rw [List.length_take];omega))))<|?_;clear M;rintro _ Gq2 w hGq2 M ⟨aq2,cq2,rfl,Sq2⟩
 replace S:=S.mono mono_rdEnt hGq2
 replace A5:=A5.mono hGq2
 replace A6:=A6.mono hGq2
 replace A7:=A7.mono hGq2
 replace A8:=A8.mono hGq2
 replace R:=R.mono mono_rdEnt hGq2
 replace Ss1:=Ss1.mono mono_rdEnt hGq2
 refine e_nil<|eK (C':=Keep Gq2 []) (M.keep (Gle.refl _) (by simp)) (fun w h=>h.mono hGq2 (by simp))<|l_a rfl<|?_
 have hsl9:p+n - p=((l.drop p).take n).length:=by rw [List.length_take,List.length_drop];omega
 have hdt9:(l.take (p+n)).drop p=(l.drop p).take n:=by rw [List.drop_take];congr 1;omega
 intro a F
 rw [hsl9,hdt9] at Ss1
 rw [hsl9] at F
 have hml9:=midL_rest (l:=l) (p:=p) (n:=n) (by omega)
 revert a
 refine s_cR ent119 rfl rfl (splice_spec (l:=(midL l p n ([]:List EntD))) (fr:=((l.drop p).take n)) (p:=q) (n:=0) M Sq2 Ss1 (by omega) (by omega) (by (first | (show 0≤1000000;omega) | (rw [List.length_take];omega))))<|?_;clear M;rintro _ Gq3 w hGq3 M ⟨aq3,cq3,rfl,Sq3⟩
 replace S:=S.mono mono_rdEnt hGq3
 replace A5:=A5.mono hGq3
 replace A6:=A6.mono hGq3
 replace A7:=A7.mono hGq3
 replace A8:=A8.mono hGq3
 replace R:=R.mono mono_rdEnt hGq3
 replace Ss1:=Ss1.mono mono_rdEnt hGq3
 replace Sq2:=Sq2.mono mono_rdEnt hGq3
 refine e_nil<|eK (C':=Keep Gq3 []) (M.keep (Gle.refl _) (by simp)) (fun w h=>h.mono hGq3 (by simp))<|l_r (fun a F w M=>x_as F rfl) rfl<|l_nil<|e_tn<|e_ret<|e_fin1 rfl rfl<|?_
 exact ⟨_,(hGq2.trans hGq3),M,aq3,cq3,rfl,Sq3⟩
theorem chg1_spec {w0 w:World} {G:Ghost} {L:List Res} (M:Mem w0 G L w) {a1:Option Addr} {c1:Nat} {l:List EntD} (S:RdSl rdEnt 6 G (.slice a1 l.length c1) l) {b5:Nat} (A5:At G b5 0 [.slice a1 l.length c1]) {b6 p:Nat} (A6:At G b6 0 [.int .i64 ((p:Nat):Int)]) {x:ItemD} {ma:Option Addr} {mc:Nat} (hI:(x.key < 18446744073709551616∧x.typ < 256∧x.text.length≤9223372036854775807)) (SM:RdSl rdStr 1 G (.slice ma x.marks.length mc) x.marks) {i:Nat} {y:EntD} (hy:l[p+i]?=some y) (hl:l.length≤1000000):Calls Tryz.prog 163 #[.int .i64 ((i:Nat):Int),.agg #[.int .u64 (((x.key:Nat):Int)),.int .u8 (((x.typ:Nat):Int)),.string (str (x.text)),.slice (ma) (x.marks.length) (mc)],.pointer (some ⟨b5,0,none⟩),.pointer (some ⟨b6,0,none⟩)] w (RetS w0 G L fun v=>v=.int .i64 (if y.item.key=x.key then 0 else 9)):=by
 have hyl:=lt_of_get hy
 refine e_start (vs:=[_,_,_,_]) Tryz.func163 rfl (n:=19) rfl rfl<|e_seq<|e_reg<|s_bx M rfl rfl rfl<|?_;clear M;intro b1 w M
 refine s_as rfl<|e_nil<|e_tn<|e_seq<|e_seq<|fun a F=>w_plan [(true,0),(true,1),(true,2),(true,3),(true,4),(true,5),(true,6),(true,7),(true,8),(true,9),(true,10),(true,11)] (Keep G [.blk b1 [.int .u64 (((x.key:Nat):Int)),.int .u8 (((x.typ:Nat):Int)),.string (str (x.text)),.slice (ma) (x.marks.length) (mc)] 26]) rfl (by kernel_rfl) (fun c a d v w h=>by cases d <;> exact h) ((M.drew _).keep (Gle.refl _) (by simp)) ?_
 replace M:=M.drew (w.drawn+1)
 revert a
 refine l_r (fun a F w M=>x_fa tok54.k rfl F rfl) rfl<|l_r (fun a F w M=>run_load1 (agf tok52 rfl) (F.ev rfl) (M.cellA A5 0 rfl rfl)) rfl<|l_r (fun a F w M=>run_load1 (agf tok3 rfl) (F.ev rfl) (M.cellA A6 0 (by omega) rfl)) rfl<|l_r (fun a F w M=>x_mv F rfl) rfl<|l_r (fun a F w M=>run_addi (F.ev rfl) (F.ev rfl) (in_i64 (by omega) (by omega))) rfl<|?_
 obtain ⟨be2,oe2,_,Ie2,_,Ae2,hTe2⟩:=S.at hy
 obtain ⟨c1e2,hcse2,hPe2,hBe2⟩:=hTe2
 obtain ⟨mae2,mce2,rfl,hke2,hte2,hxe2,hne2,SMe2⟩:=hPe2
 subst hcse2
 have hIe2:(y.item.key < 18446744073709551616∧y.item.typ < 256∧y.item.text.length≤9223372036854775807):=⟨hke2,hte2,hxe2⟩
 have hQe2:-9223372036854775808≤y.size∧y.size≤9223372036854775807:=hBe2
 refine l_r (fun a F w M=>run_indexI tok52.k tok69 (F.ev rfl) (F.ev rfl) (by omega) Ie2) rfl<|l_r (fun a F w M=>x_fa tok69.k rfl F rfl) rfl<|l_r (fun a F w M=>x_fa tok26.k rfl F rfl) rfl<|l_r (fun a F w M=>run_load1 (agf tok23 rfl) (F.ev rfl) (M.cellA Ae2 0 (by omega) rfl)) rfl<|l_r (fun a F w M=>x_fa tok26.k rfl F rfl) rfl<|l_r (fun a F w M=>run_load1 (agf tok23 rfl) (F.ev rfl) (M.cellL (k:=0) rfl rfl)) rfl<|l_r (fun a F w M=>run_nei (F.ev rfl) (F.ev rfl)) rfl<|l_nil<|?_
 generalize ({ w with drawn:=w.drawn+1 }:World)=w at M ⊢
 refine e_tn<|e_cond rfl ?_ ?_
 ·intro hc
  have h3b:=hc;clear hc
  have h3:¬ (((y.item.key:Nat):Int)=((x.key:Nat):Int)):=of_decide_eq_false (of_not_t h3b)
  have h3c:(decide (((y.item.key:Nat):Int)=((x.key:Nat):Int)))=false:=(of_not_t h3b)
  refine e_seq<|e_reg<|s_as rfl<|e_nil<|e_tn<|e_ret<|e_tr<|e_fin1 rfl rfl<|?_
  exact ⟨M.weaken (.cons _ (List.Sublist.refl _)),by rw [if_neg (by omega)]⟩
 ·intro hc
  have h4b:=hc;clear hc
  have h4:((y.item.key:Nat):Int)=((x.key:Nat):Int):=of_decide_eq_true (of_not_f h4b)
  have h4c:(decide (((y.item.key:Nat):Int)=((x.key:Nat):Int)))=true:=(of_not_f h4b)
  refine e_skip<|e_tn<|e_seq<|e_reg<|s_as rfl<|e_nil<|e_tn<|e_ret<|e_fin1 rfl rfl<|?_
  exact ⟨M.weaken (.cons _ (List.Sublist.refl _)),by rw [if_pos (by omega)]⟩
theorem chg2_spec {w0 w:World} {G:Ghost} {L:List Res} (M:Mem w0 G L w) {a1:Option Addr} {c1:Nat} {l:List EntD} (S:RdSl rdEnt 6 G (.slice a1 l.length c1) l) {b5:Nat} (A5:At G b5 0 [.slice a1 l.length c1]) {b6 p:Nat} (A6:At G b6 0 [.int .i64 ((p:Nat):Int)]) {ta:Option Addr} {tc:Nat} {xs:List ItemD} (T:RdSl rdItem 4 G (.slice ta xs.length tc) xs) {b9:Nat} (A9:At G b9 0 [.slice ta xs.length tc]) {a2:Option Addr} {c2:Nat} {fr:List EntD} (R:RdSl rdEnt 6 G (.slice a2 fr.length c2) fr) (hp:p+xs.length≤l.length) (hl:l.length≤1000000) (hf:fr.length≤1000000):Calls Tryz.prog 164 #[.slice a2 fr.length c2,.pointer (some ⟨b5,0,none⟩),.pointer (some ⟨b6,0,none⟩),.pointer (some ⟨b9,0,none⟩)] w (Ret w0 G L fun G' v=>∃ (a:Option Addr) (cc:Nat),v=.slice a (midL l p xs.length fr).length cc∧RdSl rdEnt 6 G' (.slice a (midL l p xs.length fr).length cc) (midL l p xs.length fr)):=by
 refine e_start (vs:=[_,_,_,_]) Tryz.func164 rfl (n:=13) rfl rfl<|e_seq<|e_reg<|s_as rfl<|e_nil<|e_tn<|e_seq<|e_reg<|s_fa tok54.k rfl rfl<|s_la tok52 M A5 0 rfl rfl rfl rfl<|s_la tok3 M A6 0 rfl rfl (by omega) rfl<|s_la tok22 M A9 0 rfl rfl (by omega) rfl<|s_ls tok22.k rfl<|s_mv rfl<|s_cR ent119 rfl rfl (splice_spec (l:=l) (fr:=fr) (p:=p) (n:=xs.length) M S R (by omega) (by omega) (by omega))<|?_;clear M;rintro _ Gq1 w hGq1 M ⟨aq1,cq1,rfl,Sq1⟩
 replace S:=S.mono mono_rdEnt hGq1
 replace A5:=A5.mono hGq1
 replace A6:=A6.mono hGq1
 replace A9:=A9.mono hGq1
 replace R:=R.mono mono_rdEnt hGq1
 replace T:=T.mono mono_rdItem hGq1
 refine s_as rfl<|e_nil<|e_tn<|e_ret<|e_fin1 rfl rfl<|?_
 exact ⟨_,hGq1,M,aq1,cq1,rfl,Sq1⟩
theorem res1_spec {w0 w:World} {G:Ghost} {L:List Res} (M:Mem w0 G L w) {a2:Option Addr} {c2:Nat} {fr:List EntD} (R:RdSl rdEnt 6 G (.slice a2 fr.length c2) fr):Calls Tryz.prog 140 #[.slice a2 fr.length c2] w (Ret w0 G L fun G' v=>∃ (a:Option Addr) (cc:Nat),v=.slice a (fr).length cc∧RdSl rdEnt 6 G' (.slice a (fr).length cc) (fr)):=by
 refine e_start (vs:=[_]) Tryz.func140 rfl (n:=4) rfl rfl<|e_seq<|e_reg<|s_as rfl<|e_nil<|e_tn<|e_seq<|e_reg<|s_mv rfl<|s_as rfl<|e_nil<|e_tn<|e_ret<|e_fin1 rfl rfl<|?_
 exact ⟨_,(Gle.refl _),M,a2,c2,rfl,R⟩
open Go Go.Y Go.Proofs
set_option linter.unusedSimpArgs false
set_option linter.unusedVariables false
/-- What the closure that checks a key does: it goes from state to state. -/
def KeyC (w0:World) (G0:Ghost) (kf:FuncId) (kc:List Value) (xs:List ItemD) (fK:Nat→Int) (Rk:Nat→List Res→Prop):Prop :=
 ∀ (G:Ghost) (L R:List Res) (w:World) (i:Nat) (x:ItemD) (ma:Option Addr) (mc:Nat),Gle G0 G→xs[i]?=some x→Rk i R→Mem w0 G (R++L) w→(x.key < 18446744073709551616∧x.typ < 256∧x.text.length≤9223372036854775807)→RdSl rdStr 1 G (.slice ma x.marks.length mc) x.marks →
  Calls Tryz.prog kf ([.int .i64 ((i:Nat):Int),.agg #[.int .u64 (((x.key:Nat):Int)),.int .u8 (((x.typ:Nat):Int)),.string (str (x.text)),.slice (ma) (x.marks.length) (mc)]]++kc:List Value).toArray w (RetL w0 G fun L' v=>∃ R',v=.int .i64 (fK i)∧L' = R'++L∧(fK i=0→Rk (i+1) R'))
/-- What the closure does that makes the list. -/
def MakeC (w0:World) (G0:Ghost) (mk:FuncId) (mc:List Value) (fr out:List EntD):Prop :=
 ∀ (G:Ghost) (L:List Res) (w:World) (a2:Option Addr) (c2:Nat),Gle G0 G→Mem w0 G L w→RdSl rdEnt 6 G (.slice a2 fr.length c2) fr →
  Calls Tryz.prog mk ([.slice a2 fr.length c2]++mc:List Value).toArray w (Ret w0 G L fun G' v=>∃ (a:Option Addr) (cc:Nat),v=.slice a (out).length cc∧RdSl rdEnt 6 G' (.slice a (out).length cc) (out))
/-- A list and an error, the list in new memory. -/
def OwnR (L:List Res) (r:List EntD × Int) (G':Ghost) (L':List Res) (v:Value):Prop :=
 ∃ (a:Option Addr) (cs:List Value) (Ls:List Res),v=.tuple #[.agg #[.slice a r.1.length r.1.length],.int .i64 r.2]∧L' = (OWNR a r.1.length cs::(Ls++L))∧Els (rdEC Ls) 6 G' cs r.1
theorem ownR_none {w0 w:World} {G G':Ghost} {L:List Res} {r:List EntD × Int} {e:Int} (hr:r=([],e)) (hG:Gle G G') (M:Mem w0 G' L w):∃ G2 L2,Gle G G2∧Mem w0 G2 L2 w∧OwnR L r G2 L2 (.tuple #[.agg #[.slice none 0 0],.int .i64 e]):=by
 subst hr
 exact ⟨G',_,hG,M.nilrow 69 6,none,[],[],rfl,rfl,Els.nil⟩
theorem rl_callvR {P:Program} {ops:Array Oper} {Q:Exit→Act→World→Prop} {n:Nat} {a:Act} {w w0:World} {e:Env} {G:Ghost} {L:List Res} {d:Nat} {t:TypeId} {p:String} {af:Array Edge} {r:List Oper} {f:FuncId} {cal:Operand} {args:List Operand} {ats:Array TypeId} {vs caps:List Value} {Φ:Ghost→Value→Prop}
  (F:Fits n a e) (hE:Ent P f) (hc:ev e cal=some (.func (.func f) #[] caps.toArray)) (hv:evs e args=some vs) (hd:Nat.ble (d+1) n=true) (hs:Calls P f (vs++caps).toArray w (Ret w0 G L Φ))
  (k:∀ v G' w' a',Gle G G'→Mem w0 G' L w'→Φ G' v→Fits n a' ((d,v)::e)→rl P ops Q r a' w') :
  rl P ops Q (⟨some d,.call ⟨.value cal,args.toArray,ats⟩,t,p,af,none⟩::r) a w:=by
 refine rl_callv F hE hc hv hd hs fun x w' hx=>?_
 cases x with
 | returned v=>obtain ⟨G',h1,h2,h3⟩:=hx;exact ⟨v,rfl,fun a' F'=>k v G' w' a' h1 h2 h3 F'⟩
 | panicked c=>exact hx.elim
 | outgrown=>exact hx.elim
theorem do_spec {w0 w:World} {G:Ghost} {L:List Res} {ins:Bool} {cnt:Int} {kv mv:Value} {fK:Nat→Int} {Rk:Nat→List Res→Prop} {out:List EntD} {R:List Res} (M:Mem w0 G (R++L) w) {c:RulesD} {kca:Option Addr} {kcc:Nat} (SC:RdSl rdKind 9 G (.slice kca c.kinds.length kcc) c.kinds) {a1:Option Addr} {c1:Nat} {l:List EntD} (S:RdSl rdEnt 6 G (.slice a1 l.length c1) l) {ta:Option Addr} {tc:Nat} {xs:List ItemD} (T:RdSl rdItem 4 G (.slice ta xs.length tc) xs) (hck:checkE c l=0) (hR:Rk 0 R) (hN:xs.length≤1000000)
  (hKy:ins=true→xs=[]∨∃ kf kc,kv=.func (.func kf) #[] (List.toArray kc)∧Ent Tryz.prog kf∧KeyC w0 G kf kc xs fK Rk) (hMk:ins=true→firstE (inAt c xs fK) xs.length=0→∃ mk mc,mv=.func (.func mk) #[] (List.toArray mc)∧Ent Tryz.prog mk∧MakeC w0 G mk mc (xs.map (freshF c)) out)
  (hol:ins=true→out.length≤1000000) (hmk:ins=true→firstE (inAt c xs fK) xs.length=0→∀ x∈out,x.item.marks.length≤1000000) :
  Calls Tryz.prog 116 #[.agg #[.slice (kca) (c.kinds.length) (kcc),.int .i64 (c.cap)],.agg #[.slice a1 l.length c1],.agg #[.bool (ins),.int .i64 (cnt),.slice (ta) (xs.length) (tc),kv,mv]] w (RetM w0 G (OwnR L (doR (checkE c l) ins cnt (inAt c xs fK) xs.length out))):=by
 have bT:=T.bound
 refine e_start (vs:=[_,_,_]) Tryz.func116 rfl (n:=79) rfl rfl<|e_seq<|e_reg<|s_bx M rfl rfl rfl<|?_;clear M;intro b1 w M
 refine s_bx M rfl rfl rfl<|?_;clear M;intro b2 w M
 refine s_bx M rfl rfl rfl<|?_;clear M;intro b3 w M
 refine s_al M tok54 rfl rfl<|?_;clear M;intro b4 w M
 refine s_as rfl<|e_nil<|e_tn<|e_seq<|e_seq<|e_reg<|e_run (fun a F=>run_loadA tok51 rfl (F.ev rfl) (cs:=[.slice (kca) (c.kinds.length) (kcc),.int .i64 (c.cap)]) rfl (M.cellsL (k:=3) rfl rfl)) rfl<|e_run (fun a F=>run_loadA tok54 rfl (F.ev rfl) (cs:=[.slice (a1) (l.length) (c1)]) rfl (M.cellsL (k:=2) rfl rfl)) rfl<|s_cS ent68 rfl rfl (lcheck_spec (c:=c) (l:=l) M SC S)<|?_;clear M;rintro _ w M rfl
 refine s_as rfl<|e_nil<|e_tn<|e_seq<|e_reg<|s_mv rfl<|s_ne rfl rfl<|e_nil<|e_tn<|e_cond_f rfl (not_f (decide_eq_true (by exact hck)))<|e_skip<|e_tn<|e_seq<|e_block<|e_seq<|e_reg<|s_fa tok207.k rfl rfl<|s_ld tok4 M 1 rfl rfl rfl rfl<|s_not rfl<|s_as rfl<|e_nil<|e_tn<|e_cond rfl ?_ ?_
 ·intro hc
  have h6b:=hc;clear hc
  have h6:(ins)=false:=(of_not_t h6b)
  have h6c:(ins)=false:=(of_not_t h6b)
  refine e_seq<|e_reg<|e_run (fun a F=>run_buildS (cs:=[.slice none 0 0]) (ps:=[]) tok54.k rfl tok54 (F.evp rfl) rfl) rfl<|fun a F=>?_
  refine rl_storeA F M tok54 (k:=0) rfl rfl rfl (us:=[.slice none 0 0]) rfl rfl (by simp [Value.oneCell']) (by simp) ?_;clear F M a;intro w a M F
  change Mem w0 G (.blk b4 [.slice none 0 0] 54::_::_::_::(R++L)) _ at M
  revert a
  refine s_as rfl<|e_nil<|e_tn<|e_ret<|e_br<|e_tr<|fun a F=>fin_ct F M (k:=0) rfl rfl tok54 rfl rfl rfl rfl ?_
  exact ownR_none (do_4 hck (by cases ins <;> simp_all)) (Gle.refl _) (M.weaken (.cons _ (.cons _ (.cons _ (.cons _ (List.sublist_append_right _ _))))))
 ·intro hc
  have h7b:=hc;clear hc
  have h7:(ins)=true:=(of_not_f h7b)
  have h7c:(ins)=true:=(of_not_f h7b)
  refine e_seq<|e_reg<|s_fa tok207.k rfl rfl<|s_ld tok3 M 1 rfl rfl rfl rfl<|s_gt rfl rfl<|s_as rfl<|e_nil<|e_tn<|e_cond rfl ?_ ?_
  ·intro hc
   have h8b:=hc;clear hc
   have h8:1024 < cnt:=of_decide_eq_true h8b
   refine e_seq<|e_reg<|e_run (fun a F=>run_buildS (cs:=[.slice none 0 0]) (ps:=[]) tok54.k rfl tok54 (F.evp rfl) rfl) rfl<|fun a F=>?_
   refine rl_storeA F M tok54 (k:=0) rfl rfl rfl (us:=[.slice none 0 0]) rfl rfl (by simp [Value.oneCell']) (by simp) ?_;clear F M a;intro w a M F
   change Mem w0 G (.blk b4 [.slice none 0 0] 54::_::_::_::(R++L)) _ at M
   revert a
   refine s_as rfl<|e_nil<|e_tn<|e_ret<|e_br<|e_tr<|fun a F=>fin_ct F M (k:=0) rfl rfl tok54 rfl rfl rfl rfl ?_
   exact ownR_none (do_3 hck (by cases ins <;> simp_all) (by omega)) (Gle.refl _) (M.weaken (.cons _ (.cons _ (.cons _ (.cons _ (List.sublist_append_right _ _))))))
  ·intro hc
   have h9b:=hc;clear hc
   have h9:¬ (1024 < cnt):=of_decide_eq_false h9b
   refine e_skip<|e_bn<|e_tn<|e_seq<|e_seq<|?_
   have hins:ins=true:=by cases ins <;> simp_all
   refine e_reg<|s_fa tok207.k rfl rfl<|s_ld tok22 M 1 rfl rfl rfl rfl<|s_ls tok22.k rfl<|s_mv rfl<|e_nil<|e_tn<|e_block<|fun a F=>w_loopN (fun m a' w'=>∃ (i:Nat),∃ (Rn:List Res),m=xs.length - i∧Fits 79 a' [(3,.pointer (some ⟨b1,0,none⟩)),(4,.pointer (some ⟨b2,0,none⟩)),(5,.pointer (some ⟨b3,0,none⟩)),(6,.pointer (some ⟨b4,0,none⟩)),(32,.slice (ta) (xs.length) (tc)),(33,.int .i64 (((xs.length:Nat):Int))),(34,.int .i64 (((i:Nat):Int)))]∧Mem w0 G (.blk b4 [.slice none 0 0] 54::.blk b3 [.bool (ins),.int .i64 (cnt),.slice (ta) (xs.length) (tc),kv,mv] 207::.blk b2 [.slice (a1) (l.length) (c1)] 54::.blk b1 [.slice (kca) (c.kinds.length) (kcc),.int .i64 (c.cap)] 51::(Rn++L)) w'∧(i≤xs.length)∧(Rk i Rn)∧(firstE (inAt c xs fK) i=0)) _ ⟨0,R,rfl,F.to ⟨rfl,rfl,rfl,rfl,rfl,rfl,rfl,trivial⟩,M,Nat.zero_le _,hR,rfl⟩ ?_
   clear F M
   rintro m a w ⟨i,Rn,rfl,F,M,hi,hRn,hS⟩
   revert a
   refine e_seq<|e_reg<|s_lt rfl rfl<|e_nil<|e_tn<|e_seq<|e_cond rfl ?_ ?_
   ·intro hc
    have h10b:=hc;clear hc
    have h10:((i:Nat):Int) < ((xs.length:Nat):Int):=of_decide_eq_true h10b
    refine e_skip<|e_tn<|e_seq<|e_block<|e_seq<|?_
    obtain ⟨Xi,hXi⟩:=get_of_lt (xs:=xs) (i:=i) (by omega)
    rcases hKy hins with hx0 | ⟨kf,kc,hkv,hEk,hKc⟩
    ·intro a F
     exact absurd hXi (by rw [hx0];simp)
    refine e_reg<|s_mv rfl<|?_
    obtain ⟨be11,oe11,_,Ie11,_,Ae11,hTe11⟩:=T.at hXi
    obtain ⟨mae11,mce11,rfl,hke11,hte11,hxe11,hne11,SMe11⟩:=hTe11
    have hIe11:(Xi.key < 18446744073709551616∧Xi.typ < 256∧Xi.text.length≤9223372036854775807):=⟨hke11,hte11,hxe11⟩
    refine s_ix tok22.k tok26 Ie11 rfl rfl<|e_run (fun a F=>run_loadA tok26 rfl (F.ev rfl) (cs:=[.int .u64 (((Xi.key:Nat):Int)),.int .u8 (((Xi.typ:Nat):Int)),.string (str (Xi.text)),.slice (mae11) (Xi.marks.length) (mce11)]) rfl (M.cellsA Ae11 0 (by omega) rfl)) rfl<|s_al M tok26 rfl rfl<|?_;clear M;intro b12 w M
    refine s_as rfl<|fun a F=>?_
    refine rl_storeA F M tok26 (k:=0) rfl rfl rfl (us:=[.int .u64 (((Xi.key:Nat):Int)),.int .u8 (((Xi.typ:Nat):Int)),.string (str (Xi.text)),.slice (mae11) (Xi.marks.length) (mce11)]) rfl rfl (by simp [Value.oneCell']) (by simp) ?_;clear F M a;intro w a M F
    change Mem w0 G (.blk b12 [.int .u64 (((Xi.key:Nat):Int)),.int .u8 (((Xi.typ:Nat):Int)),.string (str (Xi.text)),.slice (mae11) (Xi.marks.length) (mce11)] 26::_::_::_::_::(Rn++L)) _ at M
    revert a
    refine e_nil<|e_tn<|e_seq<|e_reg<|e_run (fun a F=>run_loadA tok26 rfl (F.ev rfl) (cs:=[.int .u64 (((Xi.key:Nat):Int)),.int .u8 (((Xi.typ:Nat):Int)),.string (str (Xi.text)),.slice (mae11) (Xi.marks.length) (mce11)]) rfl (M.cellsL (k:=0) rfl rfl)) rfl<|s_fa tok51.k rfl rfl<|s_ld tok49 M 4 rfl rfl rfl rfl<|s_ls tok49.k rfl<|s_cS ent14 rfl rfl (check_spec (x:=Xi) (t:=((c.kinds.length:Nat):Int)) M hIe11 SMe11)<|?_;clear M;rintro _ w M rfl
    refine s_as rfl<|e_nil<|e_tn<|e_seq<|e_seq<|e_reg<|s_mv rfl<|s_eq rfl rfl<|e_nil<|e_tn<|e_cond rfl ?_ ?_
    ·intro hc
     have h14b:=hc;clear hc
     have h14:itmF (((c.kinds.length:Nat):Int)) Xi=0:=of_decide_eq_true h14b
     have hok:ItemOk (c.kinds.length:Int) Xi:=itmF_zero.1 (by assumption)
     refine e_reg<|s_fa tok207.k rfl rfl<|s_ld tok205 M 2 rfl rfl rfl rfl<|s_mv rfl<|e_run (fun a F=>run_loadA tok26 rfl (F.ev rfl) (cs:=[.int .u64 (((Xi.key:Nat):Int)),.int .u8 (((Xi.typ:Nat):Int)),.string (str (Xi.text)),.slice (mae11) (Xi.marks.length) (mce11)]) rfl (M.cellsL (k:=0) rfl rfl)) rfl<|fun a F=>?_
     rw [hkv] at F
     refine rl_callvL F hEk (caps:=kc) rfl rfl rfl (hKc _ _ Rn _ i Xi _ _ (Gle.refl _) hXi hRn (M.perm (perm_mid [.blk b12 [.int .u64 (((Xi.key:Nat):Int)),.int .u8 (((Xi.typ:Nat):Int)),.string (str (Xi.text)),.slice (mae11) (Xi.marks.length) (mce11)] 26,.blk b4 [.slice none 0 0] 54,.blk b3 [.bool (ins),.int .i64 (cnt),.slice (ta) (xs.length) (tc),kv,mv] 207,.blk b2 [.slice (a1) (l.length) (c1)] 54,.blk b1 [.slice (kca) (c.kinds.length) (kcc),.int .i64 (c.cap)] 51] Rn L)) hIe11 SMe11) ?_;clear F M a;rintro _ _ w a M ⟨R2,rfl,rfl,hR2⟩ F
     have M:=M.perm (perm_mid R2 [.blk b12 [.int .u64 (((Xi.key:Nat):Int)),.int .u8 (((Xi.typ:Nat):Int)),.string (str (Xi.text)),.slice (mae11) (Xi.marks.length) (mce11)] 26,.blk b4 [.slice none 0 0] 54,.blk b3 [.bool (ins),.int .i64 (cnt),.slice (ta) (xs.length) (tc),kv,mv] 207,.blk b2 [.slice (a1) (l.length) (c1)] 54,.blk b1 [.slice (kca) (c.kinds.length) (kcc),.int .i64 (c.cap)] 51] L)
     change Mem w0 G (.blk b12 [.int .u64 (((Xi.key:Nat):Int)),.int .u8 (((Xi.typ:Nat):Int)),.string (str (Xi.text)),.slice (mae11) (Xi.marks.length) (mce11)] 26::.blk b4 [.slice none 0 0] 54::.blk b3 [.bool (ins),.int .i64 (cnt),.slice (ta) (xs.length) (tc),kv,mv] 207::.blk b2 [.slice (a1) (l.length) (c1)] 54::.blk b1 [.slice (kca) (c.kinds.length) (kcc),.int .i64 (c.cap)] 51::(R2++L)) _ at M
     revert a
     refine s_as rfl<|e_nil<|e_tn<|e_seq<|e_seq<|e_reg<|s_mv rfl<|s_eq rfl rfl<|e_nil<|e_tn<|e_cond rfl ?_ ?_
     ·intro hc
      have h15b:=hc;clear hc
      have h15:(fK i)=0:=of_decide_eq_true h15b
      obtain ⟨k,hK⟩:=kind_of hok
      refine e_reg<|e_run (fun a F=>run_loadA tok51 rfl (F.ev rfl) (cs:=[.slice (kca) (c.kinds.length) (kcc),.int .i64 (c.cap)]) rfl (M.cellsL (k:=4) rfl rfl)) rfl<|e_run (fun a F=>run_loadA tok26 rfl (F.ev rfl) (cs:=[.int .u64 (((Xi.key:Nat):Int)),.int .u8 (((Xi.typ:Nat):Int)),.string (str (Xi.text)),.slice (mae11) (Xi.marks.length) (mce11)]) rfl (M.cellsL (k:=0) rfl rfl)) rfl<|s_cS ent113 rfl rfl (render_spec (c:=c) (x:=Xi) M SC hIe11 SMe11 hK)<|?_;clear M;rintro _ w M ⟨n1n16,s1n16,s2n16,s3n16,a1n16,a2n16,l1n16,c1n16,l2n16,c2n16,rfl⟩
      refine s_mv rfl<|s_ex rfl rfl<|s_ex rfl rfl<|s_as rfl<|e_nil<|e_tn<|e_seq<|e_reg<|s_mv rfl<|s_ne rfl rfl<|e_nil<|e_tn<|e_cond rfl ?_ ?_
      ·intro hc
       have h17b:=hc;clear hc
       have h17:¬ (renE c Xi=0):=of_decide_eq_false (of_not_t h17b)
       have h17c:(decide (renE c Xi=0))=false:=(of_not_t h17b)
       refine e_seq<|e_reg<|e_run (fun a F=>run_buildS (cs:=[.slice none 0 0]) (ps:=[]) tok54.k rfl tok54 (F.evp rfl) rfl) rfl<|s_mv rfl<|fun a F=>?_
       refine rl_storeA F M tok54 (k:=1) rfl rfl rfl (us:=[.slice none 0 0]) rfl rfl (by simp [Value.oneCell']) (by simp) ?_;clear F M a;intro w a M F
       change Mem w0 G (.blk b12 [.int .u64 (((Xi.key:Nat):Int)),.int .u8 (((Xi.typ:Nat):Int)),.string (str (Xi.text)),.slice (mae11) (Xi.marks.length) (mce11)] 26::.blk b4 [.slice none 0 0] 54::_::_::_::(R2++L)) _ at M
       revert a
       refine s_as rfl<|e_nil<|e_tn<|e_ret<|e_br<|e_tr<|e_tr<|e_br<|e_tr<|fun a F=>fin_ct F M (k:=1) rfl rfl tok54 rfl rfl rfl rfl ?_
       exact ownR_none (do_e hck hins (by omega) hS (lt_of_get hXi) ((in_at hXi).trans (inE_r hok (by omega))) (by omega)) (Gle.refl _) (M.weaken (.cons _ (.cons _ (.cons _ (.cons _ (.cons _ (List.sublist_append_right _ _)))))))
      ·intro hc
       have h18b:=hc;clear hc
       have h18:renE c Xi=0:=of_decide_eq_true (of_not_f h18b)
       have h18c:(decide (renE c Xi=0))=true:=(of_not_f h18b)
       refine e_skip<|e_bn<|e_tn<|e_reg<|s_add rfl rfl<|s_mv rfl<|e_nil<|e_tn<|fun a F=>?_
       exact ⟨_,by omega,i+1,R2,rfl,F.to ⟨rfl,rfl,rfl,rfl,rfl,rfl,rfl,trivial⟩,(M.weaken (.cons _ (.cons_cons _ (.cons_cons _ (.cons_cons _ (.cons_cons _ (List.Sublist.refl _))))))),by omega,hR2 (by omega),in_step hS hXi ((inE_r hok (by omega)).trans (by omega))⟩
     ·intro hc
      have h19b:=hc;clear hc
      have h19:¬ ((fK i)=0):=of_decide_eq_false h19b
      refine e_skip<|e_tn<|e_seq<|e_reg<|s_mv rfl<|s_ne rfl rfl<|e_nil<|e_tn<|e_cond_t rfl (not_t (decide_eq_false h19))<|e_seq<|e_reg<|e_run (fun a F=>run_buildS (cs:=[.slice none 0 0]) (ps:=[]) tok54.k rfl tok54 (F.evp rfl) rfl) rfl<|s_mv rfl<|fun a F=>?_
      refine rl_storeA F M tok54 (k:=1) rfl rfl rfl (us:=[.slice none 0 0]) rfl rfl (by simp [Value.oneCell']) (by simp) ?_;clear F M a;intro w a M F
      change Mem w0 G (.blk b12 [.int .u64 (((Xi.key:Nat):Int)),.int .u8 (((Xi.typ:Nat):Int)),.string (str (Xi.text)),.slice (mae11) (Xi.marks.length) (mce11)] 26::.blk b4 [.slice none 0 0] 54::_::_::_::(R2++L)) _ at M
      revert a
      refine s_as rfl<|e_nil<|e_tn<|e_ret<|e_br<|e_tr<|e_tr<|e_br<|e_tr<|fun a F=>fin_ct F M (k:=1) rfl rfl tok54 rfl rfl rfl rfl ?_
      exact ownR_none (do_e hck hins (by omega) hS (lt_of_get hXi) ((in_at hXi).trans (inE_k hok (by omega))) (by omega)) (Gle.refl _) (M.weaken (.cons _ (.cons _ (.cons _ (.cons _ (.cons _ (List.sublist_append_right _ _)))))))
    ·intro hc
     have h20b:=hc;clear hc
     have h20:¬ (itmF (((c.kinds.length:Nat):Int)) Xi=0):=of_decide_eq_false h20b
     refine e_skip<|e_tn<|e_seq<|e_seq<|e_reg<|s_mv rfl<|s_eq rfl rfl<|e_nil<|e_tn<|e_cond_f rfl (decide_eq_false h20)<|e_skip<|e_tn<|e_seq<|e_reg<|s_mv rfl<|s_ne rfl rfl<|e_nil<|e_tn<|e_cond_t rfl (not_t (decide_eq_false h20))<|e_seq<|e_reg<|e_run (fun a F=>run_buildS (cs:=[.slice none 0 0]) (ps:=[]) tok54.k rfl tok54 (F.evp rfl) rfl) rfl<|s_mv rfl<|fun a F=>?_
     refine rl_storeA F M tok54 (k:=1) rfl rfl rfl (us:=[.slice none 0 0]) rfl rfl (by simp [Value.oneCell']) (by simp) ?_;clear F M a;intro w a M F
     change Mem w0 G (.blk b12 [.int .u64 (((Xi.key:Nat):Int)),.int .u8 (((Xi.typ:Nat):Int)),.string (str (Xi.text)),.slice (mae11) (Xi.marks.length) (mce11)] 26::.blk b4 [.slice none 0 0] 54::_::_::_::(Rn++L)) _ at M
     revert a
     refine s_as rfl<|e_nil<|e_tn<|e_ret<|e_br<|e_tr<|e_tr<|e_br<|e_tr<|fun a F=>fin_ct F M (k:=1) rfl rfl tok54 rfl rfl rfl rfl ?_
     exact ownR_none (do_e hck hins (by omega) hS (lt_of_get hXi) ((in_at hXi).trans ((inE_6 (fun h_=>by have:=itmF_yes h_;omega)).trans (itmF_no (fun h_=>by have:=itmF_yes h_;omega)).symm)) (by omega)) (Gle.refl _) (M.weaken (.cons _ (.cons _ (.cons _ (.cons _ (.cons _ (List.sublist_append_right _ _)))))))
   ·intro hc
    have h21b:=hc;clear hc
    have h21:¬ (((i:Nat):Int) < ((xs.length:Nat):Int)):=of_decide_eq_false h21b
    refine e_exit<|e_te<|e_te<|e_bh<|e_tn<|e_seq<|?_
    have hxe:firstE (inAt c xs fK) xs.length=0:=by rw [show xs.length=i by omega];exact hS
    have hxo:=in_ok hxe (Nat.le_refl _)
    obtain ⟨mk,mc,hmv,hEm,hMc⟩:=hMk hins hxe
    intro a F
    refine w_tree (.run 0 (.run 1 (.run 2 (.run 3 (.run 4 (.act 5 (.act 6 (.act 7 (.act 8 (.act 9 .fin .no) .no) (.act 8 (.act 7 (.act 9 .fin .no) .no) .no)) (.act 8 (.act 6 (.act 7 (.act 9 .fin .no) .no) .no) .no)) (.act 8 (.act 5 (.act 6 (.act 7 (.act 9 .fin .no) .no) .no) .no) .no))))))) (Keep G [.blk b4 [.slice none 0 0] 54,.blk b3 [.bool (ins),.int .i64 (cnt),.slice (ta) (xs.length) (tc),kv,mv] 207,.blk b2 [.slice (a1) (l.length) (c1)] 54,.blk b1 [.slice (kca) (c.kinds.length) (kcc),.int .i64 (c.cap)] 51]) rfl (by kernel_rfl) (fun c a d v w h=>by cases d <;> exact h) ((M.drew _).keep (Gle.refl _) (by simp)) ?_
    replace M:=M.drew (w.drawn+1)
    revert a
    refine t_r (fun a F w M=>x_fa tok207.k rfl F rfl) rfl<|t_r (fun a F w M=>run_load1 (agf tok204 rfl) (F.ev rfl) (M.cellL (k:=1) rfl rfl)) rfl<|t_r (fun a F w M=>run_loadA tok51 rfl (F.ev rfl) (cs:=[.slice (kca) (c.kinds.length) (kcc),.int .i64 (c.cap)]) rfl (M.cellsL (k:=3) rfl rfl)) rfl<|t_r (fun a F w M=>x_fa tok207.k rfl F rfl) rfl<|t_r (fun a F w M=>run_load1 (agf tok22 rfl) (F.ev rfl) (M.cellL (k:=1) rfl rfl)) rfl<|fun a F=>pt_act ?_ rfl ?_
    ·skip
     revert a
     refine s_cR ent160 rfl rfl (fresh_spec (c:=c) (xs:=xs) M SC T (by omega) hxo)<|?_;clear M;rintro _ Gq22 w hGq22 M ⟨aq22,cq22,rfl,Sq22⟩
     replace SC:=SC.mono mono_rdKind hGq22
     replace S:=S.mono mono_rdEnt hGq22
     replace T:=T.mono mono_rdItem hGq22
     refine e_nil<|eK (C':=Keep Gq22 [.blk b4 [.slice none 0 0] 54,.blk b3 [.bool (ins),.int .i64 (cnt),.slice (ta) (xs.length) (tc),kv,mv] 207,.blk b2 [.slice (a1) (l.length) (c1)] 54,.blk b1 [.slice (kca) (c.kinds.length) (kcc),.int .i64 (c.cap)] 51]) (M.keep (Gle.refl _) (by simp)) (fun w h=>h.mono hGq22 (by simp))<|fun a F=>pt_act ?_ rfl ?_
     ·skip
      rw [hmv] at F
      refine rl_callvR F hEm (caps:=mc) rfl rfl rfl (hMc _ _ _ _ _ hGq22 M Sq22) ?_;clear F M a;rintro _ Gq23 w a hGq23 M ⟨aq23,cq23,rfl,Sq23⟩ F
      replace SC:=SC.mono mono_rdKind hGq23
      replace S:=S.mono mono_rdEnt hGq23
      replace T:=T.mono mono_rdItem hGq23
      replace Sq22:=Sq22.mono mono_rdEnt hGq23
      revert a
      refine e_nil<|eK (C':=Keep Gq23 [.blk b4 [.slice none 0 0] 54,.blk b3 [.bool (ins),.int .i64 (cnt),.slice (ta) (xs.length) (tc),kv,mv] 207,.blk b2 [.slice (a1) (l.length) (c1)] 54,.blk b1 [.slice (kca) (c.kinds.length) (kcc),.int .i64 (c.cap)] 51]) (M.keep (Gle.refl _) (by simp)) (fun w h=>h.mono hGq23 (by simp))<|fun a F=>pt_act ?_ rfl ?_
      ·skip
       refine rl_callM F ent159 rfl rfl (own_spec M Sq23 (hol hins) (hmk hins hxe)) ?_;clear F M a;rintro _ Gq24 _ w a hGq24 M ⟨ao,cso,Lo,rfl,rfl,Eo⟩ F
       replace SC:=SC.mono mono_rdKind hGq24
       replace S:=S.mono mono_rdEnt hGq24
       replace T:=T.mono mono_rdItem hGq24
       replace Sq22:=Sq22.mono mono_rdEnt hGq24
       replace Sq23:=Sq23.mono mono_rdEnt hGq24
       have M:=M.perm (perm_mid (OWNR ao out.length cso::Lo) [.blk b4 [.slice none 0 0] 54,.blk b3 [.bool (ins),.int .i64 (cnt),.slice (ta) (xs.length) (tc),kv,mv] 207,.blk b2 [.slice (a1) (l.length) (c1)] 54,.blk b1 [.slice (kca) (c.kinds.length) (kcc),.int .i64 (c.cap)] 51] (Rn++L))
       change Mem w0 Gq24 (.blk b4 [.slice none 0 0] 54::.blk b3 [.bool (ins),.int .i64 (cnt),.slice (ta) (xs.length) (tc),kv,mv] 207::.blk b2 [.slice (a1) (l.length) (c1)] 54::.blk b1 [.slice (kca) (c.kinds.length) (kcc),.int .i64 (c.cap)] 51::((OWNR ao out.length cso::Lo)++(Rn++L))) _ at M
       revert a
       refine e_nil<|eK (C':=Keep Gq24 [.blk b4 [.slice none 0 0] 54,.blk b3 [.bool (ins),.int .i64 (cnt),.slice (ta) (xs.length) (tc),kv,mv] 207,.blk b2 [.slice (a1) (l.length) (c1)] 54,.blk b1 [.slice (kca) (c.kinds.length) (kcc),.int .i64 (c.cap)] 51]) (M.keep (Gle.refl _) (by simp)) (fun w h=>h.mono hGq24 (by simp))<|fun a F=>pt_act ?_ rfl pt_no
       revert a
       refine s_al M tok54 rfl rfl<|?_;clear M;intro b25 w M
       refine e_nil<|eK (C':=Keep Gq24 [.blk b4 [.slice none 0 0] 54,.blk b3 [.bool (ins),.int .i64 (cnt),.slice (ta) (xs.length) (tc),kv,mv] 207,.blk b2 [.slice (a1) (l.length) (c1)] 54,.blk b1 [.slice (kca) (c.kinds.length) (kcc),.int .i64 (c.cap)] 51]) (M.keep (Gle.refl _) (by simp)) (fun w h=>h.mono (Gle.refl _) (by simp))<|fun a F=>pt_act ?_ rfl pt_no
       refine rl_storeA F M tok54 (k:=0) rfl rfl rfl (us:=[.slice (ao) (out.length) (out.length)]) rfl rfl (by simp [Value.oneCell']) (by simp) ?_;clear F M a;intro w a M F
       change Mem w0 Gq24 (.blk b25 [.slice (ao) (out.length) (out.length)] 54::_::_::_::_::((OWNR ao out.length cso::Lo)++(Rn++L))) _ at M
       revert a
       refine e_nil<|eK (C':=Keep Gq24 [.blk b4 [.slice none 0 0] 54,.blk b3 [.bool (ins),.int .i64 (cnt),.slice (ta) (xs.length) (tc),kv,mv] 207,.blk b2 [.slice (a1) (l.length) (c1)] 54,.blk b1 [.slice (kca) (c.kinds.length) (kcc),.int .i64 (c.cap)] 51]) (M.keep (Gle.refl _) (by simp)) (fun w h=>h.mono (Gle.refl _) (by simp))<|t_fin<|e_tn<|e_seq<|e_seq<|e_reg<|e_run (fun a F=>run_loadA tok54 rfl (F.ev rfl) (cs:=[.slice (ao) (out.length) (out.length)]) rfl (M.cellsL (k:=0) rfl rfl)) rfl<|?_
       have M:=M.perm (perm_mid [.blk b25 [.slice (ao) (out.length) (out.length)] 54,.blk b4 [.slice none 0 0] 54,.blk b3 [.bool (ins),.int .i64 (cnt),.slice (ta) (xs.length) (tc),kv,mv] 207,.blk b2 [.slice (a1) (l.length) (c1)] 54,.blk b1 [.slice (kca) (c.kinds.length) (kcc),.int .i64 (c.cap)] 51] (OWNR ao out.length cso::Lo) (Rn++L))
       refine s_cS ent115 rfl rfl (over_own M Eo)<|?_;clear M;rintro _ w M rfl
       have M:=M.perm (perm_mid (OWNR ao out.length cso::Lo) [.blk b25 [.slice (ao) (out.length) (out.length)] 54,.blk b4 [.slice none 0 0] 54,.blk b3 [.bool (ins),.int .i64 (cnt),.slice (ta) (xs.length) (tc),kv,mv] 207,.blk b2 [.slice (a1) (l.length) (c1)] 54,.blk b1 [.slice (kca) (c.kinds.length) (kcc),.int .i64 (c.cap)] 51] (Rn++L))
       change Mem w0 Gq24 (.blk b25 [.slice (ao) (out.length) (out.length)] 54::.blk b4 [.slice none 0 0] 54::.blk b3 [.bool (ins),.int .i64 (cnt),.slice (ta) (xs.length) (tc),kv,mv] 207::.blk b2 [.slice (a1) (l.length) (c1)] 54::.blk b1 [.slice (kca) (c.kinds.length) (kcc),.int .i64 (c.cap)] 51::((OWNR ao out.length cso::Lo)++(Rn++L))) _ at M
       refine s_as rfl<|e_nil<|e_tn<|e_seq<|e_reg<|s_mv rfl<|s_ne rfl rfl<|e_nil<|e_tn<|e_cond rfl ?_ ?_
       ·intro hc
        have h27b:=hc;clear hc
        have h27:¬ (overE out=0):=of_decide_eq_false (of_not_t h27b)
        have h27c:(decide (overE out=0))=false:=(of_not_t h27b)
        refine e_seq<|e_reg<|e_run (fun a F=>run_buildS (cs:=[.slice none 0 0]) (ps:=[]) tok54.k rfl tok54 (F.evp rfl) rfl) rfl<|s_mv rfl<|fun a F=>?_
        refine rl_storeA F M tok54 (k:=1) rfl rfl rfl (us:=[.slice none 0 0]) rfl rfl (by simp [Value.oneCell']) (by simp) ?_;clear F M a;intro w a M F
        change Mem w0 Gq24 (.blk b25 [.slice (ao) (out.length) (out.length)] 54::.blk b4 [.slice none 0 0] 54::_::_::_::((OWNR ao out.length cso::Lo)++(Rn++L))) _ at M
        revert a
        refine s_as rfl<|e_nil<|e_tn<|e_ret<|e_tr<|fun a F=>fin_ct F M (k:=1) rfl rfl tok54 rfl rfl rfl rfl ?_
        exact ownR_none (do_o hck hins (by omega) hxe (by omega)) ((hGq22.trans hGq23).trans hGq24) (M.weaken (.cons _ (.cons _ (.cons _ (.cons _ (.cons _ ((List.sublist_append_right _ _).trans (List.sublist_append_right _ _))))))))
       ·intro hc
        have h28b:=hc;clear hc
        have h28:overE out=0:=of_decide_eq_true (of_not_f h28b)
        have h28c:(decide (overE out=0))=true:=(of_not_f h28b)
        refine e_skip<|e_tn<|e_seq<|e_reg<|e_run (fun a F=>run_loadA tok54 rfl (F.ev rfl) (cs:=[.slice (ao) (out.length) (out.length)]) rfl (M.cellsL (k:=0) rfl rfl)) rfl<|fun a F=>?_
        refine rl_storeA F M tok54 (k:=1) rfl rfl rfl (us:=[.slice (ao) (out.length) (out.length)]) rfl rfl (by simp [Value.oneCell']) (by simp) ?_;clear F M a;intro w a M F
        change Mem w0 Gq24 (.blk b25 [.slice (ao) (out.length) (out.length)] 54::.blk b4 [.slice (ao) (out.length) (out.length)] 54::_::_::_::((OWNR ao out.length cso::Lo)++(Rn++L))) _ at M
        revert a
        refine s_as rfl<|e_nil<|e_tn<|e_ret<|fun a F=>fin_ct F M (k:=1) rfl rfl tok54 rfl rfl rfl rfl ?_
        exact ⟨_,_,((hGq22.trans hGq23).trans hGq24),M.weaken (.cons _ (.cons _ (.cons _ (.cons _ (.cons _ (.cons_cons _ ((List.Sublist.refl Lo).append (List.sublist_append_right Rn L)))))))),ao,cso,Lo,by rw [do_0 hck hins (by omega) hxe (by omega)],by rw [do_0 hck hins (by omega) hxe (by omega)],by rw [do_0 hck hins (by omega) hxe (by omega)];exact Eo⟩
      refine pt_act ?_ rfl ?_
      ·skip
       revert a
       refine s_al M tok54 rfl rfl<|?_;clear M;intro b29 w M
       refine e_nil<|eK (C':=Keep Gq23 [.blk b4 [.slice none 0 0] 54,.blk b3 [.bool (ins),.int .i64 (cnt),.slice (ta) (xs.length) (tc),kv,mv] 207,.blk b2 [.slice (a1) (l.length) (c1)] 54,.blk b1 [.slice (kca) (c.kinds.length) (kcc),.int .i64 (c.cap)] 51]) (M.keep (Gle.refl _) (by simp)) (fun w h=>h.mono (Gle.refl _) (by simp))<|fun a F=>pt_act ?_ rfl pt_no
       refine rl_callM F ent159 rfl rfl (own_spec M Sq23 (hol hins) (hmk hins hxe)) ?_;clear F M a;rintro _ Gq31 _ w a hGq31 M ⟨ao,cso,Lo,rfl,rfl,Eo⟩ F
       replace SC:=SC.mono mono_rdKind hGq31
       replace S:=S.mono mono_rdEnt hGq31
       replace T:=T.mono mono_rdItem hGq31
       replace Sq22:=Sq22.mono mono_rdEnt hGq31
       replace Sq23:=Sq23.mono mono_rdEnt hGq31
       have M:=M.perm (perm_mid (OWNR ao out.length cso::Lo) [.blk b29 [.slice none 0 0] 54,.blk b4 [.slice none 0 0] 54,.blk b3 [.bool (ins),.int .i64 (cnt),.slice (ta) (xs.length) (tc),kv,mv] 207,.blk b2 [.slice (a1) (l.length) (c1)] 54,.blk b1 [.slice (kca) (c.kinds.length) (kcc),.int .i64 (c.cap)] 51] (Rn++L))
       change Mem w0 Gq31 (.blk b29 [.slice none 0 0] 54::.blk b4 [.slice none 0 0] 54::.blk b3 [.bool (ins),.int .i64 (cnt),.slice (ta) (xs.length) (tc),kv,mv] 207::.blk b2 [.slice (a1) (l.length) (c1)] 54::.blk b1 [.slice (kca) (c.kinds.length) (kcc),.int .i64 (c.cap)] 51::((OWNR ao out.length cso::Lo)++(Rn++L))) _ at M
       revert a
       refine e_nil<|eK (C':=Keep Gq31 [.blk b4 [.slice none 0 0] 54,.blk b3 [.bool (ins),.int .i64 (cnt),.slice (ta) (xs.length) (tc),kv,mv] 207,.blk b2 [.slice (a1) (l.length) (c1)] 54,.blk b1 [.slice (kca) (c.kinds.length) (kcc),.int .i64 (c.cap)] 51]) (M.keep (Gle.refl _) (by simp)) (fun w h=>h.mono hGq31 (by simp))<|fun a F=>pt_act ?_ rfl pt_no
       refine rl_storeA F M tok54 (k:=0) rfl rfl rfl (us:=[.slice (ao) (out.length) (out.length)]) rfl rfl (by simp [Value.oneCell']) (by simp) ?_;clear F M a;intro w a M F
       change Mem w0 Gq31 (.blk b29 [.slice (ao) (out.length) (out.length)] 54::_::_::_::_::((OWNR ao out.length cso::Lo)++(Rn++L))) _ at M
       revert a
       refine e_nil<|eK (C':=Keep Gq31 [.blk b4 [.slice none 0 0] 54,.blk b3 [.bool (ins),.int .i64 (cnt),.slice (ta) (xs.length) (tc),kv,mv] 207,.blk b2 [.slice (a1) (l.length) (c1)] 54,.blk b1 [.slice (kca) (c.kinds.length) (kcc),.int .i64 (c.cap)] 51]) (M.keep (Gle.refl _) (by simp)) (fun w h=>h.mono (Gle.refl _) (by simp))<|t_fin<|e_tn<|e_seq<|e_seq<|e_reg<|e_run (fun a F=>run_loadA tok54 rfl (F.ev rfl) (cs:=[.slice (ao) (out.length) (out.length)]) rfl (M.cellsL (k:=0) rfl rfl)) rfl<|?_
       have M:=M.perm (perm_mid [.blk b29 [.slice (ao) (out.length) (out.length)] 54,.blk b4 [.slice none 0 0] 54,.blk b3 [.bool (ins),.int .i64 (cnt),.slice (ta) (xs.length) (tc),kv,mv] 207,.blk b2 [.slice (a1) (l.length) (c1)] 54,.blk b1 [.slice (kca) (c.kinds.length) (kcc),.int .i64 (c.cap)] 51] (OWNR ao out.length cso::Lo) (Rn++L))
       refine s_cS ent115 rfl rfl (over_own M Eo)<|?_;clear M;rintro _ w M rfl
       have M:=M.perm (perm_mid (OWNR ao out.length cso::Lo) [.blk b29 [.slice (ao) (out.length) (out.length)] 54,.blk b4 [.slice none 0 0] 54,.blk b3 [.bool (ins),.int .i64 (cnt),.slice (ta) (xs.length) (tc),kv,mv] 207,.blk b2 [.slice (a1) (l.length) (c1)] 54,.blk b1 [.slice (kca) (c.kinds.length) (kcc),.int .i64 (c.cap)] 51] (Rn++L))
       change Mem w0 Gq31 (.blk b29 [.slice (ao) (out.length) (out.length)] 54::.blk b4 [.slice none 0 0] 54::.blk b3 [.bool (ins),.int .i64 (cnt),.slice (ta) (xs.length) (tc),kv,mv] 207::.blk b2 [.slice (a1) (l.length) (c1)] 54::.blk b1 [.slice (kca) (c.kinds.length) (kcc),.int .i64 (c.cap)] 51::((OWNR ao out.length cso::Lo)++(Rn++L))) _ at M
       refine s_as rfl<|e_nil<|e_tn<|e_seq<|e_reg<|s_mv rfl<|s_ne rfl rfl<|e_nil<|e_tn<|e_cond rfl ?_ ?_
       ·intro hc
        have h32b:=hc;clear hc
        have h32:¬ (overE out=0):=of_decide_eq_false (of_not_t h32b)
        have h32c:(decide (overE out=0))=false:=(of_not_t h32b)
        refine e_seq<|e_reg<|e_run (fun a F=>run_buildS (cs:=[.slice none 0 0]) (ps:=[]) tok54.k rfl tok54 (F.evp rfl) rfl) rfl<|s_mv rfl<|fun a F=>?_
        refine rl_storeA F M tok54 (k:=1) rfl rfl rfl (us:=[.slice none 0 0]) rfl rfl (by simp [Value.oneCell']) (by simp) ?_;clear F M a;intro w a M F
        change Mem w0 Gq31 (.blk b29 [.slice (ao) (out.length) (out.length)] 54::.blk b4 [.slice none 0 0] 54::_::_::_::((OWNR ao out.length cso::Lo)++(Rn++L))) _ at M
        revert a
        refine s_as rfl<|e_nil<|e_tn<|e_ret<|e_tr<|fun a F=>fin_ct F M (k:=1) rfl rfl tok54 rfl rfl rfl rfl ?_
        exact ownR_none (do_o hck hins (by omega) hxe (by omega)) ((hGq22.trans hGq23).trans hGq31) (M.weaken (.cons _ (.cons _ (.cons _ (.cons _ (.cons _ ((List.sublist_append_right _ _).trans (List.sublist_append_right _ _))))))))
       ·intro hc
        have h33b:=hc;clear hc
        have h33:overE out=0:=of_decide_eq_true (of_not_f h33b)
        have h33c:(decide (overE out=0))=true:=(of_not_f h33b)
        refine e_skip<|e_tn<|e_seq<|e_reg<|e_run (fun a F=>run_loadA tok54 rfl (F.ev rfl) (cs:=[.slice (ao) (out.length) (out.length)]) rfl (M.cellsL (k:=0) rfl rfl)) rfl<|fun a F=>?_
        refine rl_storeA F M tok54 (k:=1) rfl rfl rfl (us:=[.slice (ao) (out.length) (out.length)]) rfl rfl (by simp [Value.oneCell']) (by simp) ?_;clear F M a;intro w a M F
        change Mem w0 Gq31 (.blk b29 [.slice (ao) (out.length) (out.length)] 54::.blk b4 [.slice (ao) (out.length) (out.length)] 54::_::_::_::((OWNR ao out.length cso::Lo)++(Rn++L))) _ at M
        revert a
        refine s_as rfl<|e_nil<|e_tn<|e_ret<|fun a F=>fin_ct F M (k:=1) rfl rfl tok54 rfl rfl rfl rfl ?_
        exact ⟨_,_,((hGq22.trans hGq23).trans hGq31),M.weaken (.cons _ (.cons _ (.cons _ (.cons _ (.cons _ (.cons_cons _ ((List.Sublist.refl Lo).append (List.sublist_append_right Rn L)))))))),ao,cso,Lo,by rw [do_0 hck hins (by omega) hxe (by omega)],by rw [do_0 hck hins (by omega) hxe (by omega)],by rw [do_0 hck hins (by omega) hxe (by omega)];exact Eo⟩
      exact pt_no
     refine pt_act ?_ rfl ?_
     ·skip
      revert a
      refine s_al M tok54 rfl rfl<|?_;clear M;intro b34 w M
      refine e_nil<|eK (C':=Keep Gq22 [.blk b4 [.slice none 0 0] 54,.blk b3 [.bool (ins),.int .i64 (cnt),.slice (ta) (xs.length) (tc),kv,mv] 207,.blk b2 [.slice (a1) (l.length) (c1)] 54,.blk b1 [.slice (kca) (c.kinds.length) (kcc),.int .i64 (c.cap)] 51]) (M.keep (Gle.refl _) (by simp)) (fun w h=>h.mono (Gle.refl _) (by simp))<|fun a F=>pt_act ?_ rfl pt_no
      rw [hmv] at F
      refine rl_callvR F hEm (caps:=mc) rfl rfl rfl (hMc _ _ _ _ _ hGq22 M Sq22) ?_;clear F M a;rintro _ Gq36 w a hGq36 M ⟨aq36,cq36,rfl,Sq36⟩ F
      replace SC:=SC.mono mono_rdKind hGq36
      replace S:=S.mono mono_rdEnt hGq36
      replace T:=T.mono mono_rdItem hGq36
      replace Sq22:=Sq22.mono mono_rdEnt hGq36
      revert a
      refine e_nil<|eK (C':=Keep Gq36 [.blk b4 [.slice none 0 0] 54,.blk b3 [.bool (ins),.int .i64 (cnt),.slice (ta) (xs.length) (tc),kv,mv] 207,.blk b2 [.slice (a1) (l.length) (c1)] 54,.blk b1 [.slice (kca) (c.kinds.length) (kcc),.int .i64 (c.cap)] 51]) (M.keep (Gle.refl _) (by simp)) (fun w h=>h.mono hGq36 (by simp))<|fun a F=>pt_act ?_ rfl pt_no
      refine rl_callM F ent159 rfl rfl (own_spec M Sq36 (hol hins) (hmk hins hxe)) ?_;clear F M a;rintro _ Gq37 _ w a hGq37 M ⟨ao,cso,Lo,rfl,rfl,Eo⟩ F
      replace SC:=SC.mono mono_rdKind hGq37
      replace S:=S.mono mono_rdEnt hGq37
      replace T:=T.mono mono_rdItem hGq37
      replace Sq22:=Sq22.mono mono_rdEnt hGq37
      replace Sq36:=Sq36.mono mono_rdEnt hGq37
      have M:=M.perm (perm_mid (OWNR ao out.length cso::Lo) [.blk b34 [.slice none 0 0] 54,.blk b4 [.slice none 0 0] 54,.blk b3 [.bool (ins),.int .i64 (cnt),.slice (ta) (xs.length) (tc),kv,mv] 207,.blk b2 [.slice (a1) (l.length) (c1)] 54,.blk b1 [.slice (kca) (c.kinds.length) (kcc),.int .i64 (c.cap)] 51] (Rn++L))
      change Mem w0 Gq37 (.blk b34 [.slice none 0 0] 54::.blk b4 [.slice none 0 0] 54::.blk b3 [.bool (ins),.int .i64 (cnt),.slice (ta) (xs.length) (tc),kv,mv] 207::.blk b2 [.slice (a1) (l.length) (c1)] 54::.blk b1 [.slice (kca) (c.kinds.length) (kcc),.int .i64 (c.cap)] 51::((OWNR ao out.length cso::Lo)++(Rn++L))) _ at M
      revert a
      refine e_nil<|eK (C':=Keep Gq37 [.blk b4 [.slice none 0 0] 54,.blk b3 [.bool (ins),.int .i64 (cnt),.slice (ta) (xs.length) (tc),kv,mv] 207,.blk b2 [.slice (a1) (l.length) (c1)] 54,.blk b1 [.slice (kca) (c.kinds.length) (kcc),.int .i64 (c.cap)] 51]) (M.keep (Gle.refl _) (by simp)) (fun w h=>h.mono hGq37 (by simp))<|fun a F=>pt_act ?_ rfl pt_no
      refine rl_storeA F M tok54 (k:=0) rfl rfl rfl (us:=[.slice (ao) (out.length) (out.length)]) rfl rfl (by simp [Value.oneCell']) (by simp) ?_;clear F M a;intro w a M F
      change Mem w0 Gq37 (.blk b34 [.slice (ao) (out.length) (out.length)] 54::_::_::_::_::((OWNR ao out.length cso::Lo)++(Rn++L))) _ at M
      revert a
      refine e_nil<|eK (C':=Keep Gq37 [.blk b4 [.slice none 0 0] 54,.blk b3 [.bool (ins),.int .i64 (cnt),.slice (ta) (xs.length) (tc),kv,mv] 207,.blk b2 [.slice (a1) (l.length) (c1)] 54,.blk b1 [.slice (kca) (c.kinds.length) (kcc),.int .i64 (c.cap)] 51]) (M.keep (Gle.refl _) (by simp)) (fun w h=>h.mono (Gle.refl _) (by simp))<|t_fin<|e_tn<|e_seq<|e_seq<|e_reg<|e_run (fun a F=>run_loadA tok54 rfl (F.ev rfl) (cs:=[.slice (ao) (out.length) (out.length)]) rfl (M.cellsL (k:=0) rfl rfl)) rfl<|?_
      have M:=M.perm (perm_mid [.blk b34 [.slice (ao) (out.length) (out.length)] 54,.blk b4 [.slice none 0 0] 54,.blk b3 [.bool (ins),.int .i64 (cnt),.slice (ta) (xs.length) (tc),kv,mv] 207,.blk b2 [.slice (a1) (l.length) (c1)] 54,.blk b1 [.slice (kca) (c.kinds.length) (kcc),.int .i64 (c.cap)] 51] (OWNR ao out.length cso::Lo) (Rn++L))
      refine s_cS ent115 rfl rfl (over_own M Eo)<|?_;clear M;rintro _ w M rfl
      have M:=M.perm (perm_mid (OWNR ao out.length cso::Lo) [.blk b34 [.slice (ao) (out.length) (out.length)] 54,.blk b4 [.slice none 0 0] 54,.blk b3 [.bool (ins),.int .i64 (cnt),.slice (ta) (xs.length) (tc),kv,mv] 207,.blk b2 [.slice (a1) (l.length) (c1)] 54,.blk b1 [.slice (kca) (c.kinds.length) (kcc),.int .i64 (c.cap)] 51] (Rn++L))
      change Mem w0 Gq37 (.blk b34 [.slice (ao) (out.length) (out.length)] 54::.blk b4 [.slice none 0 0] 54::.blk b3 [.bool (ins),.int .i64 (cnt),.slice (ta) (xs.length) (tc),kv,mv] 207::.blk b2 [.slice (a1) (l.length) (c1)] 54::.blk b1 [.slice (kca) (c.kinds.length) (kcc),.int .i64 (c.cap)] 51::((OWNR ao out.length cso::Lo)++(Rn++L))) _ at M
      refine s_as rfl<|e_nil<|e_tn<|e_seq<|e_reg<|s_mv rfl<|s_ne rfl rfl<|e_nil<|e_tn<|e_cond rfl ?_ ?_
      ·intro hc
       have h38b:=hc;clear hc
       have h38:¬ (overE out=0):=of_decide_eq_false (of_not_t h38b)
       have h38c:(decide (overE out=0))=false:=(of_not_t h38b)
       refine e_seq<|e_reg<|e_run (fun a F=>run_buildS (cs:=[.slice none 0 0]) (ps:=[]) tok54.k rfl tok54 (F.evp rfl) rfl) rfl<|s_mv rfl<|fun a F=>?_
       refine rl_storeA F M tok54 (k:=1) rfl rfl rfl (us:=[.slice none 0 0]) rfl rfl (by simp [Value.oneCell']) (by simp) ?_;clear F M a;intro w a M F
       change Mem w0 Gq37 (.blk b34 [.slice (ao) (out.length) (out.length)] 54::.blk b4 [.slice none 0 0] 54::_::_::_::((OWNR ao out.length cso::Lo)++(Rn++L))) _ at M
       revert a
       refine s_as rfl<|e_nil<|e_tn<|e_ret<|e_tr<|fun a F=>fin_ct F M (k:=1) rfl rfl tok54 rfl rfl rfl rfl ?_
       exact ownR_none (do_o hck hins (by omega) hxe (by omega)) ((hGq22.trans hGq36).trans hGq37) (M.weaken (.cons _ (.cons _ (.cons _ (.cons _ (.cons _ ((List.sublist_append_right _ _).trans (List.sublist_append_right _ _))))))))
      ·intro hc
       have h39b:=hc;clear hc
       have h39:overE out=0:=of_decide_eq_true (of_not_f h39b)
       have h39c:(decide (overE out=0))=true:=(of_not_f h39b)
       refine e_skip<|e_tn<|e_seq<|e_reg<|e_run (fun a F=>run_loadA tok54 rfl (F.ev rfl) (cs:=[.slice (ao) (out.length) (out.length)]) rfl (M.cellsL (k:=0) rfl rfl)) rfl<|fun a F=>?_
       refine rl_storeA F M tok54 (k:=1) rfl rfl rfl (us:=[.slice (ao) (out.length) (out.length)]) rfl rfl (by simp [Value.oneCell']) (by simp) ?_;clear F M a;intro w a M F
       change Mem w0 Gq37 (.blk b34 [.slice (ao) (out.length) (out.length)] 54::.blk b4 [.slice (ao) (out.length) (out.length)] 54::_::_::_::((OWNR ao out.length cso::Lo)++(Rn++L))) _ at M
       revert a
       refine s_as rfl<|e_nil<|e_tn<|e_ret<|fun a F=>fin_ct F M (k:=1) rfl rfl tok54 rfl rfl rfl rfl ?_
       exact ⟨_,_,((hGq22.trans hGq36).trans hGq37),M.weaken (.cons _ (.cons _ (.cons _ (.cons _ (.cons _ (.cons_cons _ ((List.Sublist.refl Lo).append (List.sublist_append_right Rn L)))))))),ao,cso,Lo,by rw [do_0 hck hins (by omega) hxe (by omega)],by rw [do_0 hck hins (by omega) hxe (by omega)],by rw [do_0 hck hins (by omega) hxe (by omega)];exact Eo⟩
     exact pt_no
    refine pt_act ?_ rfl ?_
    ·skip
     revert a
     refine s_al M tok54 rfl rfl<|?_;clear M;intro b40 w M
     refine e_nil<|eK (C':=Keep G [.blk b4 [.slice none 0 0] 54,.blk b3 [.bool (ins),.int .i64 (cnt),.slice (ta) (xs.length) (tc),kv,mv] 207,.blk b2 [.slice (a1) (l.length) (c1)] 54,.blk b1 [.slice (kca) (c.kinds.length) (kcc),.int .i64 (c.cap)] 51]) (M.keep (Gle.refl _) (by simp)) (fun w h=>h.mono (Gle.refl _) (by simp))<|fun a F=>pt_act ?_ rfl pt_no
     revert a
     refine s_cR ent160 rfl rfl (fresh_spec (c:=c) (xs:=xs) M SC T (by omega) hxo)<|?_;clear M;rintro _ Gq42 w hGq42 M ⟨aq42,cq42,rfl,Sq42⟩
     replace SC:=SC.mono mono_rdKind hGq42
     replace S:=S.mono mono_rdEnt hGq42
     replace T:=T.mono mono_rdItem hGq42
     refine e_nil<|eK (C':=Keep Gq42 [.blk b4 [.slice none 0 0] 54,.blk b3 [.bool (ins),.int .i64 (cnt),.slice (ta) (xs.length) (tc),kv,mv] 207,.blk b2 [.slice (a1) (l.length) (c1)] 54,.blk b1 [.slice (kca) (c.kinds.length) (kcc),.int .i64 (c.cap)] 51]) (M.keep (Gle.refl _) (by simp)) (fun w h=>h.mono hGq42 (by simp))<|fun a F=>pt_act ?_ rfl pt_no
     rw [hmv] at F
     refine rl_callvR F hEm (caps:=mc) rfl rfl rfl (hMc _ _ _ _ _ hGq42 M Sq42) ?_;clear F M a;rintro _ Gq43 w a hGq43 M ⟨aq43,cq43,rfl,Sq43⟩ F
     replace SC:=SC.mono mono_rdKind hGq43
     replace S:=S.mono mono_rdEnt hGq43
     replace T:=T.mono mono_rdItem hGq43
     replace Sq42:=Sq42.mono mono_rdEnt hGq43
     revert a
     refine e_nil<|eK (C':=Keep Gq43 [.blk b4 [.slice none 0 0] 54,.blk b3 [.bool (ins),.int .i64 (cnt),.slice (ta) (xs.length) (tc),kv,mv] 207,.blk b2 [.slice (a1) (l.length) (c1)] 54,.blk b1 [.slice (kca) (c.kinds.length) (kcc),.int .i64 (c.cap)] 51]) (M.keep (Gle.refl _) (by simp)) (fun w h=>h.mono hGq43 (by simp))<|fun a F=>pt_act ?_ rfl pt_no
     refine rl_callM F ent159 rfl rfl (own_spec M Sq43 (hol hins) (hmk hins hxe)) ?_;clear F M a;rintro _ Gq44 _ w a hGq44 M ⟨ao,cso,Lo,rfl,rfl,Eo⟩ F
     replace SC:=SC.mono mono_rdKind hGq44
     replace S:=S.mono mono_rdEnt hGq44
     replace T:=T.mono mono_rdItem hGq44
     replace Sq42:=Sq42.mono mono_rdEnt hGq44
     replace Sq43:=Sq43.mono mono_rdEnt hGq44
     have M:=M.perm (perm_mid (OWNR ao out.length cso::Lo) [.blk b40 [.slice none 0 0] 54,.blk b4 [.slice none 0 0] 54,.blk b3 [.bool (ins),.int .i64 (cnt),.slice (ta) (xs.length) (tc),kv,mv] 207,.blk b2 [.slice (a1) (l.length) (c1)] 54,.blk b1 [.slice (kca) (c.kinds.length) (kcc),.int .i64 (c.cap)] 51] (Rn++L))
     change Mem w0 Gq44 (.blk b40 [.slice none 0 0] 54::.blk b4 [.slice none 0 0] 54::.blk b3 [.bool (ins),.int .i64 (cnt),.slice (ta) (xs.length) (tc),kv,mv] 207::.blk b2 [.slice (a1) (l.length) (c1)] 54::.blk b1 [.slice (kca) (c.kinds.length) (kcc),.int .i64 (c.cap)] 51::((OWNR ao out.length cso::Lo)++(Rn++L))) _ at M
     revert a
     refine e_nil<|eK (C':=Keep Gq44 [.blk b4 [.slice none 0 0] 54,.blk b3 [.bool (ins),.int .i64 (cnt),.slice (ta) (xs.length) (tc),kv,mv] 207,.blk b2 [.slice (a1) (l.length) (c1)] 54,.blk b1 [.slice (kca) (c.kinds.length) (kcc),.int .i64 (c.cap)] 51]) (M.keep (Gle.refl _) (by simp)) (fun w h=>h.mono hGq44 (by simp))<|fun a F=>pt_act ?_ rfl pt_no
     refine rl_storeA F M tok54 (k:=0) rfl rfl rfl (us:=[.slice (ao) (out.length) (out.length)]) rfl rfl (by simp [Value.oneCell']) (by simp) ?_;clear F M a;intro w a M F
     change Mem w0 Gq44 (.blk b40 [.slice (ao) (out.length) (out.length)] 54::_::_::_::_::((OWNR ao out.length cso::Lo)++(Rn++L))) _ at M
     revert a
     refine e_nil<|eK (C':=Keep Gq44 [.blk b4 [.slice none 0 0] 54,.blk b3 [.bool (ins),.int .i64 (cnt),.slice (ta) (xs.length) (tc),kv,mv] 207,.blk b2 [.slice (a1) (l.length) (c1)] 54,.blk b1 [.slice (kca) (c.kinds.length) (kcc),.int .i64 (c.cap)] 51]) (M.keep (Gle.refl _) (by simp)) (fun w h=>h.mono (Gle.refl _) (by simp))<|t_fin<|e_tn<|e_seq<|e_seq<|e_reg<|e_run (fun a F=>run_loadA tok54 rfl (F.ev rfl) (cs:=[.slice (ao) (out.length) (out.length)]) rfl (M.cellsL (k:=0) rfl rfl)) rfl<|?_
     have M:=M.perm (perm_mid [.blk b40 [.slice (ao) (out.length) (out.length)] 54,.blk b4 [.slice none 0 0] 54,.blk b3 [.bool (ins),.int .i64 (cnt),.slice (ta) (xs.length) (tc),kv,mv] 207,.blk b2 [.slice (a1) (l.length) (c1)] 54,.blk b1 [.slice (kca) (c.kinds.length) (kcc),.int .i64 (c.cap)] 51] (OWNR ao out.length cso::Lo) (Rn++L))
     refine s_cS ent115 rfl rfl (over_own M Eo)<|?_;clear M;rintro _ w M rfl
     have M:=M.perm (perm_mid (OWNR ao out.length cso::Lo) [.blk b40 [.slice (ao) (out.length) (out.length)] 54,.blk b4 [.slice none 0 0] 54,.blk b3 [.bool (ins),.int .i64 (cnt),.slice (ta) (xs.length) (tc),kv,mv] 207,.blk b2 [.slice (a1) (l.length) (c1)] 54,.blk b1 [.slice (kca) (c.kinds.length) (kcc),.int .i64 (c.cap)] 51] (Rn++L))
     change Mem w0 Gq44 (.blk b40 [.slice (ao) (out.length) (out.length)] 54::.blk b4 [.slice none 0 0] 54::.blk b3 [.bool (ins),.int .i64 (cnt),.slice (ta) (xs.length) (tc),kv,mv] 207::.blk b2 [.slice (a1) (l.length) (c1)] 54::.blk b1 [.slice (kca) (c.kinds.length) (kcc),.int .i64 (c.cap)] 51::((OWNR ao out.length cso::Lo)++(Rn++L))) _ at M
     refine s_as rfl<|e_nil<|e_tn<|e_seq<|e_reg<|s_mv rfl<|s_ne rfl rfl<|e_nil<|e_tn<|e_cond rfl ?_ ?_
     ·intro hc
      have h45b:=hc;clear hc
      have h45:¬ (overE out=0):=of_decide_eq_false (of_not_t h45b)
      have h45c:(decide (overE out=0))=false:=(of_not_t h45b)
      refine e_seq<|e_reg<|e_run (fun a F=>run_buildS (cs:=[.slice none 0 0]) (ps:=[]) tok54.k rfl tok54 (F.evp rfl) rfl) rfl<|s_mv rfl<|fun a F=>?_
      refine rl_storeA F M tok54 (k:=1) rfl rfl rfl (us:=[.slice none 0 0]) rfl rfl (by simp [Value.oneCell']) (by simp) ?_;clear F M a;intro w a M F
      change Mem w0 Gq44 (.blk b40 [.slice (ao) (out.length) (out.length)] 54::.blk b4 [.slice none 0 0] 54::_::_::_::((OWNR ao out.length cso::Lo)++(Rn++L))) _ at M
      revert a
      refine s_as rfl<|e_nil<|e_tn<|e_ret<|e_tr<|fun a F=>fin_ct F M (k:=1) rfl rfl tok54 rfl rfl rfl rfl ?_
      exact ownR_none (do_o hck hins (by omega) hxe (by omega)) ((hGq42.trans hGq43).trans hGq44) (M.weaken (.cons _ (.cons _ (.cons _ (.cons _ (.cons _ ((List.sublist_append_right _ _).trans (List.sublist_append_right _ _))))))))
     ·intro hc
      have h46b:=hc;clear hc
      have h46:overE out=0:=of_decide_eq_true (of_not_f h46b)
      have h46c:(decide (overE out=0))=true:=(of_not_f h46b)
      refine e_skip<|e_tn<|e_seq<|e_reg<|e_run (fun a F=>run_loadA tok54 rfl (F.ev rfl) (cs:=[.slice (ao) (out.length) (out.length)]) rfl (M.cellsL (k:=0) rfl rfl)) rfl<|fun a F=>?_
      refine rl_storeA F M tok54 (k:=1) rfl rfl rfl (us:=[.slice (ao) (out.length) (out.length)]) rfl rfl (by simp [Value.oneCell']) (by simp) ?_;clear F M a;intro w a M F
      change Mem w0 Gq44 (.blk b40 [.slice (ao) (out.length) (out.length)] 54::.blk b4 [.slice (ao) (out.length) (out.length)] 54::_::_::_::((OWNR ao out.length cso::Lo)++(Rn++L))) _ at M
      revert a
      refine s_as rfl<|e_nil<|e_tn<|e_ret<|fun a F=>fin_ct F M (k:=1) rfl rfl tok54 rfl rfl rfl rfl ?_
      exact ⟨_,_,((hGq42.trans hGq43).trans hGq44),M.weaken (.cons _ (.cons _ (.cons _ (.cons _ (.cons _ (.cons_cons _ ((List.Sublist.refl Lo).append (List.sublist_append_right Rn L)))))))),ao,cso,Lo,by rw [do_0 hck hins (by omega) hxe (by omega)],by rw [do_0 hck hins (by omega) hxe (by omega)],by rw [do_0 hck hins (by omega) hxe (by omega)];exact Eo⟩
    exact pt_no
open Go Go.Y Go.Proofs
set_option linter.unusedSimpArgs false
set_option linter.unusedVariables false
open Classical in
noncomputable def seenK (l:List EntD) (xs:List ItemD) (i:Nat):Int:=match xs[i]? with
 | some x=>if hasKey l x.key∨hasI (xs.take i) x.key then 8 else 0
 | none=>0
theorem seen_at {l:List EntD} {xs:List ItemD} {i:Nat} {x:ItemD} (h:xs[i]?=some x) [Decidable (hasKey l x.key∨hasI (xs.take i) x.key)]:seenK l xs i=if hasKey l x.key∨hasI (xs.take i) x.key then 8 else 0:=by
 unfold seenK;rw [h]
 by_cases hp:hasKey l x.key∨hasI (xs.take i) x.key
 ·simp only [hp,if_true]
 ·simp only [hp,if_false]
theorem in_inc {c:RulesD} {l:List EntD} {xs:List ItemD} (hc:ValidC c) (i:Nat):inAt c xs (seenK l xs) i=incAt c l xs i:=by
 classical
 cases hx:xs[i]? with
 | none=>unfold inAt incAt;rw [hx]
 | some x =>
  rw [in_at hx,inc_at hx,seen_at hx]
  by_cases h1:ItemOk (c.kinds.length:Int) x
  ·by_cases h2:hasKey l x.key∨hasI (xs.take i) x.key
   ·rw [if_pos h2,itemE_8 h1 h2,inE_k h1 (by decide)]
   ·rw [if_neg h2,inE_r h1 rfl]
    rcases ren_14 hc h1 with h3 | h3
    ·rw [itemE_0 h1 h2 h3,h3]
    ·rw [itemE_14 h1 h2 (by omega),h3]
  ·rw [inE_6 h1,itemE_6 h1]
theorem over_or (l:List EntD):overE l=0∨overE l=13:=by unfold overE;split <;> simp
theorem ins_do {c:RulesD} {l:List EntD} {z:Int} {xs:List ItemD} (h:checkE c l=0) :
  doR (checkE c l) (decide (InsideP z 0 l.length)) (((l.length+xs.length:Nat)):Int) (inAt c xs (seenK l xs)) xs.length (midL l z.toNat 0 (xs.map (freshF c)))=insR c l z xs:=by
 have hf:firstE (inAt c xs (seenK l xs)) xs.length=incE c l xs:=firstE_congr fun i _=>in_inc (check_ok h).1 i
 by_cases h1:InsideP z 0 l.length
 ·have d1:decide (InsideP z 0 l.length)=true:=decide_eq_true h1
  by_cases h2:1024 < l.length+xs.length
  ·rw [ins_3 h1 h2,do_3 h d1 (by omega)]
  ·by_cases h3:incE c l xs=0
   ·rcases over_or (midL l z.toNat 0 (xs.map (freshF c))) with h4 | h4
    ·rw [ins_0 h1 h2 h3 h4,do_0 h d1 (by omega) (by rw [hf,h3]) h4]
    ·rw [ins_13 h1 h2 h3 (by omega),do_o h d1 (by omega) (by rw [hf,h3]) (by omega),h4]
   ·rw [ins_e h1 h2 h3]
    unfold doR
    rw [if_neg (not_not_intro h),if_neg (by rw [d1];decide),if_neg (by omega),if_pos (by rw [hf];exact h3),hf]
 ·rw [ins_4 h1,do_4 h (decide_eq_false h1)]
theorem sumF_mid (l:List EntD) (p n:Nat) (fr:List EntD):sumF (midL l p n fr)=sumF (l.take p)+sumF fr+sumF (l.drop (p+n)):=by unfold midL;rw [sumF_app,sumF_app]
theorem sumF_cut (l:List EntD) (p n:Nat):sumF l=sumF (l.take p)+sumF ((l.drop p).take n)+sumF (l.drop (p+n)):=by
 have h1:=sumF_app (l.take p) (l.drop p)
 have h2:=sumF_app ((l.drop p).take n) ((l.drop p).drop n)
 rw [List.take_append_drop] at h1 h2
 rw [List.drop_drop] at h2
 omega
theorem over_rem {l:List EntD} {p n:Nat} (h:overE l=0):overE (midL l p n [])=0:=by
 rw [over_zero] at h ⊢
 have h1:=sumF_mid l p n []
 have h2:=sumF_cut l p n
 have h3:=sumF_nn ((l.drop p).take n)
 have h4:sumF []=0:=rfl
 omega
theorem over_mov {l:List EntD} {p n q:Nat} (h:overE l=0):overE (movL l p n q)=0:=by
 rw [over_zero] at h ⊢
 unfold movL
 have h1:=sumF_mid l p n []
 have h2:=sumF_cut l p n
 have h3:=sumF_mid (midL l p n []) q 0 ((l.drop p).take n)
 have h4:=sumF_app ((midL l p n []).take q) ((midL l p n []).drop q)
 rw [List.take_append_drop] at h4
 have h5:sumF []=0:=rfl
 rw [Nat.add_zero] at h3
 omega
theorem rem_do {c:RulesD} {l:List EntD} {z n:Int} {fK:Nat→Int} (h:checkE c l=0):doR (checkE c l) (decide (InsideP z n l.length)) 0 (inAt c [] fK) 0 (midL l z.toNat n.toNat [])=remR l z n:=by
 by_cases h1:InsideP z n l.length
 ·rw [rem_0 h1,do_0 h (decide_eq_true h1) (by decide) rfl (over_rem (check_ok h).2.2.2)]
 ·rw [rem_4 h1,do_4 h (decide_eq_false h1)]
theorem mov_do {c:RulesD} {l:List EntD} {z n b:Int} {fK:Nat→Int} {ins:Bool} (h:checkE c l=0) (hi:ins=true↔InsideP z n l.length∧InsideP b 0 (l.length - n)):doR (checkE c l) ins 0 (inAt c [] fK) 0 (movL l z.toNat n.toNat b.toNat)=movR l z n b:=by
 by_cases h1:InsideP z n l.length∧InsideP b 0 (l.length - n)
 ·rw [mov_0 h1,do_0 h (hi.2 h1) (by decide) rfl (over_mov (check_ok h).2.2.2)]
 ·rw [mov_4 h1,do_4 h (by cases ins with | true=>exact absurd (hi.1 rfl) h1 | false=>rfl)]
def otherN (l:List EntD) (p:Nat) (xs:List ItemD) (i:Nat):Int:=match xs[i]?,l[p+i]? with
 | some x,some y=>if y.item.key=x.key then 0 else 9
 | _,_=>0
theorem otherN_at {l:List EntD} {p:Nat} {xs:List ItemD} {i:Nat} {x:ItemD} {y:EntD} (hx:xs[i]?=some x) (hy:l[p+i]?=some y):otherN l p xs i=if y.item.key=x.key then 0 else 9:=by unfold otherN;rw [hx,hy]
theorem in_chg {c:RulesD} {l:List EntD} {p:Nat} {xs:List ItemD} (hc:ValidC c) (hp:p+xs.length≤l.length) (i:Nat):inAt c xs (otherN l p xs) i=chgAt c l p xs i:=by
 cases hx:xs[i]? with
 | none=>unfold inAt chgAt;rw [hx]
 | some x =>
  have hi:=lt_of_get hx
  obtain ⟨y,hy⟩:=get_of_lt (xs:=l) (i:=p+i) (by omega)
  rw [in_at hx,chg_at hx,otherN_at hx hy]
  by_cases h1:ItemOk (c.kinds.length:Int) x
  ·by_cases h2:y.item.key=x.key
   ·rw [if_pos h2,inE_r h1 rfl]
    have h5:¬ otherK l (p+i) x.key:=fun h=>(other_of hy).1 h h2
    rcases ren_14 hc h1 with h3 | h3
    ·rw [chgE_0 h1 h5 h3,h3]
    ·rw [chgE_14 h1 h5 (by omega),h3]
   ·rw [if_neg h2,inE_k h1 (by decide),chgE_9 h1 ((other_of hy).2 h2)]
  ·rw [inE_6 h1,chgE_6 h1]
theorem chg_do {c:RulesD} {l:List EntD} {z:Int} {xs:List ItemD} (h:checkE c l=0) :
  doR (checkE c l) (decide (InsideP z xs.length l.length)) 0 (inAt c xs (otherN l z.toNat xs)) xs.length (midL l z.toNat xs.length (xs.map (freshF c)))=chgR c l z xs:=by
 by_cases h1:InsideP z xs.length l.length
 ·have d1:decide (InsideP z xs.length l.length)=true:=decide_eq_true h1
  have h1':=h1
  unfold InsideP at h1'
  have hf:firstE (inAt c xs (otherN l z.toNat xs)) xs.length=firstE (chgAt c l z.toNat xs) xs.length:=firstE_congr fun i _=>in_chg (check_ok h).1 (by omega) i
  by_cases h3:firstE (chgAt c l z.toNat xs) xs.length=0
  ·rcases over_or (midL l z.toNat xs.length (xs.map (freshF c))) with h4 | h4
   ·rw [chg_0 h1 h3 h4,do_0 h d1 (by decide) (by rw [hf,h3]) h4]
   ·rw [chg_13 h1 h3 (by omega),do_o h d1 (by decide) (by rw [hf,h3]) (by omega),h4]
  ·unfold doR chgR
   rw [if_neg (not_not_intro h),if_neg (by rw [d1];decide),if_neg (by decide),if_pos (by rw [hf];exact h3),hf,if_neg (not_not_intro h1),if_pos h3]
 ·rw [chg_4 h1,do_4 h (decide_eq_false h1)]
/-! What an entry of a list that was made is, so that it can be copied -/
theorem mk_of {c:RulesD} {x:ItemD} (h:ItemOk (c.kinds.length:Int) x):x.marks.length≤1000000:=by have:=h.2.2.2.1;omega
theorem mid_mem {l:List EntD} {p n:Nat} {fr:List EntD} {x:EntD} (h:x∈midL l p n fr):x∈l∨x∈fr:=by
 unfold midL at h
 rcases List.mem_append.1 h with h | h
 ·rcases List.mem_append.1 h with h | h
  ·exact Or.inl (List.mem_of_mem_take h)
  ·exact Or.inr h
 ·exact Or.inl (List.mem_of_mem_drop h)
theorem mk_mid {c:RulesD} {l:List EntD} {p n:Nat} {xs:List ItemD} (h:checkE c l=0) (hx:∀ x∈xs,ItemOk (c.kinds.length:Int) x):∀ x∈midL l p n (xs.map (freshF c)),x.item.marks.length≤1000000:=by
 intro x hm
 rcases mid_mem hm with hm | hm
 ·exact mk_of (check_item h x hm)
 ·obtain ⟨y,hy,rfl⟩:=List.mem_map.1 hm
  exact mk_of (hx y hy)
theorem mk_rem {c:RulesD} {l:List EntD} {p n:Nat} (h:checkE c l=0):∀ x∈midL l p n [],x.item.marks.length≤1000000:=by
 intro x hm
 rcases mid_mem hm with hm | hm
 ·exact mk_of (check_item h x hm)
 ·simp at hm
theorem mk_mov {c:RulesD} {l:List EntD} {p n q:Nat} (h:checkE c l=0):∀ x∈movL l p n q,x.item.marks.length≤1000000:=by
 intro x hm
 unfold movL at hm
 rcases mid_mem hm with hm | hm
 ·exact mk_rem h x hm
 ·exact mk_of (check_item h x (List.mem_of_mem_drop (List.mem_of_mem_take hm)))
/-! The calls of 'do' -/
def seenR (l:List EntD) (xs:List ItemD) (b mb:Nat) (i:Nat) (R:List Res):Prop:=∃ (es:Array MapEntry) (cl:Nat) (ks:List Nat),R=[.blk b [.map (some mb)] 185,.obj mb (.map es cl)]∧SetIs es ks∧∀ q,q∈ks↔hasKey l q∨hasI (xs.take i) q
theorem seen_key {w0:World} {G0:Ghost} {l:List EntD} {xs:List ItemD} {b mb:Nat}:KeyC w0 G0 168 [.pointer (some ⟨b,0,none⟩)] xs (seenK l xs) (seenR l xs b mb):=by
 classical
 intro G L R w i x ma mc hG hx hR M hI SM
 obtain ⟨es,cl,ks,rfl,Es,hks⟩:=hR
 refine (unseen1_spec M Es hI SM (i:=(i:Int))).mono ?_
 rintro e w' h
 cases e with
 | returned v =>
  obtain ⟨L',M',es',cl',rfl,rfl,h3⟩:=h
  refine ⟨_,M',[.blk b [.map (some mb)] 185,.obj mb (.map es' cl')],by rw [seen_at hx];by_cases h4:x.key∈ks;(rw [if_pos h4,if_pos ((hks _).1 h4)]);(rw [if_neg h4,if_neg (fun h5=>h4 ((hks _).2 h5))]),rfl,fun h4=>?_⟩
  have h5:¬ x.key∈ks:=fun h6=>by rw [seen_at hx,if_pos ((hks _).1 h6)] at h4;cases h4
  refine ⟨es',cl',x.key::ks,rfl,h3 h5,fun q=>?_⟩
  rw [List.mem_cons,hks q,List.take_add_one,hx]
  constructor
  ·rintro (rfl | h6 | ⟨y,h6,h7⟩)
   ·exact Or.inr ⟨x,by simp,rfl⟩
   ·exact Or.inl h6
   ·exact Or.inr ⟨y,by simp [h6],h7⟩
  ·rintro (h6 | ⟨y,h6,h7⟩)
   ·exact Or.inr (Or.inl h6)
   ·simp only [Option.toList_some,List.mem_append,List.mem_singleton] at h6
    rcases h6 with h6 | rfl
    ·exact Or.inr (Or.inr ⟨y,h6,h7⟩)
    ·exact Or.inl h7.symm
 | panicked c=>exact h.elim
 | outgrown=>exact h.elim
theorem seenR_zero {l:List EntD} {xs:List ItemD} {b mb:Nat} {es:Array MapEntry} {cl:Nat} {ks:List Nat} (Es:SetIs es ks) (hks:∀ q,q∈ks↔hasKey l q):seenR l xs b mb 0 [.blk b [.map (some mb)] 185,.obj mb (.map es cl)] :=
 ⟨es,cl,ks,rfl,Es,fun q=>by rw [hks q];exact ⟨Or.inl,fun h=>by rcases h with h | ⟨y,hy,_⟩;exact h;simp at hy⟩⟩
theorem ins_call {w0 w:World} {G:Ghost} {L:List Res} {c:RulesD} {kca:Option Addr} {kcc:Nat} (SC:RdSl rdKind 9 G (.slice kca c.kinds.length kcc) c.kinds) {a1:Option Addr} {c1:Nat} {l:List EntD} (S:RdSl rdEnt 6 G (.slice a1 l.length c1) l) (hck:checkE c l=0) {ta:Option Addr} {tc:Nat} {xs:List ItemD} (T:RdSl rdItem 4 G (.slice ta xs.length tc) xs) {z:Int} {b mb b5 b6:Nat} {es:Array MapEntry} {cl:Nat} {ks:List Nat} (M:Mem w0 G (.blk b [.map (some mb)] 185::.obj mb (.map es cl)::L) w) (Es:SetIs es ks) (hks:∀ q,q∈ks↔hasKey l q)
  (A5:At G b5 0 [.slice a1 l.length c1]) (A6:At G b6 0 [.int .i64 z]) (hN:xs.length≤900000) :
  Calls Tryz.prog 116 #[.agg #[.slice (kca) (c.kinds.length) (kcc),.int .i64 (c.cap)],.agg #[.slice a1 l.length c1],.agg #[.bool (decide (InsideP z 0 l.length)),.int .i64 (((l.length+xs.length:Nat):Int)),.slice ta xs.length tc,.func (.func 168) #[] #[.pointer (some ⟨b,0,none⟩)],.func (.func 161) #[] #[.pointer (some ⟨b5,0,none⟩),.pointer (some ⟨b6,0,none⟩)]]] w (RetM w0 G (OwnR L (insR c l z xs))):=by
 have hl2:=(check_ok hck).2.1
 rw [← ins_do hck]
 refine do_spec (R:=[.blk b [.map (some mb)] 185,.obj mb (.map es cl)]) (Rk:=seenR l xs b mb) M SC S T hck (seenR_zero Es hks) (by omega) (fun _=>Or.inr ⟨168,[.pointer (some ⟨b,0,none⟩)],rfl,ent168,seen_key⟩) (fun hi _=>⟨161,[.pointer (some ⟨b5,0,none⟩),.pointer (some ⟨b6,0,none⟩)],rfl,ent161,?_⟩) (fun hi=>?_) (fun hi hx=>mk_mid hck (in_ok hx (Nat.le_refl _)))
 ·have hin:=of_decide_eq_true hi
  unfold InsideP at hin
  obtain ⟨p,rfl⟩:=Int.eq_ofNat_of_zero_le hin.1.1
  intro G2 L2 w2 a2 c2 hG M2 R2
  exact ins1_spec M2 (S.mono mono_rdEnt hG) (A5.mono hG) (A6.mono hG) R2 (by omega) (by omega) (by rw [List.length_map];omega)
 ·have hin:=of_decide_eq_true hi
  unfold InsideP at hin
  rw [midL_len (by omega),List.length_map];omega
theorem rem_call {w0 w:World} {G:Ghost} {L:List Res} {c:RulesD} {kca:Option Addr} {kcc:Nat} (SC:RdSl rdKind 9 G (.slice kca c.kinds.length kcc) c.kinds) {a1:Option Addr} {c1:Nat} {l:List EntD} (S:RdSl rdEnt 6 G (.slice a1 l.length c1) l) (hck:checkE c l=0) {z n:Int} {b5 b6 b7:Nat} (M:Mem w0 G L w) (A5:At G b5 0 [.slice a1 l.length c1]) (A6:At G b6 0 [.int .i64 z]) (A7:At G b7 0 [.int .i64 n]) :
  Calls Tryz.prog 116 #[.agg #[.slice (kca) (c.kinds.length) (kcc),.int .i64 (c.cap)],.agg #[.slice a1 l.length c1],.agg #[.bool (decide (InsideP z n l.length)),.int .i64 0,.slice none 0 0,.nilFunc,.func (.func 118) #[] #[.pointer (some ⟨b5,0,none⟩),.pointer (some ⟨b6,0,none⟩),.pointer (some ⟨b7,0,none⟩)]]] w (RetM w0 G (OwnR L (remR l z n))):=by
 have hl2:=(check_ok hck).2.1
 rw [← rem_do (fK:=fun _=>0) hck]
 refine do_spec (xs:=[]) (R:=[]) (Rk:=fun _ _=>True) M SC S RdSl.nil hck trivial (by decide) (fun _=>Or.inl rfl) (fun hi _=>⟨118,[.pointer (some ⟨b5,0,none⟩),.pointer (some ⟨b6,0,none⟩),.pointer (some ⟨b7,0,none⟩)],rfl,ent118,?_⟩) (fun hi=>?_) (fun hi hx=>mk_rem hck)
 ·have hin:=of_decide_eq_true hi
  unfold InsideP at hin
  obtain ⟨p,rfl⟩:=Int.eq_ofNat_of_zero_le hin.1.1
  obtain ⟨m,rfl⟩:=Int.eq_ofNat_of_zero_le hin.2.1
  intro G2 L2 w2 a2 c2 hG M2 R2
  exact rem1_spec M2 (S.mono mono_rdEnt hG) (A5.mono hG) (A6.mono hG) (A7.mono hG) R2 (by omega) (by omega)
 ·have hin:=of_decide_eq_true hi
  unfold InsideP at hin
  rw [midL_rest (by omega)];omega
theorem mov_call {w0 w:World} {G:Ghost} {L:List Res} {c:RulesD} {kca:Option Addr} {kcc:Nat} (SC:RdSl rdKind 9 G (.slice kca c.kinds.length kcc) c.kinds) {a1:Option Addr} {c1:Nat} {l:List EntD} (S:RdSl rdEnt 6 G (.slice a1 l.length c1) l) (hck:checkE c l=0) {z n q:Int} {b5 b6 b7 b8:Nat} {ins:Bool} (hi:ins=true↔InsideP z n l.length∧InsideP q 0 (l.length - n)) (M:Mem w0 G L w) (A5:At G b5 0 [.slice a1 l.length c1]) (A6:At G b6 0 [.int .i64 z]) (A7:At G b7 0 [.int .i64 n]) (A8:At G b8 0 [.int .i64 q]) :
  Calls Tryz.prog 116 #[.agg #[.slice (kca) (c.kinds.length) (kcc),.int .i64 (c.cap)],.agg #[.slice a1 l.length c1],.agg #[.bool (ins),.int .i64 0,.slice none 0 0,.nilFunc,.func (.func 162) #[] #[.pointer (some ⟨b5,0,none⟩),.pointer (some ⟨b6,0,none⟩),.pointer (some ⟨b7,0,none⟩),.pointer (some ⟨b8,0,none⟩)]]] w (RetM w0 G (OwnR L (movR l z n q))):=by
 have hl2:=(check_ok hck).2.1
 rw [← mov_do (fK:=fun _=>0) hck hi]
 refine do_spec (xs:=[]) (R:=[]) (Rk:=fun _ _=>True) M SC S RdSl.nil hck trivial (by decide) (fun _=>Or.inl rfl) (fun h _=>⟨162,[.pointer (some ⟨b5,0,none⟩),.pointer (some ⟨b6,0,none⟩),.pointer (some ⟨b7,0,none⟩),.pointer (some ⟨b8,0,none⟩)],rfl,ent162,?_⟩) (fun h=>?_) (fun _ hx=>mk_mov hck)
 ·have hin:=hi.1 h
  unfold InsideP at hin
  obtain ⟨p,rfl⟩:=Int.eq_ofNat_of_zero_le hin.1.1.1
  obtain ⟨m,rfl⟩:=Int.eq_ofNat_of_zero_le hin.1.2.1
  obtain ⟨k,rfl⟩:=Int.eq_ofNat_of_zero_le hin.2.1.1
  intro G2 L2 w2 a2 c2 hG M2 R2
  exact mov1_spec M2 (S.mono mono_rdEnt hG) (A5.mono hG) (A6.mono hG) (A7.mono hG) (A8.mono hG) R2 (by omega) (by omega) (by omega)
 ·have hin:=hi.1 h
  unfold InsideP at hin
  unfold movL
  have h5:=midL_rest (l:=l) (p:=z.toNat) (n:=n.toNat) (by omega)
  rw [midL_len (by omega),h5,List.length_take,List.length_drop];omega
theorem chg_call {w0 w:World} {G:Ghost} {L:List Res} {c:RulesD} {kca:Option Addr} {kcc:Nat} (SC:RdSl rdKind 9 G (.slice kca c.kinds.length kcc) c.kinds) {a1:Option Addr} {c1:Nat} {l:List EntD} (S:RdSl rdEnt 6 G (.slice a1 l.length c1) l) (hck:checkE c l=0) {ta:Option Addr} {tc:Nat} {xs:List ItemD} (T:RdSl rdItem 4 G (.slice ta xs.length tc) xs) {z:Int} {b5 b6 b9:Nat} (M:Mem w0 G L w) (A5:At G b5 0 [.slice a1 l.length c1]) (A6:At G b6 0 [.int .i64 z]) (A9:At G b9 0 [.slice ta xs.length tc]) (hN:xs.length≤900000) :
  Calls Tryz.prog 116 #[.agg #[.slice (kca) (c.kinds.length) (kcc),.int .i64 (c.cap)],.agg #[.slice a1 l.length c1],.agg #[.bool (decide (InsideP z xs.length l.length)),.int .i64 0,.slice ta xs.length tc,.func (.func 163) #[] #[.pointer (some ⟨b5,0,none⟩),.pointer (some ⟨b6,0,none⟩)],.func (.func 164) #[] #[.pointer (some ⟨b5,0,none⟩),.pointer (some ⟨b6,0,none⟩),.pointer (some ⟨b9,0,none⟩)]]] w (RetM w0 G (OwnR L (chgR c l z xs))):=by
 have hl2:=(check_ok hck).2.1
 rw [← chg_do hck]
 refine do_spec (R:=[]) (Rk:=fun _ R=>R=[]) M SC S T hck rfl (by omega) (fun hi=>Or.inr ⟨163,[.pointer (some ⟨b5,0,none⟩),.pointer (some ⟨b6,0,none⟩)],rfl,ent163,?_⟩) (fun hi _=>⟨164,[.pointer (some ⟨b5,0,none⟩),.pointer (some ⟨b6,0,none⟩),.pointer (some ⟨b9,0,none⟩)],rfl,ent164,?_⟩) (fun hi=>?_) (fun hi hx=>mk_mid hck (in_ok hx (Nat.le_refl _)))
 ·have hin:=of_decide_eq_true hi
  unfold InsideP at hin
  obtain ⟨p,rfl⟩:=Int.eq_ofNat_of_zero_le hin.1.1
  intro G2 L2 R2 w2 i x ma mc hG hx hR M2 hI SM
  subst hR
  obtain ⟨y,hy⟩:=get_of_lt (xs:=l) (i:=p+i) (by have:=lt_of_get hx;omega)
  refine (chg1_spec M2 (S.mono mono_rdEnt hG) (A5.mono hG) (A6.mono hG) hI SM hy (by omega)).mono ?_
  rintro e w' h
  cases e with
  | returned v=>exact ⟨_,h.1,[],by rw [h.2,Int.toNat_natCast,otherN_at hx hy],rfl,fun _=>rfl⟩
  | panicked c=>exact h.elim
  | outgrown=>exact h.elim
 ·have hin:=of_decide_eq_true hi
  unfold InsideP at hin
  obtain ⟨p,rfl⟩:=Int.eq_ofNat_of_zero_le hin.1.1
  intro G2 L2 w2 a2 c2 hG M2 R2
  exact chg2_spec M2 (S.mono mono_rdEnt hG) (A5.mono hG) (A6.mono hG) (T.mono mono_rdItem hG) (A9.mono hG) R2 (by omega) (by omega) (by rw [List.length_map];omega)
 ·have hin:=of_decide_eq_true hi
  unfold InsideP at hin
  rw [midL_len (by omega),List.length_map];omega
theorem res_eq {c:RulesD} {xs:List ItemD} (l:List EntD) (h:checkE c l=0):doR (checkE c l) true ((xs.length:Nat):Int) (inAt c xs (seenK [] xs)) xs.length (xs.map (freshF c))=insR c [] 0 xs:=by
 have hc:=(check_ok h).1
 have h9:checkE c []=0:=by rw [check_end hc (by decide) (i:=0) rfl (Nat.le_refl _)];rfl
 rw [← ins_do h9,h,h9,decide_eq_true (show InsideP 0 0 ([]:List EntD).length by decide)]
 have h1:midL [] (0:Int).toNat 0 (xs.map (freshF c))=xs.map (freshF c):=by simp [midL]
 rw [h1,show ([]:List EntD).length+xs.length=xs.length from Nat.zero_add _]
theorem res_call {w0 w:World} {G:Ghost} {L:List Res} {c:RulesD} {kca:Option Addr} {kcc:Nat} (SC:RdSl rdKind 9 G (.slice kca c.kinds.length kcc) c.kinds) {a1:Option Addr} {c1:Nat} {l:List EntD} (S:RdSl rdEnt 6 G (.slice a1 l.length c1) l) (hck:checkE c l=0) {ta:Option Addr} {tc:Nat} {xs:List ItemD} (T:RdSl rdItem 4 G (.slice ta xs.length tc) xs) {b mb:Nat} {es:Array MapEntry} {cl:Nat} {ks:List Nat} (M:Mem w0 G (.blk b [.map (some mb)] 185::.obj mb (.map es cl)::L) w) (Es:SetIs es ks) (hks:∀ q,q∈ks↔hasKey [] q) (hN:xs.length≤900000) :
  Calls Tryz.prog 116 #[.agg #[.slice (kca) (c.kinds.length) (kcc),.int .i64 (c.cap)],.agg #[.slice a1 l.length c1],.agg #[.bool (true),.int .i64 (((xs.length:Nat):Int)),.slice ta xs.length tc,.func (.func 168) #[] #[.pointer (some ⟨b,0,none⟩)],.func (.func 140) #[] #[]]] w (RetM w0 G (OwnR L (insR c [] 0 xs))):=by
 rw [← res_eq l hck]
 refine do_spec (R:=[.blk b [.map (some mb)] 185,.obj mb (.map es cl)]) (Rk:=seenR [] xs b mb) M SC S T hck (seenR_zero Es hks) (by omega) (fun _=>Or.inr ⟨168,[.pointer (some ⟨b,0,none⟩)],rfl,ent168,seen_key⟩) (fun hi _=>⟨140,[],rfl,ent140,?_⟩) (fun hi=>?_) (fun hi hx=>?_)
 ·intro G2 L2 w2 a2 c2 hG M2 R2
  exact res1_spec M2 R2
 ·rw [List.length_map];omega
 ·intro x hm
  obtain ⟨y,hy,rfl⟩:=List.mem_map.1 hm
  exact mk_of (in_ok hx (Nat.le_refl _) y hy)
end Go.Proofs.YtmmhmcplegpenaaGreatDoor
