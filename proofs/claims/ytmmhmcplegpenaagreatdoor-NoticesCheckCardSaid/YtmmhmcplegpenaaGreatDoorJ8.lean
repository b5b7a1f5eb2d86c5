/- The walks, part LJ. · Notices: what they are, what they do; lists stay valid. · The kinds of notices; a call of a function that a value holds. · The types and functions of the notices that the walks name. -/
import Derived.Test.YtmmhmcplegpenaaGreatDoorJ7
import Derived.Test.YtmmhmcplegpenaaGreatDoorJ5
namespace Go.Proofs.YtmmhmcplegpenaaGreatDoor
open Go Go.Y Go.Proofs
set_option linter.unusedSimpArgs false
set_option linter.unusedVariables false
theorem check_nil {c:RulesD} (h:ValidC c):checkE c []=0:=by
 rw [check_end h (by decide) (i:=0) rfl (Nat.le_refl _)];rfl
theorem linsert_spec {w0 w:World} {G:Ghost} {L:List Res} (M:Mem w0 G L w) {c:RulesD} {kca:Option Addr} {kcc:Nat} (SC:RdSl rdKind 9 G (.slice kca c.kinds.length kcc) c.kinds) {a1:Option Addr} {c1:Nat} {l:List EntD} (S:RdSl rdEnt 6 G (.slice a1 l.length c1) l) (hck:checkE c l=0) {z:Int} {ta:Option Addr} {tc:Nat} {xs:List ItemD} (T:RdSl rdItem 4 G (.slice ta xs.length tc) xs) (hN:xs.length≤900000):Calls Tryz.prog 123 #[.agg #[.slice (kca) (c.kinds.length) (kcc),.int .i64 (c.cap)],.agg #[.slice a1 l.length c1],.int .i64 z,.slice ta xs.length tc] w (RetM w0 G (OwnR L (insR c l z xs))):=by
 have bS:=S.bound
 have bT:=T.bound
 refine e_start (vs:=[_,_,_,_]) Tryz.func123 rfl (n:=32) rfl rfl<|e_seq<|e_reg<|s_bx M rfl rfl rfl<|?_;clear M;intro b1 w M
 refine s_bx M rfl rfl rfl<|?_;clear M;intro b2 w M
 refine s_bx M rfl rfl rfl<|?_;clear M;intro b3 w M
 refine s_al M tok54 rfl rfl<|?_;clear M;intro b4 w M
 refine s_as rfl<|e_nil<|e_tn<|e_seq<|?_
 obtain ⟨Gq6,hGq6,hbq6,M⟩:=M.freeze (k:=2) rfl
 have Aq6:At Gq6 b2 0 [.slice (a1) (l.length) (c1)]:=At.of_cells hbq6
 clear hbq6
 replace SC:=SC.mono mono_rdKind hGq6
 replace S:=S.mono mono_rdEnt hGq6
 replace T:=T.mono mono_rdItem hGq6
 change Mem w0 Gq6 (.blk b4 [.slice none 0 0] 54::.blk b3 [.int .i64 (z)] 3::.blk b1 [.slice (kca) (c.kinds.length) (kcc),.int .i64 (c.cap)] 51::L) _ at M
 obtain ⟨Gq7,hGq7,hbq7,M⟩:=M.freeze (k:=1) rfl
 have Aq7:At Gq7 b3 0 [.int .i64 (z)]:=At.of_cells hbq7
 clear hbq7
 replace SC:=SC.mono mono_rdKind hGq7
 replace S:=S.mono mono_rdEnt hGq7
 replace T:=T.mono mono_rdItem hGq7
 replace Aq6:=Aq6.mono hGq7
 change Mem w0 Gq7 (.blk b4 [.slice none 0 0] 54::.blk b1 [.slice (kca) (c.kinds.length) (kcc),.int .i64 (c.cap)] 51::L) _ at M
 intro a F
 refine w_plan [(true,0),(true,1),(true,2),(true,3),(true,4),(true,5),(true,7),(true,8),(true,9),(true,10),(true,11),(true,12),(true,13),(true,14),(true,15),(true,17),(false,6),(false,16),(true,18),(false,19),(true,20),(true,21),(false,22),(true,23)] (Keep Gq7 [.blk b1 [.slice (kca) (c.kinds.length) (kcc),.int .i64 (c.cap)] 51]) rfl (by kernel_rfl) (fun c a d v w h=>by cases d <;> exact h) ((M.drew _).keep (Gle.refl _) (by simp)) ?_
 replace M:=M.drew (w.drawn+1)
 revert a
 refine l_r (fun a F w M=>run_loadA tok51 rfl (F.ev rfl) (cs:=[.slice (kca) (c.kinds.length) (kcc),.int .i64 (c.cap)]) rfl (M.cellsL (k:=0) rfl rfl)) rfl<|l_r (fun a F w M=>run_loadA tok54 rfl (F.ev rfl) (cs:=[.slice (a1) (l.length) (c1)]) rfl (M.cellsA Aq6 0 (by omega) rfl)) rfl<|l_r (fun a F w M=>run_load1 (agf tok3 rfl) (F.ev rfl) (M.cellA Aq7 0 (by omega) rfl)) rfl<|l_r (fun a F w M=>x_fa tok54.k rfl F rfl) rfl<|l_r (fun a F w M=>run_load1 (agf tok52 rfl) (F.ev rfl) (M.cellA Aq6 0 rfl rfl)) rfl<|l_r (fun a F w M=>run_lenSl tok52.k (F.ev rfl)) rfl<|l_r (fun a F w M=>x_fa tok54.k rfl F rfl) rfl<|l_r (fun a F w M=>run_load1 (agf tok52 rfl) (F.ev rfl) (M.cellA Aq6 0 rfl rfl)) rfl<|l_r (fun a F w M=>run_lenSl tok52.k (F.ev rfl)) rfl<|l_r (fun a F w M=>x_mv F rfl) rfl<|l_r (fun a F w M=>run_lenSl tok22.k (F.ev rfl)) rfl<|l_r (fun a F w M=>run_addi (F.ev rfl) (F.ev rfl) (in_i64 (by (have h9_:=(check_ok hck).2.1;omega)) (by (have h9_:=(check_ok hck).2.1;omega)))) rfl<|l_r (fun a F w M=>x_mv F rfl) rfl<|l_r (fun a F w M=>x_fa tok54.k rfl F rfl) rfl<|l_r (fun a F w M=>run_load1 (agf tok52 rfl) (F.ev rfl) (M.cellA Aq6 0 rfl rfl)) rfl<|l_r (fun a F w M=>run_makeFunc (vs:=#[.pointer (some ⟨b2,0,none⟩),.pointer (some ⟨b3,0,none⟩)]) (by simp only [List.map_toArray,List.map_cons,List.map_nil,F.ev (x:=.tmp 5) rfl,F.ev (x:=.tmp 6) rfl])) rfl<|l_a rfl<|s_cS ent117 rfl rfl (within_spec (z:=z) (n:=0) (m:=((l.length:Nat):Int)) M (by omega))<|?_;clear M;rintro _ w M rfl
 refine e_nil<|eK (C':=Keep Gq7 [.blk b1 [.slice (kca) (c.kinds.length) (kcc),.int .i64 (c.cap)] 51]) (M.keep (Gle.refl _) (by simp)) (fun w h=>h.mono (Gle.refl _) (by simp))<|l_a rfl<|s_cL ent139 rfl rfl (unseen_spec (c:=c) (l:=l) M S hck)<|?_;clear M;rintro _ _ w M ⟨buu8,mbu8,esu8,clu8,ksu8,rfl,rfl,Esu8,hksu8⟩
 refine e_nil<|eK (C':=Keep Gq7 [.blk b1 [.slice (kca) (c.kinds.length) (kcc),.int .i64 (c.cap)] 51]) (M.keep (Gle.refl _) (by simp)) (fun w h=>h.mono (Gle.refl _) (by simp))<|l_r (fun a F w M=>run_buildS (cs:=[.bool (decide (InsideP z 0 (((l.length:Nat):Int)))),.int .i64 ((((l.length:Nat):Int))+(((xs.length:Nat):Int))),.slice (ta) (xs.length) (tc),.func (.func 168) #[] #[.pointer (some ⟨buu8,0,none⟩)],.func (.func 161) #[] #[.pointer (some ⟨b2,0,none⟩),.pointer (some ⟨b3,0,none⟩)]]) (ps:=[(0,.bool (decide (InsideP z 0 (((l.length:Nat):Int))))),(1,.int .i64 ((((l.length:Nat):Int))+(((xs.length:Nat):Int)))),(2,.slice (ta) (xs.length) (tc)),(3,.func (.func 168) #[] #[.pointer (some ⟨buu8,0,none⟩)]),(4,.func (.func 161) #[] #[.pointer (some ⟨b2,0,none⟩),.pointer (some ⟨b3,0,none⟩)])]) tok207.k rfl tok207 (F.evp rfl) rfl) rfl<|l_a rfl<|?_
 replace M:=M.perm (perm_front _ 1 _ rfl)
 replace M:=M.perm (perm_front _ 1 _ rfl)
 change Mem w0 Gq7 (_::_::_::_::L) _ at M
 intro a F
 refine rl_callM F ent116 rfl rfl (ins_call SC S hck T M Esu8 hksu8 Aq6 Aq7 hN) ?_;clear F M a;rintro _ Gq9 _ w a hGq9 M ⟨aoq9,csq9,Loq9,rfl,rfl,Eoq9⟩ F
 replace SC:=SC.mono mono_rdKind hGq9
 replace S:=S.mono mono_rdEnt hGq9
 replace T:=T.mono mono_rdItem hGq9
 replace Aq6:=Aq6.mono hGq9
 replace Aq7:=Aq7.mono hGq9
 have M:=M.perm (perm_mid (OWNR aoq9 (insR c l z xs).1.length csq9::Loq9) [.blk b4 [.slice none 0 0] 54,.blk b1 [.slice (kca) (c.kinds.length) (kcc),.int .i64 (c.cap)] 51] L)
 change Mem w0 Gq9 (.blk b4 [.slice none 0 0] 54::.blk b1 [.slice (kca) (c.kinds.length) (kcc),.int .i64 (c.cap)] 51::((OWNR aoq9 (insR c l z xs).1.length csq9::Loq9)++L)) _ at M
 revert a
 refine e_nil<|eK (C':=Keep Gq9 [.blk b1 [.slice (kca) (c.kinds.length) (kcc),.int .i64 (c.cap)] 51]) (M.keep (Gle.refl _) (by simp)) (fun w h=>h.mono hGq9 (by simp))<|l_r (fun a F w M=>run_extract (v:=.agg #[.slice (aoq9) ((insR c l z xs).1.length) ((insR c l z xs).1.length)]) (F.ev rfl) rfl) rfl<|l_r (fun a F w M=>run_extract (v:=.int .i64 ((insR c l z xs).2)) (F.ev rfl) rfl) rfl<|l_a rfl<|fun a F=>?_
 refine rl_storeA F M tok54 (k:=0) rfl rfl rfl (us:=[.slice (aoq9) ((insR c l z xs).1.length) ((insR c l z xs).1.length)]) rfl rfl (by simp [Value.oneCell']) (by simp) ?_;clear F M a;intro w a M F
 change Mem w0 Gq9 (.blk b4 [.slice (aoq9) ((insR c l z xs).1.length) ((insR c l z xs).1.length)] 54::_::((OWNR aoq9 (insR c l z xs).1.length csq9::Loq9)++L)) _ at M
 revert a
 refine e_nil<|eK (C':=Keep Gq9 [.blk b1 [.slice (kca) (c.kinds.length) (kcc),.int .i64 (c.cap)] 51]) (M.keep (Gle.refl _) (by simp)) (fun w h=>h.mono (Gle.refl _) (by simp))<|l_r (fun a F w M=>x_as F rfl) rfl<|l_nil<|e_tn<|e_ret<|fun a F=>fin_ct F M (k:=0) rfl rfl tok54 rfl rfl rfl rfl ?_
 exact ⟨_,_,((hGq6.trans hGq7).trans hGq9),M.weaken (.cons _ (.cons _ (List.Sublist.refl _))),aoq9,csq9,Loq9,rfl,rfl,Eoq9⟩
theorem lremove_spec {w0 w:World} {G:Ghost} {L:List Res} (M:Mem w0 G L w) {c:RulesD} {kca:Option Addr} {kcc:Nat} (SC:RdSl rdKind 9 G (.slice kca c.kinds.length kcc) c.kinds) {a1:Option Addr} {c1:Nat} {l:List EntD} (S:RdSl rdEnt 6 G (.slice a1 l.length c1) l) (hck:checkE c l=0) {z n:Int}:Calls Tryz.prog 69 #[.agg #[.slice (kca) (c.kinds.length) (kcc),.int .i64 (c.cap)],.agg #[.slice a1 l.length c1],.int .i64 z,.int .i64 n] w (RetM w0 G (OwnR L (remR l z n))):=by
 have bS:=S.bound
 refine e_start (vs:=[_,_,_,_]) Tryz.func69 rfl (n:=23) rfl rfl<|e_seq<|e_reg<|s_bx M rfl rfl rfl<|?_;clear M;intro b1 w M
 refine s_bx M rfl rfl rfl<|?_;clear M;intro b2 w M
 refine s_bx M rfl rfl rfl<|?_;clear M;intro b3 w M
 refine s_bx M rfl rfl rfl<|?_;clear M;intro b4 w M
 refine s_al M tok54 rfl rfl<|?_;clear M;intro b5 w M
 refine s_as rfl<|e_nil<|e_tn<|e_seq<|?_
 obtain ⟨Gq7,hGq7,hbq7,M⟩:=M.freeze (k:=3) rfl
 have Aq7:At Gq7 b2 0 [.slice (a1) (l.length) (c1)]:=At.of_cells hbq7
 clear hbq7
 replace SC:=SC.mono mono_rdKind hGq7
 replace S:=S.mono mono_rdEnt hGq7
 change Mem w0 Gq7 (.blk b5 [.slice none 0 0] 54::.blk b4 [.int .i64 (n)] 3::.blk b3 [.int .i64 (z)] 3::.blk b1 [.slice (kca) (c.kinds.length) (kcc),.int .i64 (c.cap)] 51::L) _ at M
 obtain ⟨Gq8,hGq8,hbq8,M⟩:=M.freeze (k:=2) rfl
 have Aq8:At Gq8 b3 0 [.int .i64 (z)]:=At.of_cells hbq8
 clear hbq8
 replace SC:=SC.mono mono_rdKind hGq8
 replace S:=S.mono mono_rdEnt hGq8
 replace Aq7:=Aq7.mono hGq8
 change Mem w0 Gq8 (.blk b5 [.slice none 0 0] 54::.blk b4 [.int .i64 (n)] 3::.blk b1 [.slice (kca) (c.kinds.length) (kcc),.int .i64 (c.cap)] 51::L) _ at M
 obtain ⟨Gq9,hGq9,hbq9,M⟩:=M.freeze (k:=1) rfl
 have Aq9:At Gq9 b4 0 [.int .i64 (n)]:=At.of_cells hbq9
 clear hbq9
 replace SC:=SC.mono mono_rdKind hGq9
 replace S:=S.mono mono_rdEnt hGq9
 replace Aq7:=Aq7.mono hGq9
 replace Aq8:=Aq8.mono hGq9
 change Mem w0 Gq9 (.blk b5 [.slice none 0 0] 54::.blk b1 [.slice (kca) (c.kinds.length) (kcc),.int .i64 (c.cap)] 51::L) _ at M
 intro a F
 refine w_plan [(true,0),(true,1),(true,2),(true,3),(true,4),(true,5),(true,6),(true,8),(false,7),(true,9),(false,10),(true,11),(true,12),(false,13),(true,14)] (Keep Gq9 [.blk b1 [.slice (kca) (c.kinds.length) (kcc),.int .i64 (c.cap)] 51]) rfl (by kernel_rfl) (fun c a d v w h=>by cases d <;> exact h) ((M.drew _).keep (Gle.refl _) (by simp)) ?_
 replace M:=M.drew (w.drawn+1)
 revert a
 refine l_r (fun a F w M=>run_loadA tok51 rfl (F.ev rfl) (cs:=[.slice (kca) (c.kinds.length) (kcc),.int .i64 (c.cap)]) rfl (M.cellsL (k:=0) rfl rfl)) rfl<|l_r (fun a F w M=>run_loadA tok54 rfl (F.ev rfl) (cs:=[.slice (a1) (l.length) (c1)]) rfl (M.cellsA Aq7 0 (by omega) rfl)) rfl<|l_r (fun a F w M=>run_load1 (agf tok3 rfl) (F.ev rfl) (M.cellA Aq8 0 (by omega) rfl)) rfl<|l_r (fun a F w M=>run_load1 (agf tok3 rfl) (F.ev rfl) (M.cellA Aq9 0 (by omega) rfl)) rfl<|l_r (fun a F w M=>x_fa tok54.k rfl F rfl) rfl<|l_r (fun a F w M=>run_load1 (agf tok52 rfl) (F.ev rfl) (M.cellA Aq7 0 rfl rfl)) rfl<|l_r (fun a F w M=>run_lenSl tok52.k (F.ev rfl)) rfl<|l_r (fun a F w M=>run_makeFunc (vs:=#[.pointer (some ⟨b2,0,none⟩),.pointer (some ⟨b3,0,none⟩),.pointer (some ⟨b4,0,none⟩)]) (by simp only [List.map_toArray,List.map_cons,List.map_nil,F.ev (x:=.tmp 5) rfl,F.ev (x:=.tmp 6) rfl,F.ev (x:=.tmp 7) rfl])) rfl<|l_a rfl<|s_cS ent117 rfl rfl (within_spec (z:=z) (n:=n) (m:=((l.length:Nat):Int)) M (by omega))<|?_;clear M;rintro _ w M rfl
 refine e_nil<|eK (C':=Keep Gq9 [.blk b1 [.slice (kca) (c.kinds.length) (kcc),.int .i64 (c.cap)] 51]) (M.keep (Gle.refl _) (by simp)) (fun w h=>h.mono (Gle.refl _) (by simp))<|l_r (fun a F w M=>run_buildS (cs:=[.bool (decide (InsideP z n (((l.length:Nat):Int)))),.int .i64 0,.slice none 0 0,.nilFunc,.func (.func 118) #[] #[.pointer (some ⟨b2,0,none⟩),.pointer (some ⟨b3,0,none⟩),.pointer (some ⟨b4,0,none⟩)]]) (ps:=[(0,.bool (decide (InsideP z n (((l.length:Nat):Int))))),(4,.func (.func 118) #[] #[.pointer (some ⟨b2,0,none⟩),.pointer (some ⟨b3,0,none⟩),.pointer (some ⟨b4,0,none⟩)])]) tok207.k rfl tok207 (F.evp rfl) rfl) rfl<|l_a rfl<|fun a F=>?_
 refine rl_callM F ent116 rfl rfl (rem_call SC S hck M Aq7 Aq8 Aq9) ?_;clear F M a;rintro _ Gq10 _ w a hGq10 M ⟨aoq10,csq10,Loq10,rfl,rfl,Eoq10⟩ F
 replace SC:=SC.mono mono_rdKind hGq10
 replace S:=S.mono mono_rdEnt hGq10
 replace Aq7:=Aq7.mono hGq10
 replace Aq8:=Aq8.mono hGq10
 replace Aq9:=Aq9.mono hGq10
 have M:=M.perm (perm_mid (OWNR aoq10 (remR l z n).1.length csq10::Loq10) [.blk b5 [.slice none 0 0] 54,.blk b1 [.slice (kca) (c.kinds.length) (kcc),.int .i64 (c.cap)] 51] L)
 change Mem w0 Gq10 (.blk b5 [.slice none 0 0] 54::.blk b1 [.slice (kca) (c.kinds.length) (kcc),.int .i64 (c.cap)] 51::((OWNR aoq10 (remR l z n).1.length csq10::Loq10)++L)) _ at M
 revert a
 refine e_nil<|eK (C':=Keep Gq10 [.blk b1 [.slice (kca) (c.kinds.length) (kcc),.int .i64 (c.cap)] 51]) (M.keep (Gle.refl _) (by simp)) (fun w h=>h.mono hGq10 (by simp))<|l_r (fun a F w M=>run_extract (v:=.agg #[.slice (aoq10) ((remR l z n).1.length) ((remR l z n).1.length)]) (F.ev rfl) rfl) rfl<|l_r (fun a F w M=>run_extract (v:=.int .i64 ((remR l z n).2)) (F.ev rfl) rfl) rfl<|l_a rfl<|fun a F=>?_
 refine rl_storeA F M tok54 (k:=0) rfl rfl rfl (us:=[.slice (aoq10) ((remR l z n).1.length) ((remR l z n).1.length)]) rfl rfl (by simp [Value.oneCell']) (by simp) ?_;clear F M a;intro w a M F
 change Mem w0 Gq10 (.blk b5 [.slice (aoq10) ((remR l z n).1.length) ((remR l z n).1.length)] 54::_::((OWNR aoq10 (remR l z n).1.length csq10::Loq10)++L)) _ at M
 revert a
 refine e_nil<|eK (C':=Keep Gq10 [.blk b1 [.slice (kca) (c.kinds.length) (kcc),.int .i64 (c.cap)] 51]) (M.keep (Gle.refl _) (by simp)) (fun w h=>h.mono (Gle.refl _) (by simp))<|l_r (fun a F w M=>x_as F rfl) rfl<|l_nil<|e_tn<|e_ret<|fun a F=>fin_ct F M (k:=0) rfl rfl tok54 rfl rfl rfl rfl ?_
 exact ⟨_,_,(((hGq7.trans hGq8).trans hGq9).trans hGq10),M.weaken (.cons _ (.cons _ (List.Sublist.refl _))),aoq10,csq10,Loq10,rfl,rfl,Eoq10⟩
theorem lmove_spec {w0 w:World} {G:Ghost} {L:List Res} (M:Mem w0 G L w) {c:RulesD} {kca:Option Addr} {kcc:Nat} (SC:RdSl rdKind 9 G (.slice kca c.kinds.length kcc) c.kinds) {a1:Option Addr} {c1:Nat} {l:List EntD} (S:RdSl rdEnt 6 G (.slice a1 l.length c1) l) (hck:checkE c l=0) {z n q:Int}:Calls Tryz.prog 126 #[.agg #[.slice (kca) (c.kinds.length) (kcc),.int .i64 (c.cap)],.agg #[.slice a1 l.length c1],.int .i64 z,.int .i64 n,.int .i64 q] w (RetM w0 G (OwnR L (movR l z n q))):=by
 have bS:=S.bound
 refine e_start (vs:=[_,_,_,_,_]) Tryz.func126 rfl (n:=36) rfl rfl<|e_seq<|e_reg<|s_bx M rfl rfl rfl<|?_;clear M;intro b1 w M
 refine s_bx M rfl rfl rfl<|?_;clear M;intro b2 w M
 refine s_bx M rfl rfl rfl<|?_;clear M;intro b3 w M
 refine s_bx M rfl rfl rfl<|?_;clear M;intro b4 w M
 refine s_bx M rfl rfl rfl<|?_;clear M;intro b5 w M
 refine s_al M tok54 rfl rfl<|?_;clear M;intro b6 w M
 refine s_as rfl<|e_nil<|e_tn<|e_seq<|?_
 obtain ⟨Gq8,hGq8,hbq8,M⟩:=M.freeze (k:=4) rfl
 have Aq8:At Gq8 b2 0 [.slice (a1) (l.length) (c1)]:=At.of_cells hbq8
 clear hbq8
 replace SC:=SC.mono mono_rdKind hGq8
 replace S:=S.mono mono_rdEnt hGq8
 change Mem w0 Gq8 (.blk b6 [.slice none 0 0] 54::.blk b5 [.int .i64 (q)] 3::.blk b4 [.int .i64 (n)] 3::.blk b3 [.int .i64 (z)] 3::.blk b1 [.slice (kca) (c.kinds.length) (kcc),.int .i64 (c.cap)] 51::L) _ at M
 obtain ⟨Gq9,hGq9,hbq9,M⟩:=M.freeze (k:=3) rfl
 have Aq9:At Gq9 b3 0 [.int .i64 (z)]:=At.of_cells hbq9
 clear hbq9
 replace SC:=SC.mono mono_rdKind hGq9
 replace S:=S.mono mono_rdEnt hGq9
 replace Aq8:=Aq8.mono hGq9
 change Mem w0 Gq9 (.blk b6 [.slice none 0 0] 54::.blk b5 [.int .i64 (q)] 3::.blk b4 [.int .i64 (n)] 3::.blk b1 [.slice (kca) (c.kinds.length) (kcc),.int .i64 (c.cap)] 51::L) _ at M
 obtain ⟨Gq10,hGq10,hbq10,M⟩:=M.freeze (k:=2) rfl
 have Aq10:At Gq10 b4 0 [.int .i64 (n)]:=At.of_cells hbq10
 clear hbq10
 replace SC:=SC.mono mono_rdKind hGq10
 replace S:=S.mono mono_rdEnt hGq10
 replace Aq8:=Aq8.mono hGq10
 replace Aq9:=Aq9.mono hGq10
 change Mem w0 Gq10 (.blk b6 [.slice none 0 0] 54::.blk b5 [.int .i64 (q)] 3::.blk b1 [.slice (kca) (c.kinds.length) (kcc),.int .i64 (c.cap)] 51::L) _ at M
 obtain ⟨Gq11,hGq11,hbq11,M⟩:=M.freeze (k:=1) rfl
 have Aq11:At Gq11 b5 0 [.int .i64 (q)]:=At.of_cells hbq11
 clear hbq11
 replace SC:=SC.mono mono_rdKind hGq11
 replace S:=S.mono mono_rdEnt hGq11
 replace Aq8:=Aq8.mono hGq11
 replace Aq9:=Aq9.mono hGq11
 replace Aq10:=Aq10.mono hGq11
 change Mem w0 Gq11 (.blk b6 [.slice none 0 0] 54::.blk b1 [.slice (kca) (c.kinds.length) (kcc),.int .i64 (c.cap)] 51::L) _ at M
 refine e_reg<|s_la tok3 M Aq9 0 rfl rfl (by omega) rfl<|s_la tok3 M Aq10 0 rfl rfl (by omega) rfl<|s_fa tok54.k rfl rfl<|s_la tok52 M Aq8 0 rfl rfl rfl rfl<|s_ls tok52.k rfl<|s_cS ent117 rfl rfl (within_spec (z:=z) (n:=n) (m:=((l.length:Nat):Int)) M (by omega))<|?_;clear M;rintro _ w M rfl
 refine s_as rfl<|e_nil<|e_tn<|e_seq<|fun a F=>w_plan2 [(.pure,0),(.pure,1),(.free,2),(.free,3),(.pure,4),(.free,5),(.pure,6),(.pure,7),(.pure,8),(.free,9),(.free,12),(.keep,10),(.free,11),(.free,13),(.keep,14),(.free,15),(.free,16),(.chg,17),(.free,18)] [17] (Keep Gq11 [.blk b1 [.slice (kca) (c.kinds.length) (kcc),.int .i64 (c.cap)] 51]) rfl (by kernel_rfl) (fun c a d v w h=>by cases d <;> exact h) ((M.drew _).keep (Gle.refl _) (by simp)) ?_
 replace M:=M.drew (w.drawn+1)
 revert a
 refine k_p (fun a F w M=>run_loadA tok51 rfl (F.ev rfl) (cs:=[.slice (kca) (c.kinds.length) (kcc),.int .i64 (c.cap)]) rfl (M.cellsL (k:=0) rfl rfl)) rfl<|k_p (fun a F w M=>run_loadA tok54 rfl (F.ev rfl) (cs:=[.slice (a1) (l.length) (c1)]) rfl (M.cellsA Aq8 0 (by omega) rfl)) rfl<|k_f (fun a F w _=>x_mv F rfl) rfl<|k_f (fun a F w _=>x_mv F rfl) rfl<|?_
 rcases Bool.eq_false_or_eq_true (decide (InsideP z n (((l.length:Nat):Int)))) with hc | hc
 ·skip
  have h12b:=hc;clear hc
  have h12:InsideP z n (((l.length:Nat):Int)):=of_decide_eq_true h12b
  have hin1:=h12
  unfold InsideP at hin1
  refine k_pg rfl h12b (fun a F w M=>run_load1 (agf tok3 rfl) (F.ev rfl) (M.cellA Aq11 0 (by omega) rfl))<|k_fg rfl h12b (fun a F w _=>x_fa tok54.k rfl F rfl)<|k_pg rfl h12b (fun a F w M=>run_load1 (agf tok52 rfl) (F.ev rfl) (M.cellA Aq8 0 rfl rfl))<|k_pg rfl h12b (fun a F w M=>run_lenSl tok52.k (F.ev rfl))<|k_pg rfl h12b (fun a F w M=>run_load1 (agf tok3 rfl) (F.ev rfl) (M.cellA Aq10 0 (by omega) rfl))<|k_fg rfl h12b (fun a F w _=>run_subi (F.ev rfl) (F.ev rfl) (in_i64 (by omega) (by omega)))<|k_f (fun a F w _=>run_makeFunc (vs:=#[.pointer (some ⟨b2,0,none⟩),.pointer (some ⟨b3,0,none⟩),.pointer (some ⟨b4,0,none⟩),.pointer (some ⟨b5,0,none⟩)]) (by simp only [List.map_toArray,List.map_cons,List.map_nil,F.ev (x:=.tmp 6) rfl,F.ev (x:=.tmp 7) rfl,F.ev (x:=.tmp 8) rfl,F.ev (x:=.tmp 9) rfl])) rfl<|fun a F=>pk_keep_g F rfl rfl h12b ?_
  revert a
  refine g_t rfl h12b<|s_cS ent117 rfl rfl (within_spec (z:=q) (n:=0) (m:=(((l.length:Nat):Int)) - n) M (by omega))<|?_;clear M;rintro _ w M rfl
  refine e_nil<|eK (C':=Keep Gq11 [.blk b1 [.slice (kca) (c.kinds.length) (kcc),.int .i64 (c.cap)] 51]) (M.keep (Gle.refl _) (by simp)) (fun w h=>h.mono (Gle.refl _) (by simp))<|k_f (fun a F w _=>x_pt F rfl h12b rfl) rfl<|k_f (fun a F w _=>run_buildS (cs:=[.bool (decide (InsideP q 0 ((((l.length:Nat):Int)) - n))),.int .i64 0,.slice none 0 0,.nilFunc,.func (.func 162) #[] #[.pointer (some ⟨b2,0,none⟩),.pointer (some ⟨b3,0,none⟩),.pointer (some ⟨b4,0,none⟩),.pointer (some ⟨b5,0,none⟩)]]) (ps:=[(0,.bool (decide (InsideP q 0 ((((l.length:Nat):Int)) - n)))),(4,.func (.func 162) #[] #[.pointer (some ⟨b2,0,none⟩),.pointer (some ⟨b3,0,none⟩),.pointer (some ⟨b4,0,none⟩),.pointer (some ⟨b5,0,none⟩)])]) tok207.k rfl tok207 (F.evp rfl) rfl) rfl<|k_k rfl<|fun a F=>?_
  refine rl_callM F ent116 rfl rfl (mov_call SC S hck ⟨fun h_=>⟨h12,of_decide_eq_true h_⟩,fun h_=>decide_eq_true h_.2⟩ M Aq8 Aq9 Aq10 Aq11) ?_;clear F M a;rintro _ Gq13 _ w a hGq13 M ⟨aoq13,csq13,Loq13,rfl,rfl,Eoq13⟩ F
  replace SC:=SC.mono mono_rdKind hGq13
  replace S:=S.mono mono_rdEnt hGq13
  replace Aq8:=Aq8.mono hGq13
  replace Aq9:=Aq9.mono hGq13
  replace Aq10:=Aq10.mono hGq13
  replace Aq11:=Aq11.mono hGq13
  have M:=M.perm (perm_mid (OWNR aoq13 (movR l z n q).1.length csq13::Loq13) [.blk b6 [.slice none 0 0] 54,.blk b1 [.slice (kca) (c.kinds.length) (kcc),.int .i64 (c.cap)] 51] L)
  change Mem w0 Gq13 (.blk b6 [.slice none 0 0] 54::.blk b1 [.slice (kca) (c.kinds.length) (kcc),.int .i64 (c.cap)] 51::((OWNR aoq13 (movR l z n q).1.length csq13::Loq13)++L)) _ at M
  revert a
  refine e_nil<|eK (C':=Keep Gq13 [.blk b1 [.slice (kca) (c.kinds.length) (kcc),.int .i64 (c.cap)] 51]) (M.keep (Gle.refl _) (by simp)) (fun w h=>h.mono hGq13 (by simp))<|k_f (fun a F w _=>run_extract (v:=.agg #[.slice (aoq13) ((movR l z n q).1.length) ((movR l z n q).1.length)]) (F.ev rfl) rfl) rfl<|k_f (fun a F w _=>run_extract (v:=.int .i64 ((movR l z n q).2)) (F.ev rfl) rfl) rfl<|k_c rfl<|fun a F=>?_
  refine rl_storeA F M tok54 (k:=0) rfl rfl rfl (us:=[.slice (aoq13) ((movR l z n q).1.length) ((movR l z n q).1.length)]) rfl rfl (by simp [Value.oneCell']) (by simp) ?_;clear F M a;intro w a M F
  change Mem w0 Gq13 (.blk b6 [.slice (aoq13) ((movR l z n q).1.length) ((movR l z n q).1.length)] 54::_::((OWNR aoq13 (movR l z n q).1.length csq13::Loq13)++L)) _ at M
  revert a
  refine e_nil<|fun a F=>⟨Keep Gq13 [.blk b6 [.slice (aoq13) ((movR l z n q).1.length) ((movR l z n q).1.length)] 54,.blk b1 [.slice (kca) (c.kinds.length) (kcc),.int .i64 (c.cap)] 51],M.keep (Gle.refl _) (by simp),?_⟩
  revert a
  refine k_f (fun a F w _=>x_as F rfl) rfl<|k_nil<|e_tn<|e_ret<|fun a F=>fin_ct F M (k:=0) rfl rfl tok54 rfl rfl rfl rfl ?_
  exact ⟨_,_,((((hGq8.trans hGq9).trans hGq10).trans hGq11).trans hGq13),M.weaken (.cons _ (.cons _ (List.Sublist.refl _))),aoq13,csq13,Loq13,rfl,rfl,Eoq13⟩
 ·skip
  have h14b:=hc;clear hc
  have h14:¬ (InsideP z n (((l.length:Nat):Int))):=of_decide_eq_false h14b
  refine k_s rfl h14b<|k_s rfl h14b<|k_s rfl h14b<|k_s rfl h14b<|k_s rfl h14b<|k_s rfl h14b<|k_f (fun a F w _=>run_makeFunc (vs:=#[.pointer (some ⟨b2,0,none⟩),.pointer (some ⟨b3,0,none⟩),.pointer (some ⟨b4,0,none⟩),.pointer (some ⟨b5,0,none⟩)]) (by simp only [List.map_toArray,List.map_cons,List.map_nil,F.ev (x:=.tmp 6) rfl,F.ev (x:=.tmp 7) rfl,F.ev (x:=.tmp 8) rfl,F.ev (x:=.tmp 9) rfl])) rfl<|k_s rfl h14b<|k_f (fun a F w _=>x_pf F rfl h14b rfl) rfl<|k_f (fun a F w _=>run_buildS (cs:=[.bool false,.int .i64 0,.slice none 0 0,.nilFunc,.func (.func 162) #[] #[.pointer (some ⟨b2,0,none⟩),.pointer (some ⟨b3,0,none⟩),.pointer (some ⟨b4,0,none⟩),.pointer (some ⟨b5,0,none⟩)]]) (ps:=[(0,.bool false),(4,.func (.func 162) #[] #[.pointer (some ⟨b2,0,none⟩),.pointer (some ⟨b3,0,none⟩),.pointer (some ⟨b4,0,none⟩),.pointer (some ⟨b5,0,none⟩)])]) tok207.k rfl tok207 (F.evp rfl) rfl) rfl<|k_k rfl<|fun a F=>?_
  refine rl_callM F ent116 rfl rfl (mov_call SC S hck ⟨fun h_=>(by cases h_),fun h_=>absurd h_.1 h14⟩ M Aq8 Aq9 Aq10 Aq11) ?_;clear F M a;rintro _ Gq15 _ w a hGq15 M ⟨aoq15,csq15,Loq15,rfl,rfl,Eoq15⟩ F
  replace SC:=SC.mono mono_rdKind hGq15
  replace S:=S.mono mono_rdEnt hGq15
  replace Aq8:=Aq8.mono hGq15
  replace Aq9:=Aq9.mono hGq15
  replace Aq10:=Aq10.mono hGq15
  replace Aq11:=Aq11.mono hGq15
  have M:=M.perm (perm_mid (OWNR aoq15 (movR l z n q).1.length csq15::Loq15) [.blk b6 [.slice none 0 0] 54,.blk b1 [.slice (kca) (c.kinds.length) (kcc),.int .i64 (c.cap)] 51] L)
  change Mem w0 Gq15 (.blk b6 [.slice none 0 0] 54::.blk b1 [.slice (kca) (c.kinds.length) (kcc),.int .i64 (c.cap)] 51::((OWNR aoq15 (movR l z n q).1.length csq15::Loq15)++L)) _ at M
  revert a
  refine e_nil<|eK (C':=Keep Gq15 [.blk b1 [.slice (kca) (c.kinds.length) (kcc),.int .i64 (c.cap)] 51]) (M.keep (Gle.refl _) (by simp)) (fun w h=>h.mono hGq15 (by simp))<|k_f (fun a F w _=>run_extract (v:=.agg #[.slice (aoq15) ((movR l z n q).1.length) ((movR l z n q).1.length)]) (F.ev rfl) rfl) rfl<|k_f (fun a F w _=>run_extract (v:=.int .i64 ((movR l z n q).2)) (F.ev rfl) rfl) rfl<|k_c rfl<|fun a F=>?_
  refine rl_storeA F M tok54 (k:=0) rfl rfl rfl (us:=[.slice (aoq15) ((movR l z n q).1.length) ((movR l z n q).1.length)]) rfl rfl (by simp [Value.oneCell']) (by simp) ?_;clear F M a;intro w a M F
  change Mem w0 Gq15 (.blk b6 [.slice (aoq15) ((movR l z n q).1.length) ((movR l z n q).1.length)] 54::_::((OWNR aoq15 (movR l z n q).1.length csq15::Loq15)++L)) _ at M
  revert a
  refine e_nil<|fun a F=>⟨Keep Gq15 [.blk b6 [.slice (aoq15) ((movR l z n q).1.length) ((movR l z n q).1.length)] 54,.blk b1 [.slice (kca) (c.kinds.length) (kcc),.int .i64 (c.cap)] 51],M.keep (Gle.refl _) (by simp),?_⟩
  revert a
  refine k_f (fun a F w _=>x_as F rfl) rfl<|k_nil<|e_tn<|e_ret<|fun a F=>fin_ct F M (k:=0) rfl rfl tok54 rfl rfl rfl rfl ?_
  exact ⟨_,_,((((hGq8.trans hGq9).trans hGq10).trans hGq11).trans hGq15),M.weaken (.cons _ (.cons _ (List.Sublist.refl _))),aoq15,csq15,Loq15,rfl,rfl,Eoq15⟩
theorem lchange_spec {w0 w:World} {G:Ghost} {L:List Res} (M:Mem w0 G L w) {c:RulesD} {kca:Option Addr} {kcc:Nat} (SC:RdSl rdKind 9 G (.slice kca c.kinds.length kcc) c.kinds) {a1:Option Addr} {c1:Nat} {l:List EntD} (S:RdSl rdEnt 6 G (.slice a1 l.length c1) l) (hck:checkE c l=0) {z:Int} {ta:Option Addr} {tc:Nat} {xs:List ItemD} (T:RdSl rdItem 4 G (.slice ta xs.length tc) xs) (hN:xs.length≤900000):Calls Tryz.prog 128 #[.agg #[.slice (kca) (c.kinds.length) (kcc),.int .i64 (c.cap)],.agg #[.slice a1 l.length c1],.int .i64 z,.slice ta xs.length tc] w (RetM w0 G (OwnR L (chgR c l z xs))):=by
 have bS:=S.bound
 have bT:=T.bound
 refine e_start (vs:=[_,_,_,_]) Tryz.func128 rfl (n:=28) rfl rfl<|e_seq<|e_reg<|s_bx M rfl rfl rfl<|?_;clear M;intro b1 w M
 refine s_bx M rfl rfl rfl<|?_;clear M;intro b2 w M
 refine s_bx M rfl rfl rfl<|?_;clear M;intro b3 w M
 refine s_bx M rfl rfl rfl<|?_;clear M;intro b4 w M
 refine s_al M tok54 rfl rfl<|?_;clear M;intro b5 w M
 refine s_as rfl<|e_nil<|e_tn<|e_seq<|?_
 obtain ⟨Gq7,hGq7,hbq7,M⟩:=M.freeze (k:=3) rfl
 have Aq7:At Gq7 b2 0 [.slice (a1) (l.length) (c1)]:=At.of_cells hbq7
 clear hbq7
 replace SC:=SC.mono mono_rdKind hGq7
 replace S:=S.mono mono_rdEnt hGq7
 replace T:=T.mono mono_rdItem hGq7
 change Mem w0 Gq7 (.blk b5 [.slice none 0 0] 54::.blk b4 [.slice (ta) (xs.length) (tc)] 22::.blk b3 [.int .i64 (z)] 3::.blk b1 [.slice (kca) (c.kinds.length) (kcc),.int .i64 (c.cap)] 51::L) _ at M
 obtain ⟨Gq8,hGq8,hbq8,M⟩:=M.freeze (k:=2) rfl
 have Aq8:At Gq8 b3 0 [.int .i64 (z)]:=At.of_cells hbq8
 clear hbq8
 replace SC:=SC.mono mono_rdKind hGq8
 replace S:=S.mono mono_rdEnt hGq8
 replace T:=T.mono mono_rdItem hGq8
 replace Aq7:=Aq7.mono hGq8
 change Mem w0 Gq8 (.blk b5 [.slice none 0 0] 54::.blk b4 [.slice (ta) (xs.length) (tc)] 22::.blk b1 [.slice (kca) (c.kinds.length) (kcc),.int .i64 (c.cap)] 51::L) _ at M
 obtain ⟨Gq9,hGq9,hbq9,M⟩:=M.freeze (k:=1) rfl
 have Aq9:At Gq9 b4 0 [.slice (ta) (xs.length) (tc)]:=At.of_cells hbq9
 clear hbq9
 replace SC:=SC.mono mono_rdKind hGq9
 replace S:=S.mono mono_rdEnt hGq9
 replace T:=T.mono mono_rdItem hGq9
 replace Aq7:=Aq7.mono hGq9
 replace Aq8:=Aq8.mono hGq9
 change Mem w0 Gq9 (.blk b5 [.slice none 0 0] 54::.blk b1 [.slice (kca) (c.kinds.length) (kcc),.int .i64 (c.cap)] 51::L) _ at M
 refine e_reg<|e_run (fun a F=>run_makeFunc (vs:=#[.pointer (some ⟨b2,0,none⟩),.pointer (some ⟨b3,0,none⟩)]) (by simp only [List.map_toArray,List.map_cons,List.map_nil,F.ev (x:=.tmp 5) rfl,F.ev (x:=.tmp 6) rfl])) rfl<|s_as rfl<|e_nil<|e_tn<|e_seq<|fun a F=>w_plan [(true,0),(true,1),(true,2),(true,3),(true,4),(true,5),(true,6),(true,7),(true,9),(true,10),(true,11),(false,8),(true,12),(false,13),(true,14),(true,15),(false,16),(true,17)] (Keep Gq9 [.blk b1 [.slice (kca) (c.kinds.length) (kcc),.int .i64 (c.cap)] 51]) rfl (by kernel_rfl) (fun c a d v w h=>by cases d <;> exact h) ((M.drew _).keep (Gle.refl _) (by simp)) ?_
 replace M:=M.drew (w.drawn+1)
 revert a
 refine l_r (fun a F w M=>run_loadA tok51 rfl (F.ev rfl) (cs:=[.slice (kca) (c.kinds.length) (kcc),.int .i64 (c.cap)]) rfl (M.cellsL (k:=0) rfl rfl)) rfl<|l_r (fun a F w M=>run_loadA tok54 rfl (F.ev rfl) (cs:=[.slice (a1) (l.length) (c1)]) rfl (M.cellsA Aq7 0 (by omega) rfl)) rfl<|l_r (fun a F w M=>run_load1 (agf tok3 rfl) (F.ev rfl) (M.cellA Aq8 0 (by omega) rfl)) rfl<|l_r (fun a F w M=>run_load1 (agf tok22 rfl) (F.ev rfl) (M.cellA Aq9 0 (by omega) rfl)) rfl<|l_r (fun a F w M=>run_lenSl tok22.k (F.ev rfl)) rfl<|l_r (fun a F w M=>x_fa tok54.k rfl F rfl) rfl<|l_r (fun a F w M=>run_load1 (agf tok52 rfl) (F.ev rfl) (M.cellA Aq7 0 rfl rfl)) rfl<|l_r (fun a F w M=>run_lenSl tok52.k (F.ev rfl)) rfl<|l_r (fun a F w M=>run_load1 (agf tok22 rfl) (F.ev rfl) (M.cellA Aq9 0 (by omega) rfl)) rfl<|l_r (fun a F w M=>x_mv F rfl) rfl<|l_r (fun a F w M=>run_makeFunc (vs:=#[.pointer (some ⟨b2,0,none⟩),.pointer (some ⟨b3,0,none⟩),.pointer (some ⟨b4,0,none⟩)]) (by simp only [List.map_toArray,List.map_cons,List.map_nil,F.ev (x:=.tmp 5) rfl,F.ev (x:=.tmp 6) rfl,F.ev (x:=.tmp 7) rfl])) rfl<|l_a rfl<|s_cS ent117 rfl rfl (within_spec (z:=z) (n:=((xs.length:Nat):Int)) (m:=((l.length:Nat):Int)) M (by omega))<|?_;clear M;rintro _ w M rfl
 refine e_nil<|eK (C':=Keep Gq9 [.blk b1 [.slice (kca) (c.kinds.length) (kcc),.int .i64 (c.cap)] 51]) (M.keep (Gle.refl _) (by simp)) (fun w h=>h.mono (Gle.refl _) (by simp))<|l_r (fun a F w M=>run_buildS (cs:=[.bool (decide (InsideP z (((xs.length:Nat):Int)) (((l.length:Nat):Int)))),.int .i64 0,.slice (ta) (xs.length) (tc),.func (.func 163) #[] #[.pointer (some ⟨b2,0,none⟩),.pointer (some ⟨b3,0,none⟩)],.func (.func 164) #[] #[.pointer (some ⟨b2,0,none⟩),.pointer (some ⟨b3,0,none⟩),.pointer (some ⟨b4,0,none⟩)]]) (ps:=[(0,.bool (decide (InsideP z (((xs.length:Nat):Int)) (((l.length:Nat):Int))))),(1,.int .i64 0),(2,.slice (ta) (xs.length) (tc)),(3,.func (.func 163) #[] #[.pointer (some ⟨b2,0,none⟩),.pointer (some ⟨b3,0,none⟩)]),(4,.func (.func 164) #[] #[.pointer (some ⟨b2,0,none⟩),.pointer (some ⟨b3,0,none⟩),.pointer (some ⟨b4,0,none⟩)])]) tok207.k rfl tok207 (F.evp rfl) rfl) rfl<|l_a rfl<|fun a F=>?_
 refine rl_callM F ent116 rfl rfl (chg_call SC S hck T M Aq7 Aq8 Aq9 hN) ?_;clear F M a;rintro _ Gq10 _ w a hGq10 M ⟨aoq10,csq10,Loq10,rfl,rfl,Eoq10⟩ F
 replace SC:=SC.mono mono_rdKind hGq10
 replace S:=S.mono mono_rdEnt hGq10
 replace T:=T.mono mono_rdItem hGq10
 replace Aq7:=Aq7.mono hGq10
 replace Aq8:=Aq8.mono hGq10
 replace Aq9:=Aq9.mono hGq10
 have M:=M.perm (perm_mid (OWNR aoq10 (chgR c l z xs).1.length csq10::Loq10) [.blk b5 [.slice none 0 0] 54,.blk b1 [.slice (kca) (c.kinds.length) (kcc),.int .i64 (c.cap)] 51] L)
 change Mem w0 Gq10 (.blk b5 [.slice none 0 0] 54::.blk b1 [.slice (kca) (c.kinds.length) (kcc),.int .i64 (c.cap)] 51::((OWNR aoq10 (chgR c l z xs).1.length csq10::Loq10)++L)) _ at M
 revert a
 refine e_nil<|eK (C':=Keep Gq10 [.blk b1 [.slice (kca) (c.kinds.length) (kcc),.int .i64 (c.cap)] 51]) (M.keep (Gle.refl _) (by simp)) (fun w h=>h.mono hGq10 (by simp))<|l_r (fun a F w M=>run_extract (v:=.agg #[.slice (aoq10) ((chgR c l z xs).1.length) ((chgR c l z xs).1.length)]) (F.ev rfl) rfl) rfl<|l_r (fun a F w M=>run_extract (v:=.int .i64 ((chgR c l z xs).2)) (F.ev rfl) rfl) rfl<|l_a rfl<|fun a F=>?_
 refine rl_storeA F M tok54 (k:=0) rfl rfl rfl (us:=[.slice (aoq10) ((chgR c l z xs).1.length) ((chgR c l z xs).1.length)]) rfl rfl (by simp [Value.oneCell']) (by simp) ?_;clear F M a;intro w a M F
 change Mem w0 Gq10 (.blk b5 [.slice (aoq10) ((chgR c l z xs).1.length) ((chgR c l z xs).1.length)] 54::_::((OWNR aoq10 (chgR c l z xs).1.length csq10::Loq10)++L)) _ at M
 revert a
 refine e_nil<|eK (C':=Keep Gq10 [.blk b1 [.slice (kca) (c.kinds.length) (kcc),.int .i64 (c.cap)] 51]) (M.keep (Gle.refl _) (by simp)) (fun w h=>h.mono (Gle.refl _) (by simp))<|l_r (fun a F w M=>x_as F rfl) rfl<|l_nil<|e_tn<|e_ret<|fun a F=>fin_ct F M (k:=0) rfl rfl tok54 rfl rfl rfl rfl ?_
 exact ⟨_,_,(((hGq7.trans hGq8).trans hGq9).trans hGq10),M.weaken (.cons _ (.cons _ (List.Sublist.refl _))),aoq10,csq10,Loq10,rfl,rfl,Eoq10⟩
theorem lreset_spec {w0 w:World} {G:Ghost} {L:List Res} (M:Mem w0 G L w) {c:RulesD} {kca:Option Addr} {kcc:Nat} (SC:RdSl rdKind 9 G (.slice kca c.kinds.length kcc) c.kinds) {a1:Option Addr} {c1:Nat} {l:List EntD} (S:RdSl rdEnt 6 G (.slice a1 l.length c1) l) (hck:checkE c l=0) {ta:Option Addr} {tc:Nat} {xs:List ItemD} (T:RdSl rdItem 4 G (.slice ta xs.length tc) xs) (hN:xs.length≤900000):Calls Tryz.prog 92 #[.agg #[.slice (kca) (c.kinds.length) (kcc),.int .i64 (c.cap)],.agg #[.slice a1 l.length c1],.slice ta xs.length tc] w (RetM w0 G (OwnR L (insR c [] 0 xs))):=by
 have bS:=S.bound
 have bT:=T.bound
 refine e_start (vs:=[_,_,_]) Tryz.func92 rfl (n:=18) rfl rfl<|e_seq<|e_reg<|s_bx M rfl rfl rfl<|?_;clear M;intro b1 w M
 refine s_bx M rfl rfl rfl<|?_;clear M;intro b2 w M
 refine s_al M tok54 rfl rfl<|?_;clear M;intro b3 w M
 refine s_as rfl<|e_nil<|e_tn<|e_seq<|fun a F=>w_plan [(true,0),(true,1),(true,2),(true,3),(true,4),(false,5),(true,6),(false,7),(true,8),(true,9),(false,10),(true,11)] (Keep G [.blk b2 [.slice (a1) (l.length) (c1)] 54,.blk b1 [.slice (kca) (c.kinds.length) (kcc),.int .i64 (c.cap)] 51]) rfl (by kernel_rfl) (fun c a d v w h=>by cases d <;> exact h) ((M.drew _).keep (Gle.refl _) (by simp)) ?_
 replace M:=M.drew (w.drawn+1)
 revert a
 refine l_r (fun a F w M=>run_loadA tok51 rfl (F.ev rfl) (cs:=[.slice (kca) (c.kinds.length) (kcc),.int .i64 (c.cap)]) rfl (M.cellsL (k:=1) rfl rfl)) rfl<|l_r (fun a F w M=>run_loadA tok54 rfl (F.ev rfl) (cs:=[.slice (a1) (l.length) (c1)]) rfl (M.cellsL (k:=0) rfl rfl)) rfl<|l_r (fun a F w M=>x_mv F rfl) rfl<|l_r (fun a F w M=>run_lenSl tok22.k (F.ev rfl)) rfl<|l_r (fun a F w M=>x_mv F rfl) rfl<|l_a rfl<|s_cL ent139 rfl rfl (unseen_spec (c:=c) (l:=([]:List EntD)) M RdSl.nil (check_nil (check_ok hck).1))<|?_;clear M;rintro _ _ w M ⟨buu5,mbu5,esu5,clu5,ksu5,rfl,rfl,Esu5,hksu5⟩
 refine e_nil<|eK (C':=Keep G [.blk b2 [.slice (a1) (l.length) (c1)] 54,.blk b1 [.slice (kca) (c.kinds.length) (kcc),.int .i64 (c.cap)] 51]) (M.keep (Gle.refl _) (by simp)) (fun w h=>h.mono (Gle.refl _) (by simp))<|l_r (fun a F w M=>run_buildS (cs:=[.bool true,.int .i64 (((xs.length:Nat):Int)),.slice (ta) (xs.length) (tc),.func (.func 168) #[] #[.pointer (some ⟨buu5,0,none⟩)],.func (.func 140) #[] #[]]) (ps:=[(0,.bool true),(1,.int .i64 (((xs.length:Nat):Int))),(2,.slice (ta) (xs.length) (tc)),(3,.func (.func 168) #[] #[.pointer (some ⟨buu5,0,none⟩)]),(4,.func (.func 140) #[] #[])]) tok207.k rfl tok207 (F.evp rfl) rfl) rfl<|l_a rfl<|?_
 replace M:=M.perm (perm_front _ 1 _ rfl)
 replace M:=M.perm (perm_front _ 1 _ rfl)
 change Mem w0 G (_::_::_::_::_::L) _ at M
 intro a F
 refine rl_callM F ent116 rfl rfl (res_call SC S hck T M Esu5 hksu5 hN) ?_;clear F M a;rintro _ Gq6 _ w a hGq6 M ⟨aoq6,csq6,Loq6,rfl,rfl,Eoq6⟩ F
 replace SC:=SC.mono mono_rdKind hGq6
 replace S:=S.mono mono_rdEnt hGq6
 replace T:=T.mono mono_rdItem hGq6
 have M:=M.perm (perm_mid (OWNR aoq6 (insR c [] 0 xs).1.length csq6::Loq6) [.blk b3 [.slice none 0 0] 54,.blk b2 [.slice (a1) (l.length) (c1)] 54,.blk b1 [.slice (kca) (c.kinds.length) (kcc),.int .i64 (c.cap)] 51] L)
 change Mem w0 Gq6 (.blk b3 [.slice none 0 0] 54::.blk b2 [.slice (a1) (l.length) (c1)] 54::.blk b1 [.slice (kca) (c.kinds.length) (kcc),.int .i64 (c.cap)] 51::((OWNR aoq6 (insR c [] 0 xs).1.length csq6::Loq6)++L)) _ at M
 revert a
 refine e_nil<|eK (C':=Keep Gq6 [.blk b2 [.slice (a1) (l.length) (c1)] 54,.blk b1 [.slice (kca) (c.kinds.length) (kcc),.int .i64 (c.cap)] 51]) (M.keep (Gle.refl _) (by simp)) (fun w h=>h.mono hGq6 (by simp))<|l_r (fun a F w M=>run_extract (v:=.agg #[.slice (aoq6) ((insR c [] 0 xs).1.length) ((insR c [] 0 xs).1.length)]) (F.ev rfl) rfl) rfl<|l_r (fun a F w M=>run_extract (v:=.int .i64 ((insR c [] 0 xs).2)) (F.ev rfl) rfl) rfl<|l_a rfl<|fun a F=>?_
 refine rl_storeA F M tok54 (k:=0) rfl rfl rfl (us:=[.slice (aoq6) ((insR c [] 0 xs).1.length) ((insR c [] 0 xs).1.length)]) rfl rfl (by simp [Value.oneCell']) (by simp) ?_;clear F M a;intro w a M F
 change Mem w0 Gq6 (.blk b3 [.slice (aoq6) ((insR c [] 0 xs).1.length) ((insR c [] 0 xs).1.length)] 54::_::_::((OWNR aoq6 (insR c [] 0 xs).1.length csq6::Loq6)++L)) _ at M
 revert a
 refine e_nil<|eK (C':=Keep Gq6 [.blk b2 [.slice (a1) (l.length) (c1)] 54,.blk b1 [.slice (kca) (c.kinds.length) (kcc),.int .i64 (c.cap)] 51]) (M.keep (Gle.refl _) (by simp)) (fun w h=>h.mono (Gle.refl _) (by simp))<|l_r (fun a F w M=>x_as F rfl) rfl<|l_nil<|e_tn<|e_ret<|fun a F=>fin_ct F M (k:=0) rfl rfl tok54 rfl rfl rfl rfl ?_
 exact ⟨_,_,hGq6,M.weaken (.cons _ (.cons _ (.cons _ (List.Sublist.refl _)))),aoq6,csq6,Loq6,rfl,rfl,Eoq6⟩
open Go Go.Y
set_option linter.unusedSimpArgs false
set_option linter.unusedVariables false
/-! ### Valid lists -/
def EntOk (c:RulesD) (x:EntD):Prop:=(ItemOk (c.kinds.length:Int) x.item∧renE c x.item=0)∧SizeOk c x
def keysOf (l:List EntD):List Nat:=l.map fun x=>x.item.key
theorem nodup_at {l:List Nat}:l.Nodup↔∀ i x,l[i]?=some x→¬ x∈l.take i:=by
 constructor
 ·intro h i x hx hm
  obtain ⟨j,hj⟩:=List.mem_iff_getElem?.1 hm
  rw [List.getElem?_take] at hj
  split at hj
  ·rename_i hji
   have h1:=List.pairwise_iff_getElem.1 h j i (lt_of_get hj) (lt_of_get hx) hji
   rw [List.getElem?_eq_getElem (lt_of_get hj)] at hj
   rw [List.getElem?_eq_getElem (lt_of_get hx)] at hx
   simp only [Option.some.injEq] at hj hx
   exact h1 (hj.trans hx.symm)
  ·cases hj
 ·intro h
  refine List.pairwise_iff_getElem.2 fun i j hi hj hij he=>?_
  refine h j l[j] (List.getElem?_eq_getElem hj) (List.mem_iff_getElem?.2 ⟨i,?_⟩)
  rw [List.getElem?_take,if_pos hij,List.getElem?_eq_getElem hi,he]
theorem has_keys {l:List EntD} {k:Nat}:hasKey l k↔k∈keysOf l:=by
 unfold hasKey keysOf
 rw [List.mem_map]
theorem keys_take (l:List EntD) (i:Nat):keysOf (l.take i)=(keysOf l).take i:=by unfold keysOf;rw [List.map_take]
theorem check_iff {c:RulesD} {l:List EntD}:checkE c l=0↔ValidC c∧l.length≤1024∧(∀ x∈l,EntOk c x)∧(keysOf l).Nodup∧overE l=0:=by
 constructor
 ·intro h
  obtain ⟨h1,h2,h3,h4⟩:=check_ok h
  refine ⟨h1,h2,fun x hx=>?_,nodup_at.2 fun i k hk=>?_,h4⟩
  ·obtain ⟨i,hi⟩:=List.mem_iff_getElem?.1 hx
   have:=entE_zero.1 (h3 i x hi)
   have h5:=itemE_zero.1 this.1
   exact ⟨⟨h5.1,h5.2.2⟩,this.2⟩
  ·unfold keysOf at hk
   rw [List.getElem?_map] at hk
   cases hx:l[i]? with
   | none=>rw [hx] at hk;cases hk
   | some x =>
    rw [hx] at hk
    simp only [Option.map_some,Option.some.injEq] at hk
    have:=check_key h hx
    rw [has_keys,keys_take,hk] at this
    exact this
 ·rintro ⟨h1,h2,h3,h4,h5⟩
  have h6:firstE (scanE c l) l.length=0:=firstE_zero.2 fun i hi=>by
   obtain ⟨x,hx⟩:=get_of_lt hi
   obtain ⟨⟨a,b⟩,d⟩:=h3 x (List.mem_of_getElem? hx)
   rw [scan_at hx,entE_zero,itemE_zero]
   refine ⟨⟨a,?_,b⟩,d⟩
   rw [has_keys,keys_take]
   exact nodup_at.1 h4 i _ (by unfold keysOf;rw [List.getElem?_map,hx];rfl)
  rw [check_end h1 (by omega) h6 (Nat.le_refl _),h5]
theorem fresh_ok {c:RulesD} {x:ItemD} (hc:ValidC c) (h:ItemOk (c.kinds.length:Int) x) (hr:renE c x=0):EntOk c (freshF c x):=by
 obtain ⟨k,hk⟩:=kind_of h
 have h1:=(hc.2 k (List.mem_of_getElem? hk)).1
 have h2:(freshF c x).size=k.base:=base_at hk
 exact ⟨⟨h,hr⟩,by rw [h2];exact h1,Or.inr rfl⟩
theorem keys_mid (l:List EntD) (p n:Nat) (fr:List EntD):keysOf (midL l p n fr)=(keysOf l).take p++keysOf fr++(keysOf l).drop (p+n):=by
 unfold midL keysOf;simp [List.map_take,List.map_drop]
theorem nodup_perm {a b:List Nat} (h:a.Perm b) (hb:b.Nodup):a.Nodup:=h.symm.nodup hb
theorem mid_ok {c:RulesD} {l fr:List EntD} {p n:Nat} (h:∀ x∈l,EntOk c x) (hf:∀ x∈fr,EntOk c x):∀ x∈midL l p n fr,EntOk c x:=fun x hx=>by
 rcases mid_mem hx with hx | hx
 ·exact h x hx
 ·exact hf x hx
theorem keys_fresh (c:RulesD) (xs:List ItemD):keysOf (xs.map (freshF c))=xs.map ItemD.key:=by unfold keysOf;rw [List.map_map];rfl
theorem hasI_keys {xs:List ItemD} {k:Nat}:hasI xs k↔k∈xs.map ItemD.key:=by unfold hasI;rw [List.mem_map]
theorem inc_good {c:RulesD} {l:List EntD} {xs:List ItemD} (hc:ValidC c) (h:incE c l xs=0):(∀ x∈xs.map (freshF c),EntOk c x)∧(xs.map ItemD.key).Nodup∧∀ k∈xs.map ItemD.key,¬ k∈keysOf l:=by
 have h1:∀ i x,xs[i]?=some x→itemE c x (hasKey l x.key∨hasI (xs.take i) x.key)=0:=fun i x hx=>by
  have:=firstE_zero.1 h i (lt_of_get hx)
  rwa [inc_at hx] at this
 refine ⟨fun y hy=>?_,nodup_at.2 fun i k hk=>?_,fun k hk=>?_⟩
 ·obtain ⟨x,hx,rfl⟩:=List.mem_map.1 hy
  obtain ⟨i,hi⟩:=List.mem_iff_getElem?.1 hx
  have:=itemE_zero.1 (h1 i x hi)
  exact fresh_ok hc this.1 this.2.2
 ·rw [List.getElem?_map] at hk
  cases hx:xs[i]? with
  | none=>rw [hx] at hk;cases hk
  | some x =>
   rw [hx] at hk
   simp only [Option.map_some,Option.some.injEq] at hk
   subst hk
   intro hm
   rw [← List.map_take,← hasI_keys] at hm
   exact (itemE_zero.1 (h1 i x hx)).2.1 (Or.inr hm)
 ·obtain ⟨x,hx,rfl⟩:=List.mem_map.1 hk
  obtain ⟨i,hi⟩:=List.mem_iff_getElem?.1 hx
  intro hm
  exact (itemE_zero.1 (h1 i x hi)).2.1 (Or.inl (has_keys.2 hm))
theorem ins_valid {c:RulesD} {l:List EntD} {a:Int} {xs:List ItemD} (h:checkE c l=0) (hr:(insR c l a xs).2=0):checkE c (insR c l a xs).1=0:=by
 obtain ⟨h1,h2,h3,h4,h5⟩:=check_iff.1 h
 by_cases b1:InsideP a 0 l.length
 ·by_cases b2:1024 < l.length+xs.length
  ·rw [ins_3 b1 b2] at hr;cases hr
  ·by_cases b3:incE c l xs=0
   ·rcases over_or (midL l a.toNat 0 (xs.map (freshF c))) with b4 | b4
    ·rw [ins_0 b1 b2 b3 b4]
     obtain ⟨g1,g2,g3⟩:=inc_good h1 b3
     unfold InsideP at b1
     refine check_iff.2 ⟨h1,by rw [midL_len (by omega),List.length_map];omega,mid_ok h3 g1,?_,b4⟩
     rw [keys_mid,keys_fresh,Nat.add_zero]
     refine nodup_perm (b:=xs.map ItemD.key++keysOf l) ?_ (List.nodup_append.2 ⟨g2,h4,fun x hx y hy e=>g3 x hx (e ▸ hy)⟩)
     have e:=List.take_append_drop a.toNat (keysOf l)
     calc (keysOf l).take a.toNat++xs.map ItemD.key++(keysOf l).drop a.toNat
      _=(keysOf l).take a.toNat++(xs.map ItemD.key++(keysOf l).drop a.toNat):=List.append_assoc _ _ _
      _ |>.Perm ((xs.map ItemD.key++(keysOf l).drop a.toNat)++(keysOf l).take a.toNat):=List.perm_append_comm
      _ |>.Perm (xs.map ItemD.key++((keysOf l).drop a.toNat++(keysOf l).take a.toNat)):=by rw [List.append_assoc]
      _ |>.Perm (xs.map ItemD.key++((keysOf l).take a.toNat++(keysOf l).drop a.toNat)):=List.Perm.append_left _ List.perm_append_comm
      _ |>.Perm (xs.map ItemD.key++keysOf l):=by rw [e]
    ·rw [ins_13 b1 b2 b3 (by omega)] at hr;cases hr
   ·rw [ins_e b1 b2 b3] at hr;exact absurd hr b3
 ·rw [ins_4 b1] at hr;cases hr
theorem rem_valid {c:RulesD} {l:List EntD} {a n:Int} (h:checkE c l=0) (hr:(remR l a n).2=0):checkE c (remR l a n).1=0:=by
 obtain ⟨h1,h2,h3,h4,h5⟩:=check_iff.1 h
 by_cases b1:InsideP a n l.length
 ·rw [rem_0 b1]
  unfold InsideP at b1
  refine check_iff.2 ⟨h1,by rw [midL_rest (by omega)];omega,mid_ok h3 (by simp),?_,over_rem h5⟩
  rw [keys_mid]
  refine List.Nodup.sublist ?_ h4
  have e:=List.take_append_drop a.toNat (keysOf l)
  rw [show keysOf []=[] from rfl,List.append_nil]
  conv=>rhs;rw [← e]
  refine (List.Sublist.refl _).append ?_
  rw [← List.drop_drop]
  exact List.drop_sublist _ _
 ·rw [rem_4 b1] at hr;cases hr
theorem mid_perm (l:List EntD) (p n q:Nat):(movL l p n q).Perm l:=by
 unfold movL
 generalize hX:midL l p n []=X
 have h1:(midL X q 0 ((l.drop p).take n)).Perm ((l.drop p).take n++X):=by
  unfold midL
  rw [Nat.add_zero,List.append_assoc]
  refine List.perm_append_comm.trans ?_
  rw [List.append_assoc]
  refine List.Perm.append_left _ (List.perm_append_comm.trans ?_)
  rw [List.take_append_drop]
 refine h1.trans ?_
 subst hX
 unfold midL
 rw [List.append_nil]
 refine List.perm_append_comm.trans ?_
 rw [List.append_assoc]
 conv=>rhs;rw [← List.take_append_drop p l]
 refine List.Perm.append_left _ (List.perm_append_comm.trans ?_)
 rw [← List.drop_drop,List.take_append_drop]
theorem mov_valid {c:RulesD} {l:List EntD} {a n b:Int} (h:checkE c l=0) (hr:(movR l a n b).2=0):checkE c (movR l a n b).1=0:=by
 obtain ⟨h1,h2,h3,h4,h5⟩:=check_iff.1 h
 by_cases b1:InsideP a n l.length∧InsideP b 0 (l.length - n)
 ·rw [mov_0 b1]
  have hp:=mid_perm l a.toNat n.toNat b.toNat
  exact check_iff.2 ⟨h1,by rw [hp.length_eq];exact h2,fun x hx=>h3 x (hp.subset hx),nodup_perm (hp.map _) h4,over_mov h5⟩
 ·rw [mov_4 b1] at hr;cases hr
theorem keys_same {c:RulesD} {l:List EntD} {p:Nat} {xs:List ItemD} (hp:p+xs.length≤l.length) (h:∀ i x,xs[i]?=some x→∃ y,l[p+i]?=some y∧y.item.key=x.key):keysOf (midL l p xs.length (xs.map (freshF c)))=keysOf l:=by
 rw [keys_mid,keys_fresh]
 apply List.ext_getElem?
 intro i
 have e0:(keysOf l).length=l.length:=by unfold keysOf;simp
 have e1:((keysOf l).take p).length=p:=by unfold keysOf;simp;omega
 rcases Nat.lt_or_ge i p with h1 | h1
 ·rw [List.append_assoc,List.getElem?_append_left (by omega),List.getElem?_take,if_pos h1]
 ·rcases Nat.lt_or_ge i (p+xs.length) with h2 | h2
  ·rw [List.getElem?_append_left (by simp;omega),List.getElem?_append_right (by omega),e1]
   obtain ⟨x,hx⟩:=get_of_lt (xs:=xs) (i:=i - p) (by omega)
   obtain ⟨y,hy,he⟩:=h (i - p) x hx
   rw [show p+(i - p)=i by omega] at hy
   unfold keysOf
   rw [List.getElem?_map,List.getElem?_map,hx,hy]
   simp [he]
  ·rw [List.getElem?_append_right (by simp;omega),List.getElem?_drop]
   congr 1
   simp;omega
theorem chg_valid {c:RulesD} {l:List EntD} {a:Int} {xs:List ItemD} (h:checkE c l=0) (hr:(chgR c l a xs).2=0):checkE c (chgR c l a xs).1=0:=by
 obtain ⟨h1,h2,h3,h4,h5⟩:=check_iff.1 h
 by_cases b1:InsideP a xs.length l.length
 ·by_cases b2:firstE (chgAt c l a.toNat xs) xs.length=0
  ·rcases over_or (midL l a.toNat xs.length (xs.map (freshF c))) with b4 | b4
   ·rw [chg_0 b1 b2 b4]
    unfold InsideP at b1
    have hz:∀ i x,xs[i]?=some x→ItemOk (c.kinds.length:Int) x∧¬ otherK l (a.toNat+i) x.key∧renE c x=0:=fun i x hx=>by
     have:=firstE_zero.1 b2 i (lt_of_get hx)
     rw [chg_at hx] at this
     exact chgE_zero.1 this
    refine check_iff.2 ⟨h1,by rw [midL_len (by omega),List.length_map];omega,mid_ok h3 (fun y hy=>?_),?_,b4⟩
    ·obtain ⟨x,hx,rfl⟩:=List.mem_map.1 hy
     obtain ⟨i,hi⟩:=List.mem_iff_getElem?.1 hx
     exact fresh_ok h1 (hz i x hi).1 (hz i x hi).2.2
    ·rw [keys_same (by omega) (fun i x hx=>?_)]
     ·exact h4
     ·obtain ⟨y,hy⟩:=get_of_lt (xs:=l) (i:=a.toNat+i) (by have:=lt_of_get hx;omega)
      exact ⟨y,hy,Classical.byContradiction fun hn=>(hz i x hx).2.1 ((other_of hy).2 hn)⟩
   ·rw [chg_13 b1 b2 (by omega)] at hr;cases hr
  ·unfold chgR at hr;rw [if_neg (not_not_intro b1),if_pos b2] at hr;exact absurd hr b2
 ·rw [chg_4 b1] at hr;cases hr
/-! ### Notices -/
structure NotD where
 kind:Nat
 at_:Int
 count:Int
 to:Int
 items:List ItemD
def rdNote:Rd NotD:=fun G cs x=>∃ (a:Option Addr) (c:Nat),cs=[.int .u8 ((x.kind:Nat):Int),.int .i64 x.at_,.int .i64 x.count,.int .i64 x.to,.slice a x.items.length c] ∧
 x.kind < 256∧inKind .i64 x.at_∧inKind .i64 x.count∧inKind .i64 x.to∧x.items.length≤9223372036854775807∧RdSl rdItem 4 G (.slice a x.items.length c) x.items
theorem mono_rdNote:Mono rdNote:=by
 rintro G G' cs x h ⟨a,c,h1,h2,h3,h4,h5,h6,h7⟩
 exact ⟨a,c,h1,h2,h3,h4,h5,h6,h7.mono mono_rdItem h⟩
/-- Which fields a kind uses. -/
def uAt (k:Nat):Prop:=k=1∨k=2∨k=3∨k=4
def uCo (k:Nat):Prop:=k=2∨k=3
def uTo (k:Nat):Prop:=k=3
def uIt (k:Nat):Prop:=k=1∨k=4∨k=5
instance (k:Nat):Decidable (uAt k):=by unfold uAt;infer_instance
instance (k:Nat):Decidable (uCo k):=by unfold uCo;infer_instance
instance (k:Nat):Decidable (uTo k):=by unfold uTo;infer_instance
instance (k:Nat):Decidable (uIt k):=by unfold uIt;infer_instance
def NForm (n:NotD):Prop:=(uAt n.kind∨n.at_=0)∧(uCo n.kind∨n.count=0)∧(uTo n.kind∨n.to=0)∧(uIt n.kind∨n.items.length=0)
instance (n:NotD):Decidable (NForm n):=by unfold NForm;infer_instance
def noteE (n:NotD):Int:=if n.kind < 1∨5 < n.kind then 1 else if NForm n then 0 else 5
theorem note_1 {n:NotD} (h:n.kind < 1∨5 < n.kind):noteE n=1:=by unfold noteE;rw [if_pos h]
theorem note_5 {n:NotD} (h:¬ (n.kind < 1∨5 < n.kind)) (h2:¬ NForm n):noteE n=5:=by unfold noteE;rw [if_neg h,if_neg h2]
theorem note_0 {n:NotD} (h:¬ (n.kind < 1∨5 < n.kind)) (h2:NForm n):noteE n=0:=by unfold noteE;rw [if_neg h,if_pos h2]
theorem note_zero {n:NotD}:noteE n=0↔(1≤n.kind∧n.kind≤5)∧NForm n:=by
 unfold noteE
 split
 ·rename_i h;exact ⟨fun h2=>(by cases h2),fun h2=>by omega⟩
 ·rename_i h
  split
  ·rename_i h2;exact ⟨fun _=>⟨by omega,h2⟩,fun _=>rfl⟩
  ·rename_i h2;exact ⟨fun h3=>(by cases h3),fun h3=>absurd h3.2 h2⟩
noncomputable def appR (c:RulesD) (l:List EntD) (n:NotD):List EntD × Int :=
 if noteE n≠0 then ([],noteE n) else if n.kind=1 then insR c l n.at_ n.items else if n.kind=2 then remR l n.at_ n.count else if n.kind=3 then movR l n.at_ n.count n.to
 else if n.kind=4 then chgR c l n.at_ n.items else insR c [] 0 n.items
section
variable {c:RulesD} {l:List EntD} {n:NotD}
theorem app_e (h:noteE n≠0):appR c l n=([],noteE n):=by unfold appR;rw [if_pos h]
theorem app_1 (h:noteE n=0) (hk:n.kind=1):appR c l n=insR c l n.at_ n.items:=by unfold appR;rw [if_neg (not_not_intro h),if_pos hk]
theorem app_2 (h:noteE n=0) (hk:n.kind=2):appR c l n=remR l n.at_ n.count:=by unfold appR;rw [if_neg (not_not_intro h),if_neg (by omega),if_pos hk]
theorem app_3 (h:noteE n=0) (hk:n.kind=3):appR c l n=movR l n.at_ n.count n.to:=by unfold appR;rw [if_neg (not_not_intro h),if_neg (by omega),if_neg (by omega),if_pos hk]
theorem app_4 (h:noteE n=0) (hk:n.kind=4):appR c l n=chgR c l n.at_ n.items:=by unfold appR;rw [if_neg (not_not_intro h),if_neg (by omega),if_neg (by omega),if_neg (by omega),if_pos hk]
theorem app_5 (h:noteE n=0) (hk:n.kind=5):appR c l n=insR c [] 0 n.items:=by unfold appR;rw [if_neg (not_not_intro h),if_neg (by omega),if_neg (by omega),if_neg (by omega),if_neg (by omega)]
theorem app_valid (h:checkE c l=0) (hr:(appR c l n).2=0):checkE c (appR c l n).1=0:=by
 by_cases h0:noteE n=0
 ·have hk:=(note_zero.1 h0).1
  rcases (show n.kind=1∨n.kind=2∨n.kind=3∨n.kind=4∨n.kind=5 by omega) with e | e | e | e | e
  ·rw [app_1 h0 e] at hr ⊢;exact ins_valid h hr
  ·rw [app_2 h0 e] at hr ⊢;exact rem_valid h hr
  ·rw [app_3 h0 e] at hr ⊢;exact mov_valid h hr
  ·rw [app_4 h0 e] at hr ⊢;exact chg_valid h hr
  ·have hc:=(check_ok h).1
   rw [app_5 h0 e] at hr ⊢
   exact ins_valid (by rw [check_end hc (by decide) (i:=0) rfl (Nat.le_refl _)];rfl) hr
 ·rw [app_e h0] at hr;exact absurd hr h0
end
/-- The list after the first i notices, as far as they go, and the first error. -/
noncomputable def runR (c:RulesD) (l:List EntD) (ns:List NotD):Nat→List EntD × Int
 | 0=>(l,0)
 | i+1=>if (runR c l ns i).2=0 then (match ns[i]? with
  | some n=>appR c (runR c l ns i).1 n
  | none=>runR c l ns i) else runR c l ns i
theorem run_step {c:RulesD} {l:List EntD} {ns:List NotD} {i:Nat} {n:NotD} (h:(runR c l ns i).2=0) (hn:ns[i]?=some n):runR c l ns (i+1)=appR c (runR c l ns i).1 n:=by
 simp only [runR,h,if_true,hn]
theorem run_stay {c:RulesD} {l:List EntD} {ns:List NotD} {i:Nat} (h:(runR c l ns i).2≠0):∀ j,i≤j→runR c l ns j=runR c l ns i:=by
  intro j hj
  induction j with
  | zero => have : i = 0 := by omega
            subst this;rfl
  | succ j ih =>
    rcases Nat.eq_or_lt_of_le hj with e | e
    · rw [e]
    · have:=ih (by omega)
      simp only [runR,this,h,if_false]
theorem run_valid {c:RulesD} {l:List EntD} {ns:List NotD} (h:checkE c l=0):∀ {i:Nat},(runR c l ns i).2=0→checkE c (runR c l ns i).1=0
 | 0,_=>h
 | i+1,hr=>by
  by_cases h0:(runR c l ns i).2=0
  ·have ih:=run_valid h h0
   cases hn:ns[i]? with
   | none=>simp only [runR,h0,if_true,hn];exact ih
   | some n=>rw [run_step h0 hn] at hr ⊢;exact app_valid ih hr
  ·rw [run_stay h0 _ (Nat.le_succ i)] at hr;exact absurd hr h0
/-- How many notices are applied without an error. -/
noncomputable def runN (c:RulesD) (l:List EntD) (ns:List NotD):Nat→Nat
 | 0=>0
 | i+1=>if (runR c l ns (i+1)).2=0 then i+1 else runN c l ns i
theorem runN_ok {c:RulesD} {l:List EntD} {ns:List NotD}:∀ {i:Nat},(runR c l ns i).2=0→runN c l ns i=i
 | 0,_=>rfl
 | i+1,h=>by simp only [runN,h,if_true]
theorem runN_bad {c:RulesD} {l:List EntD} {ns:List NotD} {i:Nat} (h0:(runR c l ns i).2=0) (h:(runR c l ns (i+1)).2≠0):∀ j,i < j→runN c l ns j=i:=by
 intro j hj
 induction j with
 | zero=>omega
 | succ j ih =>
  have hs:=run_stay h (j+1) (by omega)
  rcases Nat.eq_or_lt_of_le (show i≤j by omega) with e | e
  ·subst e;simp only [runN,h,if_false];exact runN_ok h0
  ·simp only [runN,hs,h,if_false];exact ih e
noncomputable def allR (c:RulesD) (l:List EntD) (ns:List NotD):List EntD × Nat × Int :=
 if 32 < ns.length then ([],0,3) else if (runR c l ns ns.length).2=0 then ((runR c l ns ns.length).1,ns.length,0) else ([],runN c l ns ns.length,(runR c l ns ns.length).2)
section
variable {c:RulesD} {l:List EntD} {ns:List NotD}
theorem all_3 (h:32 < ns.length):allR c l ns=([],0,3):=by unfold allR;rw [if_pos h]
theorem all_0 {i:Nat} (h:¬ 32 < ns.length) (h2:(runR c l ns i).2=0) (hi:i=ns.length):allR c l ns=((runR c l ns i).1,ns.length,0):=by subst hi;unfold allR;rw [if_neg h,if_pos h2]
theorem all_e {i:Nat} {n:NotD} {e:Int} (h:¬ 32 < ns.length) (h2:(runR c l ns i).2=0) (hn:ns[i]?=some n) (he:(appR c (runR c l ns i).1 n).2=e) (h0:e≠0):allR c l ns=([],i,e):=by
 have h3:=run_step h2 hn
 have h4:(runR c l ns (i+1)).2≠0:=by rw [h3,he];exact h0
 have h5:=run_stay h4 ns.length (by have:=lt_of_get hn;omega)
 unfold allR
 rw [if_neg h,if_neg (by rw [h5];exact h4),h5,h3,he,runN_bad h2 h4 ns.length (lt_of_get hn)]
end
open Go Go.Y Go.RowKit
set_option linter.unusedSimpArgs false
set_option linter.unusedVariables false
section
variable {P:Program} {ops:Array Oper} {Q:Exit→Act→World→Prop} {n:Nat} {a:Act} {e:Env} {w0 w:World} {G:Ghost} {L:List Res} {r:List Oper} {d:Nat} {t:TypeId} {p:String} {af:Array Edge}
variable {ρ:Operand→Value} {dd:Option Tmp} {g:Option (Nat × Bool)}
theorem run_idxArrA {ta et:TypeId} {i:TI} {x y:Operand} {m:Nat} {cs:Array Value} {us:List Value} {k:IntKind} {z:Int} {j:Nat} (ha:tk P ta=.array m et) (ht:TOK P et i) (hag:i.k.agg=some true)
  (hx:ρ x=.agg cs) (hy:ρ y=.int k z) (hz:z=(j:Int)) (hj:j < m) (hv:cs.extract (j * i.size) (j * i.size+i.size)=us.toArray) :
  (execOp ρ ⟨dd,.index ta x y,t,p,af,g⟩).run P w=.ok (.value (.agg us.toArray)) w:=by
 subst hz
 have c1:(0:Int)≤(j:Int):=by omega
 have c2:(j:Int) < (m:Int):=by omega
 have h1:(isAgg et).run P w=.ok true w:=run_isAgg_t (by rw [ht.k];exact hag)
 simp [execOp,Instr.index,hx,hy,asIntOf,run_under (under_array ha),hj,ht.sizeOf,part,h1,hv]
theorem run_field1 {s ft:TypeId} {x:Operand} {f off sz:Nat} {fs:List (Nat × Nat × Nat)} {i:TI} {cs:Array Value} {v:Value} (hs:tk P s=.struct fs) (hf:fs[f]?=some (off,sz,ft)) (ht:TOK P ft i) (hag:i.k.agg=some false)
  (hx:ρ x=.agg cs) (hv:cs[off]?=some v):(execOp ρ ⟨dd,.field s x f,t,p,af,g⟩).run P w=.ok (.value v) w:=by
 obtain ⟨ff,hu,hff⟩:=under_struct hs
 subst hff
 simp only [List.getElem?_map,Option.map_eq_some_iff] at hf
 obtain ⟨fd,hfd,he⟩:=hf
 simp only [Prod.mk.injEq] at he
 obtain ⟨rfl,h1,rfl⟩:=he
 have hfd':ff[f]?=some fd:=by simpa using hfd
 simp [execOp,Instr.field,hx,run_under hu,hfd',asAgg,run_part1 (w:=w) (by rw [ht.k];exact hag) hv]
theorem rl_callvM {f:FuncId} {cal:Operand} {args:List Operand} {ats:Array TypeId} {vs:List Value} {Φ:Ghost→List Res→Value→Prop}
  (F:Fits n a e) (hE:Ent P f) (hc:ev e cal=some (.func (.func f) #[] #[])) (hv:evs e args=some vs) (hd:Nat.ble (d+1) n=true)
  (hs:Calls P f vs.toArray w (RetM w0 G Φ))
  (k:∀ v G' L' w' a',Gle G G'→Mem w0 G' L' w'→Φ G' L' v→Fits n a' ((d,v)::e)→rl P ops Q r a' w') :
  rl P ops Q (⟨some d,.call ⟨.value cal,args.toArray,ats⟩,t,p,af,none⟩::r) a w:=by
 refine rl_callv (caps:=[]) F hE hc hv hd (by rw [List.append_nil];exact hs) fun x w' hx=>?_
 cases x with
 | returned v=>obtain ⟨G',L',h1,h2,h3⟩:=hx;exact ⟨v,rfl,fun a' F'=>k v G' L' w' a' h1 h2 h3 F'⟩
 | panicked c=>exact hx.elim
 | outgrown=>exact hx.elim
end
/-- The names of the kinds. -/
def nameK:Nat→List UInt8
 | 1=>[105,110,115,101,114,116]
 | 2=>[114,101,109,111,118,101]
 | 3=>[109,111,118,101]
 | 4=>[99,104,97,110,103,101]
 | 5=>[114,101,115,101,116]
 | _=>[]
def doesF:Nat→Nat
 | 1=>122
 | 2=>124
 | 3=>125
 | 4=>127
 | _=>129
def KINDS:List Value:=[
 .string (str []),.bool false,.bool false,.bool false,.bool false,.nilFunc,
 .string (str [105,110,115,101,114,116]),.bool true,.bool false,.bool false,.bool true,.func (.func 122) #[] #[],
 .string (str [114,101,109,111,118,101]),.bool true,.bool true,.bool false,.bool false,.func (.func 124) #[] #[],
 .string (str [109,111,118,101]),.bool true,.bool true,.bool true,.bool false,.func (.func 125) #[] #[],
 .string (str [99,104,97,110,103,101]),.bool true,.bool false,.bool false,.bool true,.func (.func 127) #[] #[],
 .string (str [114,101,115,101,116]),.bool false,.bool false,.bool false,.bool true,.func (.func 129) #[] #[]]
theorem kinds_at {k:Nat} (h:1≤k∧k≤5):KINDS.toArray.extract (k * 6) (k * 6+6) =
  [.string (str (nameK k)),.bool (decide (uAt k)),.bool (decide (uCo k)),.bool (decide (uTo k)),.bool (decide (uIt k)),.func (.func (doesF k)) #[] #[]].toArray:=by
 rcases (show k=1∨k=2∨k=3∨k=4∨k=5 by omega) with rfl | rfl | rfl | rfl | rfl <;> rfl
/-- Which fields are used, as numbers; and the fields. -/
def uG (k i:Nat):Int:=match i with
 | 0=>if uAt k then 1 else 0
 | 1=>if uCo k then 1 else 0
 | 2=>if uTo k then 1 else 0
 | _=>if uIt k then 1 else 0
def nG (x:NotD) (i:Nat):Int:=match i with
 | 0=>x.at_
 | 1=>x.count
 | 2=>x.to
 | _=>((x.items.length:Nat):Int)
theorem u_cell {k i:Nat} (h:i < 4):([.int .i64 (uG k 0),.int .i64 (uG k 1),.int .i64 (uG k 2),.int .i64 (uG k 3)]:List Value)[0+i]?=some (.int .i64 (uG k i)):=by
 rcases (show i=0∨i=1∨i=2∨i=3 by omega) with rfl | rfl | rfl | rfl <;> rfl
theorem n_cell {x:NotD} {i:Nat} (h:i < 4):([nG x 0,nG x 1,nG x 2,nG x 3]:List Int)[i]?=some (nG x i):=by
 rcases (show i=0∨i=1∨i=2∨i=3 by omega) with rfl | rfl | rfl | rfl <;> rfl
def rdZ:Rd Int:=fun _ cs x=>cs=[.int .i64 x]
theorem els_z {G:Ghost}:∀ {zs:List Int},Els rdZ 1 G (zs.map fun z=>.int .i64 z) zs
 | []=>rfl
 | z::zs=>⟨[.int .i64 z],zs.map fun z=>.int .i64 z,rfl,rfl,rfl,els_z⟩
theorem ite_z {p:Prop} [Decidable p]:(if p then (1:Int) else 0)=0↔¬ p:=by split <;> simp_all
theorem form_of {x:NotD} (h:∀ j,j < 4→uG x.kind j=0→nG x j=0):NForm x:=by
 have h0:=h 0 (by omega)
 have h1:=h 1 (by omega)
 have h2:=h 2 (by omega)
 have h3:=h 3 (by omega)
 simp only [uG,nG,ite_z] at h0 h1 h2 h3
 refine ⟨Classical.or_iff_not_imp_left.2 h0,Classical.or_iff_not_imp_left.2 h1,Classical.or_iff_not_imp_left.2 h2,Classical.or_iff_not_imp_left.2 fun h4=>by have:=h3 h4;omega⟩
theorem not_form {x:NotD} {j:Nat} (hj:j < 4) (h1:uG x.kind j=0) (h2:nG x j≠0):¬ NForm x:=by
 rintro ⟨f0,f1,f2,f3⟩
 rcases (show j=0∨j=1∨j=2∨j=3 by omega) with rfl | rfl | rfl | rfl <;> simp only [uG,nG,ite_z] at h1 h2
 ·exact h2 (f0.resolve_left h1)
 ·exact h2 (f1.resolve_left h1)
 ·exact h2 (f2.resolve_left h1)
 ·exact h2 (by have:=f3.resolve_left h1;omega)
/-- The list after a notice, rules and list being checked first. -/
noncomputable def appE (c:RulesD) (l:List EntD) (n:NotD):List EntD × Int:=if checkE c l≠0 then ([],checkE c l) else appR c l n
theorem appE_no {c:RulesD} {l:List EntD} {n:NotD} (h:checkE c l≠0):appE c l n=([],checkE c l):=by unfold appE;rw [if_pos h]
theorem appE_ok {c:RulesD} {l:List EntD} {n:NotD} (h:checkE c l=0):appE c l n=appR c l n:=by unfold appE;rw [if_neg (not_not_intro h)]
theorem run_zero {c:RulesD} {l:List EntD} {ns:List NotD}:runR c l ns 0=(l,0):=rfl
theorem rem_00 {l:List EntD}:remR l 0 0=(l,0):=by
 rw [rem_0 (by unfold InsideP;omega)]
 unfold midL
 simp
theorem all_x {c:RulesD} {l:List EntD} {ns:List NotD} {i:Nat} (h:¬ 32 < ns.length) (h2:(runR c l ns i).2=0) (hn:i < ns.length) (he:(runR c l ns (i+1)).2≠0):allR c l ns=([],i,(runR c l ns (i+1)).2):=by
 obtain ⟨x,hx⟩:=get_of_lt hn
 rw [run_step h2 hx] at he ⊢
 exact all_e h h2 hx rfl he
noncomputable def allE (c:RulesD) (l:List EntD) (ns:List NotD):List EntD × Nat × Int:=if checkE c l≠0 then ([],0,checkE c l) else allR c l ns
theorem allE_no {c:RulesD} {l:List EntD} {ns:List NotD} (h:checkE c l≠0):allE c l ns=([],0,checkE c l):=by unfold allE;rw [if_pos h]
theorem allE_ok {c:RulesD} {l:List EntD} {ns:List NotD} (h:checkE c l=0):allE c l ns=allR c l ns:=by unfold allE;rw [if_neg (not_not_intro h)]
/-- The results: a cell that is a struct, and two slots. -/
theorem fin_ctt {P:Program} {fn:Func} {n:Nat} {a:Act} {e:Env} {w0 w:World} {G:Ghost} {L:List Res} (F:Fits n a e) {t u u2 ty k b:Nat} {i:TI} {cs:List Value} {x y:Value} {R:Ending→World→Prop} (M:Mem w0 G L w) (hk:L[k]?=some (.blk b cs ty)) (hf:fn.results = #[.cell t ty,.tmp u,.tmp u2])
  (hty:TOK P ty i) (hag:i.k.agg=some true) (hl:cs.length=i.size) (hv:Y.look e t=some (.pointer (some ⟨b,0,none⟩))) (hx:Y.look e u=some x) (hy:Y.look e u2=some y) (h:R (.returned (.tuple #[.agg cs.toArray,x,y])) w):bodyPost P fn R .ret a w:=by
 refine fin_of F (v:=.tuple #[.agg cs.toArray,x,y]) ?_ h
 have h1:(loadVar ty ⟨b,0,none⟩).run P w=.ok (.agg cs.toArray) w:=run_loadVarA hty hag hl (M.cellsL hk (by rw [List.drop_zero,← hl,List.take_length]))
 simp [results,hf,F.slot _ _ hv,F.slot _ _ hx,F.slot _ _ hy,asAddr,h1]
open Go Go.Y Go.Proofs
set_option linter.unusedVariables false
def ti47:TI:=⟨.slice 65,1,24,.slice none 0 0⟩
theorem tok47:TOK Tryz.prog 47 ti47:=⟨by kernel_rfl,by kernel_rfl,by kernel_rfl⟩
def ti65:TI:=⟨.struct [(0,1,5),(1,1,3),(2,1,3),(3,1,3),(4,1,22)],5,56,.agg #[.int .u8 0,.int .i64 0,.int .i64 0,.int .i64 0,.slice none 0 0]⟩
theorem tok65:TOK Tryz.prog 65 ti65:=⟨by kernel_rfl,by kernel_rfl,by kernel_rfl⟩
def ti67:TI:=⟨.func,1,8,.nilFunc⟩
theorem tok67:TOK Tryz.prog 67 ti67:=⟨by kernel_rfl,by kernel_rfl,by kernel_rfl⟩
def ti127:TI:=⟨.array 3 3,3,24,.agg #[.int .i64 0,.int .i64 0,.int .i64 0]⟩
theorem tok127:TOK Tryz.prog 127 ti127:=⟨by kernel_rfl,by kernel_rfl,by kernel_rfl⟩
def ti138:TI:=⟨.struct [(0,1,9),(1,1,4),(2,1,4),(3,1,4),(4,1,4),(5,1,67)],6,32,.agg #[.string ⟨#[]⟩,.bool false,.bool false,.bool false,.bool false,.nilFunc]⟩
theorem tok138:TOK Tryz.prog 138 ti138:=⟨by kernel_rfl,by kernel_rfl,by kernel_rfl⟩
def ti139:TI:=⟨.array 6 138,36,192,.agg #[.string ⟨#[]⟩,.bool false,.bool false,.bool false,.bool false,.nilFunc,.string ⟨#[]⟩,.bool false,.bool false,.bool false,.bool false,.nilFunc,.string ⟨#[]⟩,.bool false,.bool false,.bool false,.bool false,.nilFunc,.string ⟨#[]⟩,.bool false,.bool false,.bool false,.bool false,.nilFunc,.string ⟨#[]⟩,.bool false,.bool false,.bool false,.bool false,.nilFunc,.string ⟨#[]⟩,.bool false,.bool false,.bool false,.bool false,.nilFunc]⟩
theorem tok139:TOK Tryz.prog 139 ti139:=⟨by kernel_rfl,by kernel_rfl,by kernel_rfl⟩
def ti147:TI:=⟨.slice 150,1,24,.slice none 0 0⟩
theorem tok147:TOK Tryz.prog 147 ti147:=⟨by kernel_rfl,by kernel_rfl,by kernel_rfl⟩
def ti150:TI:=⟨.ptr 3,1,8,.pointer none⟩
theorem tok150:TOK Tryz.prog 150 ti150:=⟨by kernel_rfl,by kernel_rfl,by kernel_rfl⟩
def ti155:TI:=⟨.struct [(0,1,9),(1,1,3)],2,24,.agg #[.string ⟨#[]⟩,.int .i64 0]⟩
theorem tok155:TOK Tryz.prog 155 ti155:=⟨by kernel_rfl,by kernel_rfl,by kernel_rfl⟩
def ti167:TI:=⟨.array 4 3,4,32,.agg #[.int .i64 0,.int .i64 0,.int .i64 0,.int .i64 0]⟩
theorem tok167:TOK Tryz.prog 167 ti167:=⟨by kernel_rfl,by kernel_rfl,by kernel_rfl⟩
def ti169:TI:=⟨.slice 3,1,24,.slice none 0 0⟩
theorem tok169:TOK Tryz.prog 169 ti169:=⟨by kernel_rfl,by kernel_rfl,by kernel_rfl⟩
def ti215:TI:=⟨.struct [(0,1,4),(1,1,150)],2,16,.agg #[.bool false,.pointer none]⟩
theorem tok215:TOK Tryz.prog 215 ti215:=⟨by kernel_rfl,by kernel_rfl,by kernel_rfl⟩
def ti216:TI:=⟨.slice 215,1,24,.slice none 0 0⟩
theorem tok216:TOK Tryz.prog 216 ti216:=⟨by kernel_rfl,by kernel_rfl,by kernel_rfl⟩
def ti219:TI:=⟨.slice 138,1,24,.slice none 0 0⟩
theorem tok219:TOK Tryz.prog 219 ti219:=⟨by kernel_rfl,by kernel_rfl,by kernel_rfl⟩
theorem ent21:Ent Tryz.prog 21:=.mk' Tryz.func21 (by kernel_rfl) (by kernel_rfl)
theorem ent22:Ent Tryz.prog 22:=.mk' Tryz.func22 (by kernel_rfl) (by kernel_rfl)
theorem ent25:Ent Tryz.prog 25:=.mk' Tryz.func25 (by kernel_rfl) (by kernel_rfl)
theorem ent28:Ent Tryz.prog 28:=.mk' Tryz.func28 (by kernel_rfl) (by kernel_rfl)
theorem ent32:Ent Tryz.prog 32:=.mk' Tryz.func32 (by kernel_rfl) (by kernel_rfl)
theorem ent33:Ent Tryz.prog 33:=.mk' Tryz.func33 (by kernel_rfl) (by kernel_rfl)
theorem ent36:Ent Tryz.prog 36:=.mk' Tryz.func36 (by kernel_rfl) (by kernel_rfl)
theorem ent37:Ent Tryz.prog 37:=.mk' Tryz.func37 (by kernel_rfl) (by kernel_rfl)
theorem ent38:Ent Tryz.prog 38:=.mk' Tryz.func38 (by kernel_rfl) (by kernel_rfl)
theorem ent39:Ent Tryz.prog 39:=.mk' Tryz.func39 (by kernel_rfl) (by kernel_rfl)
theorem ent40:Ent Tryz.prog 40:=.mk' Tryz.func40 (by kernel_rfl) (by kernel_rfl)
theorem ent69:Ent Tryz.prog 69:=.mk' Tryz.func69 (by kernel_rfl) (by kernel_rfl)
theorem ent75:Ent Tryz.prog 75:=.mk' Tryz.func75 (by kernel_rfl) (by kernel_rfl)
theorem ent82:Ent Tryz.prog 82:=.mk' Tryz.func82 (by kernel_rfl) (by kernel_rfl)
theorem ent84:Ent Tryz.prog 84:=.mk' Tryz.func84 (by kernel_rfl) (by kernel_rfl)
theorem ent85:Ent Tryz.prog 85:=.mk' Tryz.func85 (by kernel_rfl) (by kernel_rfl)
theorem ent86:Ent Tryz.prog 86:=.mk' Tryz.func86 (by kernel_rfl) (by kernel_rfl)
theorem ent87:Ent Tryz.prog 87:=.mk' Tryz.func87 (by kernel_rfl) (by kernel_rfl)
theorem ent88:Ent Tryz.prog 88:=.mk' Tryz.func88 (by kernel_rfl) (by kernel_rfl)
theorem ent92:Ent Tryz.prog 92:=.mk' Tryz.func92 (by kernel_rfl) (by kernel_rfl)
theorem ent93:Ent Tryz.prog 93:=.mk' Tryz.func93 (by kernel_rfl) (by kernel_rfl)
theorem ent94:Ent Tryz.prog 94:=.mk' Tryz.func94 (by kernel_rfl) (by kernel_rfl)
theorem ent95:Ent Tryz.prog 95:=.mk' Tryz.func95 (by kernel_rfl) (by kernel_rfl)
theorem ent122:Ent Tryz.prog 122:=.mk' Tryz.func122 (by kernel_rfl) (by kernel_rfl)
theorem ent123:Ent Tryz.prog 123:=.mk' Tryz.func123 (by kernel_rfl) (by kernel_rfl)
theorem ent124:Ent Tryz.prog 124:=.mk' Tryz.func124 (by kernel_rfl) (by kernel_rfl)
theorem ent125:Ent Tryz.prog 125:=.mk' Tryz.func125 (by kernel_rfl) (by kernel_rfl)
theorem ent126:Ent Tryz.prog 126:=.mk' Tryz.func126 (by kernel_rfl) (by kernel_rfl)
theorem ent127:Ent Tryz.prog 127:=.mk' Tryz.func127 (by kernel_rfl) (by kernel_rfl)
theorem ent128:Ent Tryz.prog 128:=.mk' Tryz.func128 (by kernel_rfl) (by kernel_rfl)
theorem ent129:Ent Tryz.prog 129:=.mk' Tryz.func129 (by kernel_rfl) (by kernel_rfl)
theorem ent134:Ent Tryz.prog 134:=.mk' Tryz.func134 (by kernel_rfl) (by kernel_rfl)
theorem ent135:Ent Tryz.prog 135:=.mk' Tryz.func135 (by kernel_rfl) (by kernel_rfl)
theorem ent136:Ent Tryz.prog 136:=.mk' Tryz.func136 (by kernel_rfl) (by kernel_rfl)
end Go.Proofs.YtmmhmcplegpenaaGreatDoor
