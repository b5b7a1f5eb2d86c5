/- The walks, part LZ. · The walks, part LAA. -/
import Derived.Test.YtmmhmcplegpenaaGreatDoorJ11
namespace Go.Proofs.YtmmhmcplegpenaaGreatDoor
open Go Go.Y Go.Proofs
set_option linter.unusedSimpArgs false
set_option linter.unusedVariables false
theorem nall_c3 {w0 w:World} {G:Ghost} {L:List Res} (M:Mem w0 G L w) {ns:List NotD} {R:List EntD × Nat × Int} (hR:allE c3 l3 ns=R) {ka la an:Option Addr} {kc lc cn:Nat} (SC:RdSl rdKind 9 G (.slice ka c3.kinds.length kc) c3.kinds) (SL:RdSl rdEnt 6 G (.slice la l3.length lc) l3) (SN:RdSl rdNote 5 G (.slice an ns.length cn) ns) (hNX:∀ x∈ns,x.items.length≤900000) :
  Calls Tryz.prog 25 #[.agg #[.slice ka c3.kinds.length kc,.int .i64 1],.agg #[.slice la l3.length lc],.slice an ns.length cn] w (RetM w0 G (fun G' L' v=>∃ (a:Option Addr) (cs:List Value) (Ls:List Res),v=.tuple #[.agg #[.slice a (R).1.length (R).1.length],.int .i64 (((R).2.1:Nat):Int),.int .i64 (R).2.2]∧L' = (OWNR a (R).1.length cs::(Ls++L))∧Els (rdEC Ls) 6 G' cs (R).1)):=by
 rw [← hR]
 exact nall_spec (c:=c3) M SC SL SN hNX
theorem hnl {k:Nat} {a b t:Int} {l:List ItemD} (h:k < 256∧(0≤a∧a≤9)∧(0≤b∧b≤9)∧(0≤t∧t≤9)∧l.length≤9):(⟨k,a,b,t,l⟩:NotD).kind < 256∧inKind .i64 (⟨k,a,b,t,l⟩:NotD).at_∧inKind .i64 (⟨k,a,b,t,l⟩:NotD).count∧inKind .i64 (⟨k,a,b,t,l⟩:NotD).to∧(⟨k,a,b,t,l⟩:NotD).items.length≤9223372036854775807 :=
 ⟨h.1,in_i64 (by show _≤a;omega) (by show a≤_;omega),in_i64 (by show _≤b;omega) (by show b≤_;omega),in_i64 (by show _≤t;omega) (by show t≤_;omega),(by have:=h.2.2.2.2;show l.length≤_;omega)⟩
theorem rdn {G:Ghost} {k:Nat} {a b t:Int} {l:List ItemD} {ad:Option Addr} {c n:Nat} (h:k < 256∧(0≤a∧a≤9)∧(0≤b∧b≤9)∧(0≤t∧t≤9)∧l.length≤9) (hn:n=l.length) (S:RdSl rdItem 4 G (.slice ad n c) l) :
  rdNote G [.int .u8 ((k:Nat):Int),.int .i64 a,.int .i64 b,.int .i64 t,.slice ad n c] ⟨k,a,b,t,l⟩:=by
 subst hn
 obtain ⟨h1,h2,h3,h4,h5⟩:=hnl h
 exact ⟨ad,c,rfl,h1,h2,h3,h4,h5,S⟩
theorem ncheck_is {w0 w:World} {G:Ghost} {L:List Res} (M:Mem w0 G L w) {k:Nat} {a b t z:Int} (h:k < 256∧(0≤a∧a≤9)∧(0≤b∧b≤9)∧(0≤t∧t≤9)∧([]:List ItemD).length≤9) (hz:noteE ⟨k,a,b,t,[]⟩=z) :
  Calls Tryz.prog 37 #[.agg #[.int .u8 ((k:Nat):Int),.int .i64 a,.int .i64 b,.int .i64 t,.slice none 0 0]] w (RetS w0 G L fun v=>v=.int .i64 z):=by
 rw [← hz]
 exact ncheck_spec (x:=⟨k,a,b,t,[]⟩) M (hnl h) RdSl.nil
theorem ln_cell {i n:Nat} (h:lnN[i]?=some n):(#[.int .i64 2,.int .i64 1,.int .i64 2]:Array Value)[i]?=some (.int .i64 ((n:Nat):Int)):=by
 rcases i with _ | _ | _ | i <;> simp only [lnN,List.getElem?_cons_zero,List.getElem?_cons_succ,List.getElem?_nil,Option.some.injEq,reduceCtorEq] at h
 ·subst h;rfl
 ·subst h;rfl
 ·subst h;rfl
theorem lives25_spec {w0 w:World} {G:Ghost} {L:List Res} (M:Mem w0 G L w) (HG:Globs 0 1 2 3 G):Calls Tryz.prog 22 #[] w (Ret w0 G L fun G' v=>v=.bool true):=by
 refine e_start (vs:=[]) Tryz.func22 rfl (n:=148) rfl rfl<|e_seq<|e_reg<|s_as rfl<|e_nil<|e_tn<|e_seq<|e_reg<|s_cR ent36 rfl rfl (three_spec M)<|?_;clear M;rintro _ Gq1 w hGq1 M ⟨kaq1,kcq1,laq1,lcq1,rfl,SCq1,SLq1⟩
 replace HG:=HG.mono hGq1
 refine s_mv rfl<|s_ex rfl rfl<|s_ex rfl rfl<|s_al M tok51 rfl rfl<|?_;clear M;intro b2 w M
 refine s_al M tok54 rfl rfl<|?_;clear M;intro b4 w M
 intro a F
 refine rl_storeA F M tok51 (k:=1) rfl rfl rfl (us:=[.slice (kaq1) (c3.kinds.length) (kcq1),.int .i64 1]) rfl rfl (by simp [Value.oneCell']) (by simp) ?_;clear F M a;intro w a M F
 change Mem w0 Gq1 (_::.blk b2 [.slice (kaq1) (c3.kinds.length) (kcq1),.int .i64 1] 51::L) _ at M
 refine rl_storeA F M tok54 (k:=0) rfl rfl rfl (us:=[.slice (laq1) (l3.length) (lcq1)]) rfl rfl (by simp [Value.oneCell']) (by simp) ?_;clear F M a;intro w a M F
 change Mem w0 Gq1 (.blk b4 [.slice (laq1) (l3.length) (lcq1)] 54::.blk b2 [.slice (kaq1) (c3.kinds.length) (kcq1),.int .i64 1] 51::L) _ at M
 revert a
 refine e_nil<|e_tn<|e_seq<|e_reg<|e_run (fun a F=>run_buildS (cs:=[.int .u8 2,.int .i64 0,.int .i64 1,.int .i64 0,.slice none 0 0]) (ps:=[(0,.int .u8 2),(2,.int .i64 1)]) tok65.k rfl tok65 (F.evp rfl) rfl) rfl<|e_run (fun a F=>run_buildS (cs:=[.int .u64 9,.int .u8 0,.string (str ([]:List UInt8)),.slice none 0 0]) (ps:=[(0,.int .u64 9)]) tok26.k rfl tok26 (F.evp rfl) rfl) rfl<|fun a F=>?_
 refine rl_buildSlice1 F M tok22.k tok26 rfl rfl (cs:=[.int .u64 9,.int .u8 0,.string (str ([]:List UInt8)),.slice none 0 0]) rfl rfl (by simp [Value.oneCell']) (by decide) rfl ?_;clear F M a;intro v6 w a M F
 obtain ⟨av6,cv6,rfl,hlev6,hcmv6,hlv6⟩:=M.row_shape (k:=0) rfl
 have Ei7:Els rdItem 4 Gq1 [.int .u64 9,.int .u8 0,.string (str ([]:List UInt8)),.slice none 0 0] [it3 9]:=⟨[.int .u64 9,.int .u8 0,.string (str []),.slice none 0 0],_,rfl,rfl,⟨none,0,rfl,by decide,by decide,by decide,by decide,RdSl.nil⟩,rfl⟩
 obtain ⟨hnz8,Gz8,az8,cz8,hGz8,hez8,Sz8,M⟩:=M.freeze_row mono_rdItem (k:=0) rfl Ei7 (by decide)
 clear hez8 az8 cz8
 replace HG:=HG.mono hGz8
 replace SCq1:=SCq1.mono mono_rdKind hGz8
 replace SLq1:=SLq1.mono mono_rdEnt hGz8
 revert a
 refine e_run (fun a F=>run_buildS (cs:=[.int .u8 1,.int .i64 2,.int .i64 0,.int .i64 0,.slice (av6) 1 (cv6)]) (ps:=[(0,.int .u8 1),(1,.int .i64 2),(4,.slice (av6) 1 (cv6))]) tok65.k rfl tok65 (F.evp rfl) rfl) rfl<|e_run (fun a F=>run_buildS (cs:=[.int .u8 3,.int .i64 0,.int .i64 1,.int .i64 2,.slice none 0 0]) (ps:=[(0,.int .u8 3),(2,.int .i64 1),(3,.int .i64 2)]) tok65.k rfl tok65 (F.evp rfl) rfl) rfl<|fun a F=>?_
 refine rl_buildSliceN F M tok47.k tok65 (ps:=[(0,.agg #[.int .u8 2,.int .i64 0,.int .i64 1,.int .i64 0,.slice none 0 0]),(1,.agg #[.int .u8 1,.int .i64 2,.int .i64 0,.int .i64 0,.slice (av6) 1 (cv6)]),(2,.agg #[.int .u8 3,.int .i64 0,.int .i64 1,.int .i64 2,.slice none 0 0])]) (cs:=[[.int .u8 2,.int .i64 0,.int .i64 1,.int .i64 0,.slice none 0 0],[.int .u8 1,.int .i64 2,.int .i64 0,.int .i64 0,.slice (av6) 1 (cv6)],[.int .u8 3,.int .i64 0,.int .i64 1,.int .i64 2,.slice none 0 0]]) (fl:=[.int .u8 2,.int .i64 0,.int .i64 1,.int .i64 0,.slice none 0 0,.int .u8 1,.int .i64 2,.int .i64 0,.int .i64 0,.slice (av6) 1 (cv6),.int .u8 3,.int .i64 0,.int .i64 1,.int .i64 2,.slice none 0 0]) rfl rfl (by simp [Parts,Value.cells]) (by simp [ti65]) rfl (by simp [Value.oneCell']) (by decide) (by decide) rfl ?_;clear F M a;intro v9 w a M F
 obtain ⟨av9,cv9,rfl,hlev9,hcmv9,hlv9⟩:=M.row_shape (k:=0) rfl
 have En10:Els rdNote 5 Gz8 [.int .u8 2,.int .i64 0,.int .i64 1,.int .i64 0,.slice none 0 0,.int .u8 1,.int .i64 2,.int .i64 0,.int .i64 0,.slice (av6) 1 (cv6),.int .u8 3,.int .i64 0,.int .i64 1,.int .i64 2,.slice none 0 0] some3:=⟨_,_,rfl,rfl,rdn (by decide) rfl RdSl.nil,⟨_,_,rfl,rfl,rdn (by decide) rfl Sz8,⟨_,_,rfl,rfl,rdn (by decide) rfl RdSl.nil,rfl⟩⟩⟩
 obtain ⟨hnz11,Gz11,az11,cz11,hGz11,hez11,Sz11,M⟩:=M.freeze_row mono_rdNote (k:=0) rfl En10 (by decide)
 clear hez11 az11 cz11
 replace HG:=HG.mono hGz11
 replace SCq1:=SCq1.mono mono_rdKind hGz11
 replace SLq1:=SLq1.mono mono_rdEnt hGz11
 replace Sz8:=Sz8.mono mono_rdItem hGz11
 revert a
 refine s_as rfl<|e_nil<|e_tn<|e_seq<|e_reg<|e_run (fun a F=>run_loadA tok51 rfl (F.ev rfl) (cs:=[.slice (kaq1) (c3.kinds.length) (kcq1),.int .i64 1]) rfl (M.cellsL (k:=1) rfl rfl)) rfl<|e_run (fun a F=>run_loadA tok54 rfl (F.ev rfl) (cs:=[.slice (laq1) (l3.length) (lcq1)]) rfl (M.cellsL (k:=0) rfl rfl)) rfl<|s_mv rfl<|fun a F=>?_
 refine rl_callM F ent25 rfl rfl (nall_c3 (ns:=some3) M all3 SCq1 SLq1 Sz11 (by decide)) ?_;clear F M a;rintro _ Gq12 _ w a hGq12 M ⟨aoq12,csq12,Loq12,rfl,rfl,Eoq12⟩ F
 replace HG:=HG.mono hGq12
 replace SCq1:=SCq1.mono mono_rdKind hGq12
 replace SLq1:=SLq1.mono mono_rdEnt hGq12
 replace Sz8:=Sz8.mono mono_rdItem hGq12
 replace Sz11:=Sz11.mono mono_rdNote hGq12
 have M:=M.perm (perm_mid (OWNR aoq12 (([en3 3,en3 9,en3 2]:List EntD),(3:Nat),(0:Int)).1.length csq12::Loq12) [.blk b4 [.slice (laq1) (l3.length) (lcq1)] 54,.blk b2 [.slice (kaq1) (c3.kinds.length) (kcq1),.int .i64 1] 51] L)
 obtain ⟨Ggq12,hGgq12,M,Sgq12⟩:=own_give (M.perm (perm_mid [.blk b4 [.slice (laq1) (l3.length) (lcq1)] 54,.blk b2 [.slice (kaq1) (c3.kinds.length) (kcq1),.int .i64 1] 51] (OWNR aoq12 (([en3 3,en3 9,en3 2]:List EntD),(3:Nat),(0:Int)).1.length csq12::Loq12) L)) Eoq12
 replace HG:=HG.mono hGgq12
 replace SCq1:=SCq1.mono mono_rdKind hGgq12
 replace SLq1:=SLq1.mono mono_rdEnt hGgq12
 replace Sz8:=Sz8.mono mono_rdItem hGgq12
 replace Sz11:=Sz11.mono mono_rdNote hGgq12
 change Mem w0 Ggq12 (.blk b4 [.slice (laq1) (l3.length) (lcq1)] 54::.blk b2 [.slice (kaq1) (c3.kinds.length) (kcq1),.int .i64 1] 51::L) _ at M
 revert a
 refine s_mv rfl<|s_ex rfl rfl<|s_ex rfl rfl<|s_ex rfl rfl<|s_al M tok54 rfl rfl<|?_;clear M;intro b13 w M
 intro a F
 refine rl_storeA F M tok54 (k:=0) rfl rfl rfl (us:=[.slice (aoq12) ((([en3 3,en3 9,en3 2]:List EntD),(3:Nat),(0:Int)).1.length) ((([en3 3,en3 9,en3 2]:List EntD),(3:Nat),(0:Int)).1.length)]) rfl rfl (by simp [Value.oneCell']) (by simp) ?_;clear F M a;intro w a M F
 change Mem w0 Ggq12 (.blk b13 [.slice (aoq12) ((([en3 3,en3 9,en3 2]:List EntD),(3:Nat),(0:Int)).1.length) ((([en3 3,en3 9,en3 2]:List EntD),(3:Nat),(0:Int)).1.length)] 54::.blk b4 [.slice (laq1) (l3.length) (lcq1)] 54::.blk b2 [.slice (kaq1) (c3.kinds.length) (kcq1),.int .i64 1] 51::L) _ at M
 revert a
 refine s_as rfl<|s_as rfl<|e_nil<|e_tn<|e_seq<|e_reg<|e_run (fun a F=>run_loadA tok51 rfl (F.ev rfl) (cs:=[.slice (kaq1) (c3.kinds.length) (kcq1),.int .i64 1]) rfl (M.cellsL (k:=2) rfl rfl)) rfl<|e_run (fun a F=>run_loadA tok54 rfl (F.ev rfl) (cs:=[.slice (laq1) (l3.length) (lcq1)]) rfl (M.cellsL (k:=1) rfl rfl)) rfl<|e_run (fun a F=>run_buildS (cs:=[.int .u8 2,.int .i64 0,.int .i64 1,.int .i64 0,.slice none 0 0]) (ps:=[(0,.int .u8 2),(2,.int .i64 1)]) tok65.k rfl tok65 (F.evp rfl) rfl) rfl<|e_run (fun a F=>run_buildS (cs:=[.int .u8 2,.int .i64 2,.int .i64 1,.int .i64 0,.slice none 0 0]) (ps:=[(0,.int .u8 2),(1,.int .i64 2),(2,.int .i64 1)]) tok65.k rfl tok65 (F.evp rfl) rfl) rfl<|fun a F=>?_
 refine rl_buildSliceN F M tok47.k tok65 (ps:=[(0,.agg #[.int .u8 2,.int .i64 0,.int .i64 1,.int .i64 0,.slice none 0 0]),(1,.agg #[.int .u8 2,.int .i64 2,.int .i64 1,.int .i64 0,.slice none 0 0])]) (cs:=[[.int .u8 2,.int .i64 0,.int .i64 1,.int .i64 0,.slice none 0 0],[.int .u8 2,.int .i64 2,.int .i64 1,.int .i64 0,.slice none 0 0]]) (fl:=[.int .u8 2,.int .i64 0,.int .i64 1,.int .i64 0,.slice none 0 0,.int .u8 2,.int .i64 2,.int .i64 1,.int .i64 0,.slice none 0 0]) rfl rfl (by simp [Parts,Value.cells]) (by simp [ti65]) rfl (by simp [Value.oneCell']) (by decide) (by decide) rfl ?_;clear F M a;intro v15 w a M F
 obtain ⟨av15,cv15,rfl,hlev15,hcmv15,hlv15⟩:=M.row_shape (k:=0) rfl
 have En16:Els rdNote 5 Ggq12 [.int .u8 2,.int .i64 0,.int .i64 1,.int .i64 0,.slice none 0 0,.int .u8 2,.int .i64 2,.int .i64 1,.int .i64 0,.slice none 0 0] none3:=⟨_,_,rfl,rfl,rdn (by decide) rfl RdSl.nil,⟨_,_,rfl,rfl,rdn (by decide) rfl RdSl.nil,rfl⟩⟩
 obtain ⟨hnz17,Gz17,az17,cz17,hGz17,hez17,Sz17,M⟩:=M.freeze_row mono_rdNote (k:=0) rfl En16 (by decide)
 clear hez17 az17 cz17
 replace HG:=HG.mono hGz17
 replace SCq1:=SCq1.mono mono_rdKind hGz17
 replace SLq1:=SLq1.mono mono_rdEnt hGz17
 replace Sz8:=Sz8.mono mono_rdItem hGz17
 replace Sz11:=Sz11.mono mono_rdNote hGz17
 replace Sgq12:=Sgq12.mono mono_rdEnt hGz17
 refine rl_callM F ent25 rfl rfl (nall_c3 (ns:=none3) M all3b SCq1 SLq1 Sz17 (by decide)) ?_;clear F M a;rintro _ Gq18 _ w a hGq18 M ⟨aoq18,csq18,Loq18,rfl,rfl,Eoq18⟩ F
 replace HG:=HG.mono hGq18
 replace SCq1:=SCq1.mono mono_rdKind hGq18
 replace SLq1:=SLq1.mono mono_rdEnt hGq18
 replace Sz8:=Sz8.mono mono_rdItem hGq18
 replace Sz11:=Sz11.mono mono_rdNote hGq18
 replace Sgq12:=Sgq12.mono mono_rdEnt hGq18
 replace Sz17:=Sz17.mono mono_rdNote hGq18
 have M:=M.perm (perm_mid (OWNR aoq18 (([]:List EntD),(1:Nat),(4:Int)).1.length csq18::Loq18) [.blk b13 [.slice (aoq12) ((([en3 3,en3 9,en3 2]:List EntD),(3:Nat),(0:Int)).1.length) ((([en3 3,en3 9,en3 2]:List EntD),(3:Nat),(0:Int)).1.length)] 54,.blk b4 [.slice (laq1) (l3.length) (lcq1)] 54,.blk b2 [.slice (kaq1) (c3.kinds.length) (kcq1),.int .i64 1] 51] L)
 obtain ⟨Ggq18,hGgq18,M,Sgq18⟩:=own_give (M.perm (perm_mid [.blk b13 [.slice (aoq12) ((([en3 3,en3 9,en3 2]:List EntD),(3:Nat),(0:Int)).1.length) ((([en3 3,en3 9,en3 2]:List EntD),(3:Nat),(0:Int)).1.length)] 54,.blk b4 [.slice (laq1) (l3.length) (lcq1)] 54,.blk b2 [.slice (kaq1) (c3.kinds.length) (kcq1),.int .i64 1] 51] (OWNR aoq18 (([]:List EntD),(1:Nat),(4:Int)).1.length csq18::Loq18) L)) Eoq18
 replace HG:=HG.mono hGgq18
 replace SCq1:=SCq1.mono mono_rdKind hGgq18
 replace SLq1:=SLq1.mono mono_rdEnt hGgq18
 replace Sz8:=Sz8.mono mono_rdItem hGgq18
 replace Sz11:=Sz11.mono mono_rdNote hGgq18
 replace Sgq12:=Sgq12.mono mono_rdEnt hGgq18
 replace Sz17:=Sz17.mono mono_rdNote hGgq18
 change Mem w0 Ggq18 (.blk b13 [.slice (aoq12) ((([en3 3,en3 9,en3 2]:List EntD),(3:Nat),(0:Int)).1.length) ((([en3 3,en3 9,en3 2]:List EntD),(3:Nat),(0:Int)).1.length)] 54::.blk b4 [.slice (laq1) (l3.length) (lcq1)] 54::.blk b2 [.slice (kaq1) (c3.kinds.length) (kcq1),.int .i64 1] 51::L) _ at M
 revert a
 refine s_mv rfl<|s_ex rfl rfl<|s_ex rfl rfl<|s_ex rfl rfl<|s_al M tok54 rfl rfl<|?_;clear M;intro b19 w M
 intro a F
 refine rl_storeA F M tok54 (k:=0) rfl rfl rfl (us:=[.slice (aoq18) ((([]:List EntD),(1:Nat),(4:Int)).1.length) ((([]:List EntD),(1:Nat),(4:Int)).1.length)]) rfl rfl (by simp [Value.oneCell']) (by simp) ?_;clear F M a;intro w a M F
 change Mem w0 Ggq18 (.blk b19 [.slice (aoq18) ((([]:List EntD),(1:Nat),(4:Int)).1.length) ((([]:List EntD),(1:Nat),(4:Int)).1.length)] 54::.blk b13 [.slice (aoq12) ((([en3 3,en3 9,en3 2]:List EntD),(3:Nat),(0:Int)).1.length) ((([en3 3,en3 9,en3 2]:List EntD),(3:Nat),(0:Int)).1.length)] 54::.blk b4 [.slice (laq1) (l3.length) (lcq1)] 54::.blk b2 [.slice (kaq1) (c3.kinds.length) (kcq1),.int .i64 1] 51::L) _ at M
 revert a
 refine s_as rfl<|s_as rfl<|e_nil<|e_tn<|e_seq<|e_seq<|e_reg<|e_run (fun a F=>run_buildS (cs:=[.int .u8 2,.int .i64 0,.int .i64 0,.int .i64 1,.slice none 0 0]) (ps:=[(0,.int .u8 2),(3,.int .i64 1)]) tok65.k rfl tok65 (F.evp rfl) rfl) rfl<|s_cS ent37 rfl rfl (ncheck_is (k:=2) (a:=0) (b:=0) (t:=1) (z:=5) M (by decide) (by decide))<|?_;clear M;rintro _ w M rfl
 refine s_ne rfl rfl<|s_mv rfl<|g_t rfl (not_f (decide_eq_true (by decide)))<|e_run (fun a F=>run_buildS (cs:=[.int .u8 6,.int .i64 0,.int .i64 0,.int .i64 0,.slice none 0 0]) (ps:=[(0,.int .u8 6)]) tok65.k rfl tok65 (F.evp rfl) rfl) rfl<|g_t rfl (not_f (decide_eq_true (by decide)))<|s_cS ent37 rfl rfl (ncheck_is (k:=6) (a:=0) (b:=0) (t:=0) (z:=1) M (by decide) (by decide))<|?_;clear M;rintro _ w M rfl
 refine g_t rfl (not_f (decide_eq_true (by decide)))<|s_ne rfl rfl<|s_pf rfl (not_f (decide_eq_true (by decide))) rfl<|s_mv rfl<|g_t rfl (not_f (decide_eq_true (by decide)))<|e_run (fun a F=>run_buildS (cs:=[.int .u8 5,.int .i64 0,.int .i64 0,.int .i64 0,.slice none 0 0]) (ps:=[(0,.int .u8 5)]) tok65.k rfl tok65 (F.evp rfl) rfl) rfl<|g_t rfl (not_f (decide_eq_true (by decide)))<|s_cS ent37 rfl rfl (ncheck_is (k:=5) (a:=0) (b:=0) (t:=0) (z:=0) M (by decide) (by decide))<|?_;clear M;rintro _ w M rfl
 refine g_t rfl (not_f (decide_eq_true (by decide)))<|s_ne rfl rfl<|s_pf rfl (not_f (decide_eq_true (by decide))) rfl<|s_mv rfl<|g_t rfl (not_f (decide_eq_true (by decide)))<|s_mv rfl<|g_t rfl (not_f (decide_eq_true (by decide)))<|s_ne rfl rfl<|s_pf rfl (not_f (decide_eq_true (by decide))) rfl<|s_mv rfl<|g_t rfl (not_f (decide_eq_true (by decide)))<|s_mv rfl<|g_t rfl (not_f (decide_eq_true (by decide)))<|s_ne rfl rfl<|s_pf rfl (not_f (decide_eq_true (by decide))) rfl<|s_mv rfl<|g_t rfl (not_f (decide_eq_true (by decide)))<|s_fa tok54.k rfl rfl<|g_t rfl (not_f (decide_eq_true (by decide)))<|s_ld tok52 M 1 rfl rfl rfl rfl<|g_t rfl (not_f (decide_eq_true (by decide)))<|s_ls tok52.k rfl<|g_t rfl (not_f (decide_eq_true (by decide)))<|s_ne rfl rfl<|?_
 refine s_pf rfl (not_f (decide_eq_true (by decide))) rfl<|s_mv rfl<|?_
 have hg21:(!(decide ((((([en3 3,en3 9,en3 2]:List EntD),(3:Nat),(0:Int)).1.length:Nat):Int)=3)))=false:=(not_f (decide_eq_true (by (first | omega | rfl | decide))))
 refine g_t rfl hg21<|s_mv rfl<|g_t rfl hg21<|s_ne rfl rfl<|s_pf rfl hg21 rfl<|s_mv rfl<|g_t rfl (not_f (decide_eq_true (by decide)))<|s_mv rfl<|g_t rfl (not_f (decide_eq_true (by decide)))<|s_ne rfl rfl<|s_pf rfl (not_f (decide_eq_true (by decide))) rfl<|s_mv rfl<|g_t rfl (not_f (decide_eq_true (by decide)))<|s_fa tok54.k rfl rfl<|g_t rfl (not_f (decide_eq_true (by decide)))<|s_ld tok52 M 0 rfl rfl rfl rfl<|g_t rfl (not_f (decide_eq_true (by decide)))<|s_ls tok52.k rfl<|g_t rfl (not_f (decide_eq_true (by decide)))<|s_ne rfl rfl<|s_pf rfl (not_f (decide_eq_true (by decide))) rfl<|e_nil<|e_tn<|e_cond_f rfl (not_f (decide_eq_true (by decide)))<|?_
 refine e_skip<|e_tn<|e_seq<|e_seq<|e_reg<|s_fa tok54.k rfl rfl<|s_ld tok52 M 1 rfl rfl rfl rfl<|?_
 obtain ⟨be22,oe22,_,Ie22,_,Ae22,hTe22⟩:=Sgq12.at (show ([en3 3,en3 9,en3 2]:List EntD)[0]?=some (en3 3) from rfl)
 obtain ⟨c1e22,hcse22,hPe22,hBe22⟩:=hTe22
 obtain ⟨mae22,mce22,rfl,hke22,hte22,hxe22,hne22,SMe22⟩:=hPe22
 subst hcse22
 have hIe22:(((en3 3).item).key < 18446744073709551616∧((en3 3).item).typ < 256∧((en3 3).item).text.length≤9223372036854775807):=⟨hke22,hte22,hxe22⟩
 have hQe22:-9223372036854775808≤(en3 3).size∧(en3 3).size≤9223372036854775807:=hBe22
 refine s_ix tok52.k tok69 Ie22 rfl rfl<|s_fa tok69.k rfl rfl<|s_fa tok26.k rfl rfl<|s_la tok23 M Ae22 0 rfl rfl (by omega) rfl<|s_ne rfl rfl<|s_mv rfl<|?_
 have hg23:(!(decide (((((en3 3).item).key:Nat):Int)=3)))=false:=(not_f (decide_eq_true (by (first | omega | rfl | decide))))
 refine g_t rfl hg23<|s_fa tok54.k rfl rfl<|g_t rfl hg23<|s_ld tok52 M 1 rfl rfl rfl rfl<|g_t rfl hg23<|?_
 obtain ⟨be24,oe24,_,Ie24,_,Ae24,hTe24⟩:=Sgq12.at (show ([en3 3,en3 9,en3 2]:List EntD)[1]?=some (en3 9) from rfl)
 obtain ⟨c1e24,hcse24,hPe24,hBe24⟩:=hTe24
 obtain ⟨mae24,mce24,rfl,hke24,hte24,hxe24,hne24,SMe24⟩:=hPe24
 subst hcse24
 have hIe24:(((en3 9).item).key < 18446744073709551616∧((en3 9).item).typ < 256∧((en3 9).item).text.length≤9223372036854775807):=⟨hke24,hte24,hxe24⟩
 have hQe24:-9223372036854775808≤(en3 9).size∧(en3 9).size≤9223372036854775807:=hBe24
 refine s_ix tok52.k tok69 Ie24 rfl rfl<|g_t rfl hg23<|s_fa tok69.k rfl rfl<|g_t rfl hg23<|s_fa tok26.k rfl rfl<|g_t rfl hg23<|s_la tok23 M Ae24 0 rfl rfl (by omega) rfl<|g_t rfl hg23<|s_ne rfl rfl<|s_pf rfl hg23 rfl<|s_mv rfl<|?_
 have hg25:(!(decide (((((en3 9).item).key:Nat):Int)=9)))=false:=(not_f (decide_eq_true (by (first | omega | rfl | decide))))
 refine g_t rfl hg25<|s_fa tok54.k rfl rfl<|g_t rfl hg25<|s_ld tok52 M 1 rfl rfl rfl rfl<|g_t rfl hg25<|?_
 obtain ⟨be26,oe26,_,Ie26,_,Ae26,hTe26⟩:=Sgq12.at (show ([en3 3,en3 9,en3 2]:List EntD)[2]?=some (en3 2) from rfl)
 obtain ⟨c1e26,hcse26,hPe26,hBe26⟩:=hTe26
 obtain ⟨mae26,mce26,rfl,hke26,hte26,hxe26,hne26,SMe26⟩:=hPe26
 subst hcse26
 have hIe26:(((en3 2).item).key < 18446744073709551616∧((en3 2).item).typ < 256∧((en3 2).item).text.length≤9223372036854775807):=⟨hke26,hte26,hxe26⟩
 have hQe26:-9223372036854775808≤(en3 2).size∧(en3 2).size≤9223372036854775807:=hBe26
 refine s_ix tok52.k tok69 Ie26 rfl rfl<|g_t rfl hg25<|s_fa tok69.k rfl rfl<|g_t rfl hg25<|s_fa tok26.k rfl rfl<|g_t rfl hg25<|s_la tok23 M Ae26 0 rfl rfl (by omega) rfl<|g_t rfl hg25<|s_ne rfl rfl<|s_pf rfl hg25 rfl<|e_nil<|e_tn<|e_cond_f rfl (not_f (decide_eq_true (by decide)))<|e_skip<|e_tn<|e_seq<|e_reg<|e_run (fun a F=>run_buildS (cs:=[.int .u64 9,.int .u8 0,.string (str ([120]:List UInt8)),.slice none 0 0]) (ps:=[(0,.int .u64 9),(2,.string (str ([120]:List UInt8)))]) tok26.k rfl tok26 (F.evp rfl) rfl) rfl<|fun a F=>?_
 refine rl_buildSlice1 F M tok22.k tok26 rfl rfl (cs:=[.int .u64 9,.int .u8 0,.string (str ([120]:List UInt8)),.slice none 0 0]) rfl rfl (by simp [Value.oneCell']) (by decide) rfl ?_;clear F M a;intro v27 w a M F
 obtain ⟨av27,cv27,rfl,hlev27,hcmv27,hlv27⟩:=M.row_shape (k:=0) rfl
 have Ei28:Els rdItem 4 Ggq18 [.int .u64 9,.int .u8 0,.string (str ([120]:List UInt8)),.slice none 0 0] [⟨9,0,[120],[]⟩]:=⟨[.int .u64 9,.int .u8 0,.string (str [120]),.slice none 0 0],_,rfl,rfl,⟨none,0,rfl,by decide,by decide,by decide,by decide,RdSl.nil⟩,rfl⟩
 obtain ⟨hnz29,Gz29,az29,cz29,hGz29,hez29,Sz29,M⟩:=M.freeze_row mono_rdItem (k:=0) rfl Ei28 (by decide)
 clear hez29 az29 cz29
 replace HG:=HG.mono hGz29
 replace SCq1:=SCq1.mono mono_rdKind hGz29
 replace SLq1:=SLq1.mono mono_rdEnt hGz29
 replace Sz8:=Sz8.mono mono_rdItem hGz29
 replace Sz11:=Sz11.mono mono_rdNote hGz29
 replace Sgq12:=Sgq12.mono mono_rdEnt hGz29
 replace Sz17:=Sz17.mono mono_rdNote hGz29
 replace Sgq18:=Sgq18.mono mono_rdEnt hGz29
 replace Ae22:=Ae22.mono hGz29
 replace SMe22:=SMe22.mono mono_rdStr hGz29
 replace Ae24:=Ae24.mono hGz29
 replace SMe24:=SMe24.mono mono_rdStr hGz29
 replace Ae26:=Ae26.mono hGz29
 replace SMe26:=SMe26.mono mono_rdStr hGz29
 revert a
 refine e_run (fun a F=>run_buildS (cs:=[.int .u8 1,.int .i64 2,.int .i64 0,.int .i64 0,.slice (av27) 1 (cv27)]) (ps:=[(0,.int .u8 1),(1,.int .i64 2),(4,.slice (av27) 1 (cv27))]) tok65.k rfl tok65 (F.evp rfl) rfl) rfl<|e_run (fun a F=>run_buildS (cs:=[.int .u8 2,.int .i64 0,.int .i64 1,.int .i64 0,.slice none 0 0]) (ps:=[(0,.int .u8 2),(2,.int .i64 1)]) tok65.k rfl tok65 (F.evp rfl) rfl) rfl<|fun a F=>?_
 refine rl_buildSliceN F M tok47.k tok65 (ps:=[(0,.agg #[.int .u8 1,.int .i64 2,.int .i64 0,.int .i64 0,.slice (av27) 1 (cv27)]),(1,.agg #[.int .u8 2,.int .i64 0,.int .i64 1,.int .i64 0,.slice none 0 0])]) (cs:=[[.int .u8 1,.int .i64 2,.int .i64 0,.int .i64 0,.slice (av27) 1 (cv27)],[.int .u8 2,.int .i64 0,.int .i64 1,.int .i64 0,.slice none 0 0]]) (fl:=[.int .u8 1,.int .i64 2,.int .i64 0,.int .i64 0,.slice (av27) 1 (cv27),.int .u8 2,.int .i64 0,.int .i64 1,.int .i64 0,.slice none 0 0]) rfl rfl (by simp [Parts,Value.cells]) (by simp [ti65]) rfl (by simp [Value.oneCell']) (by decide) (by decide) rfl ?_;clear F M a;intro v30 w a M F
 obtain ⟨av30,cv30,rfl,hlev30,hcmv30,hlv30⟩:=M.row_shape (k:=0) rfl
 have En31:Els rdNote 5 Gz29 [.int .u8 1,.int .i64 2,.int .i64 0,.int .i64 0,.slice (av27) 1 (cv27),.int .u8 2,.int .i64 0,.int .i64 1,.int .i64 0,.slice none 0 0] textL:=⟨_,_,rfl,rfl,rdn (by decide) rfl Sz29,⟨_,_,rfl,rfl,rdn (by decide) rfl RdSl.nil,rfl⟩⟩
 obtain ⟨hnz32,Gz32,az32,cz32,hGz32,hez32,Sz32,M⟩:=M.freeze_row mono_rdNote (k:=0) rfl En31 (by decide)
 clear hez32 az32 cz32
 replace HG:=HG.mono hGz32
 replace SCq1:=SCq1.mono mono_rdKind hGz32
 replace SLq1:=SLq1.mono mono_rdEnt hGz32
 replace Sz8:=Sz8.mono mono_rdItem hGz32
 replace Sz11:=Sz11.mono mono_rdNote hGz32
 replace Sgq12:=Sgq12.mono mono_rdEnt hGz32
 replace Sz17:=Sz17.mono mono_rdNote hGz32
 replace Sgq18:=Sgq18.mono mono_rdEnt hGz32
 replace Ae22:=Ae22.mono hGz32
 replace SMe22:=SMe22.mono mono_rdStr hGz32
 replace Ae24:=Ae24.mono hGz32
 replace SMe24:=SMe24.mono mono_rdStr hGz32
 replace Ae26:=Ae26.mono hGz32
 replace SMe26:=SMe26.mono mono_rdStr hGz32
 replace Sz29:=Sz29.mono mono_rdItem hGz32
 revert a
 refine s_cR ent32 rfl rfl (ntext_spec (ns:=textL) M HG Sz32)<|?_;clear M;rintro _ Gq33 w hGq33 M rfl
 replace HG:=HG.mono hGq33
 replace SCq1:=SCq1.mono mono_rdKind hGq33
 replace SLq1:=SLq1.mono mono_rdEnt hGq33
 replace Sz8:=Sz8.mono mono_rdItem hGq33
 replace Sz11:=Sz11.mono mono_rdNote hGq33
 replace Sgq12:=Sgq12.mono mono_rdEnt hGq33
 replace Sz17:=Sz17.mono mono_rdNote hGq33
 replace Sgq18:=Sgq18.mono mono_rdEnt hGq33
 replace Ae22:=Ae22.mono hGq33
 replace SMe22:=SMe22.mono mono_rdStr hGq33
 replace Ae24:=Ae24.mono hGq33
 replace SMe24:=SMe24.mono mono_rdStr hGq33
 replace Ae26:=Ae26.mono hGq33
 replace SMe26:=SMe26.mono mono_rdStr hGq33
 replace Sz29:=Sz29.mono mono_rdItem hGq33
 replace Sz32:=Sz32.mono mono_rdNote hGq33
 intro a F
 rw [textL_ok.1,textL_ok.2] at F
 revert a
 refine s_mv rfl<|s_ex rfl rfl<|s_ex rfl rfl<|s_as rfl<|s_as rfl<|e_nil<|e_tn<|e_seq<|e_seq<|e_reg<|fun a F=>?_
 refine rl_buildSliceN F M tok24.k tok9 (ps:=[(0,.string (str ([105,110,115,101,114,116,32,48,32,49,10]:List UInt8))),(1,.string (str ([114,101,109,111,118,101,32,48,10]:List UInt8))),(2,.string (str ([114,101,115,101,116,32,48,10,102,111,111,10]:List UInt8)))]) (cs:=[[.string (str ([105,110,115,101,114,116,32,48,32,49,10]:List UInt8))],[.string (str ([114,101,109,111,118,101,32,48,10]:List UInt8))],[.string (str ([114,101,115,101,116,32,48,10,102,111,111,10]:List UInt8))]]) (fl:=[.string (str ([105,110,115,101,114,116,32,48,32,49,10]:List UInt8)),.string (str ([114,101,109,111,118,101,32,48,10]:List UInt8)),.string (str ([114,101,115,101,116,32,48,10,102,111,111,10]:List UInt8))]) rfl rfl (by simp [Parts,Value.cells]) (by simp [ti9]) rfl (by simp [Value.oneCell']) (by decide) (by decide) rfl ?_;clear F M a;intro v34 w a M F
 obtain ⟨av34,cv34,rfl,hlev34,hcmv34,hlv34⟩:=M.row_shape (k:=0) rfl
 have Et:Els rdStr 1 Gq33 [.string (str ([105,110,115,101,114,116,32,48,32,49,10]:List UInt8)),.string (str ([114,101,109,111,118,101,32,48,10]:List UInt8)),.string (str ([114,101,115,101,116,32,48,10,102,111,111,10]:List UInt8))] badT:=els_strs badT (by intro y hy;simp only [badT,List.mem_cons,List.not_mem_nil,or_false] at hy;rcases hy with rfl | rfl | rfl <;> decide)
 obtain ⟨hnz35,Gz35,az35,cz35,hGz35,hez35,Sz35,M⟩:=M.freeze_row mono_rdStr (k:=0) rfl Et (by decide)
 clear hez35 az35 cz35
 replace HG:=HG.mono hGz35
 replace SCq1:=SCq1.mono mono_rdKind hGz35
 replace SLq1:=SLq1.mono mono_rdEnt hGz35
 replace Sz8:=Sz8.mono mono_rdItem hGz35
 replace Sz11:=Sz11.mono mono_rdNote hGz35
 replace Sgq12:=Sgq12.mono mono_rdEnt hGz35
 replace Sz17:=Sz17.mono mono_rdNote hGz35
 replace Sgq18:=Sgq18.mono mono_rdEnt hGz35
 replace Ae22:=Ae22.mono hGz35
 replace SMe22:=SMe22.mono mono_rdStr hGz35
 replace Ae24:=Ae24.mono hGz35
 replace SMe24:=SMe24.mono mono_rdStr hGz35
 replace Ae26:=Ae26.mono hGz35
 replace SMe26:=SMe26.mono mono_rdStr hGz35
 replace Sz29:=Sz29.mono mono_rdItem hGz35
 replace Sz32:=Sz32.mono mono_rdNote hGz35
 revert a
 refine s_ls tok24.k rfl<|s_mv rfl<|e_nil<|e_tn<|e_block<|fun a F=>w_loopN (fun m a' w'=>∃ (i:Nat),m=3 - i∧∃ G36,Gle Gz35 G36∧Fits 148 a' [(6,.int .i64 0),(10,.string (str ([105,110,115,101,114,116,32,50,32,49,10,57,32,48,32,45,32,120,10,114,101,109,111,118,101,32,48,32,49,10]:List UInt8))),(119,.slice (av34) 3 (cv34)),(120,.int .i64 (((3:Nat):Int))),(121,.int .i64 (((i:Nat):Int)))]∧Mem w0 G36 (.blk b19 [.slice (aoq18) ((([]:List EntD),(1:Nat),(4:Int)).1.length) ((([]:List EntD),(1:Nat),(4:Int)).1.length)] 54::.blk b13 [.slice (aoq12) ((([en3 3,en3 9,en3 2]:List EntD),(3:Nat),(0:Int)).1.length) ((([en3 3,en3 9,en3 2]:List EntD),(3:Nat),(0:Int)).1.length)] 54::.blk b4 [.slice (laq1) (l3.length) (lcq1)] 54::.blk b2 [.slice (kaq1) (c3.kinds.length) (kcq1),.int .i64 1] 51::L) w'∧(i≤3)) _ ⟨0,rfl,Gz35,Gle.refl _,F.to ⟨rfl,rfl,rfl,rfl,rfl,trivial⟩,M,by omega⟩ ?_
 clear F M
 rintro m a w ⟨i,rfl,G36,hG36,F,M,hi⟩
 replace HG:=HG.mono hG36
 replace SCq1:=SCq1.mono mono_rdKind hG36
 replace SLq1:=SLq1.mono mono_rdEnt hG36
 replace Sz8:=Sz8.mono mono_rdItem hG36
 replace Sz11:=Sz11.mono mono_rdNote hG36
 replace Sgq12:=Sgq12.mono mono_rdEnt hG36
 replace Sz17:=Sz17.mono mono_rdNote hG36
 replace Sgq18:=Sgq18.mono mono_rdEnt hG36
 replace Ae22:=Ae22.mono hG36
 replace SMe22:=SMe22.mono mono_rdStr hG36
 replace Ae24:=Ae24.mono hG36
 replace SMe24:=SMe24.mono mono_rdStr hG36
 replace Ae26:=Ae26.mono hG36
 replace SMe26:=SMe26.mono mono_rdStr hG36
 replace Sz29:=Sz29.mono mono_rdItem hG36
 replace Sz32:=Sz32.mono mono_rdNote hG36
 replace Sz35:=Sz35.mono mono_rdStr hG36
 revert a
 refine e_seq<|e_reg<|s_lt rfl rfl<|e_nil<|e_tn<|e_seq<|e_cond rfl ?_ ?_
 ·intro hc
  have h37b:=hc;clear hc
  have h37:((i:Nat):Int) < ((3:Nat):Int):=of_decide_eq_true h37b
  refine e_skip<|e_tn<|e_seq<|e_block<|e_seq<|e_reg<|s_mv rfl<|?_
  obtain ⟨Xe38,hXe38⟩:=get_of_lt (xs:=badT) (i:=i) (by omega)
  obtain ⟨be38,oe38,_,Ie38,_,Ae38,⟨rfl,hsle38⟩⟩:=Sz35.at hXe38
  refine s_ix tok24.k tok9 Ie38 rfl rfl<|s_la tok9 M Ae38 0 rfl rfl (by omega) rfl<|s_as rfl<|s_as rfl<|e_nil<|e_tn<|e_seq<|e_reg<|s_mv rfl<|?_
  obtain ⟨ln,hln,hpf⟩:=badN_all hXe38
  refine s_cR ent33 rfl rfl (nparse_spec (s:=Xe38) M HG (by first | assumption | omega))<|?_;clear M;rintro _ Gq39 w hGq39 M ⟨aq39,yq39,lq39,eq39,rfl,Sq39,hpq39⟩
  replace HG:=HG.mono hGq39
  replace SCq1:=SCq1.mono mono_rdKind hGq39
  replace SLq1:=SLq1.mono mono_rdEnt hGq39
  replace Sz8:=Sz8.mono mono_rdItem hGq39
  replace Sz11:=Sz11.mono mono_rdNote hGq39
  replace Sgq12:=Sgq12.mono mono_rdEnt hGq39
  replace Sz17:=Sz17.mono mono_rdNote hGq39
  replace Sgq18:=Sgq18.mono mono_rdEnt hGq39
  replace Ae22:=Ae22.mono hGq39
  replace SMe22:=SMe22.mono mono_rdStr hGq39
  replace Ae24:=Ae24.mono hGq39
  replace SMe24:=SMe24.mono mono_rdStr hGq39
  replace Ae26:=Ae26.mono hGq39
  replace SMe26:=SMe26.mono mono_rdStr hGq39
  replace Sz29:=Sz29.mono mono_rdItem hGq39
  replace Sz32:=Sz32.mono mono_rdNote hGq39
  replace Sz35:=Sz35.mono mono_rdStr hGq39
  replace Ae38:=Ae38.mono hGq39
  obtain ⟨rfl,rfl,rfl⟩:yq39=[]∧lq39=ln∧eq39=5:=by have h_:=hpq39.uniq hpf;simpa only [Prod.mk.injEq] using h_
  refine s_mv rfl<|s_ex rfl rfl<|s_ex rfl rfl<|s_ex rfl rfl<|s_as rfl<|s_as rfl<|s_as rfl<|e_nil<|e_tn<|e_seq<|e_reg<|s_mv rfl<|s_ne rfl rfl<|s_mv rfl<|g_t rfl (not_f (decide_eq_true (by decide)))<|s_mv rfl<|g_t rfl (not_f (decide_eq_true (by decide)))<|e_run (fun a F=>run_buildA F (ps:=[(0,.int .i64 2),(1,.int .i64 1),(2,.int .i64 2)]) (cs:=[.int .i64 2,.int .i64 1,.int .i64 2]) tok127.k tok127 tok3 rfl rfl) rfl<|g_t rfl (not_f (decide_eq_true (by decide)))<|s_mv rfl<|g_t rfl (not_f (decide_eq_true (by decide)))<|e_run (fun a F=>run_idxArr (j:=i) (v:=.int .i64 (((lq39:Nat)):Int)) tok127.k tok3 rfl rfl (F.ev rfl) (F.ev rfl) rfl (by omega) (ln_cell hln)) rfl<|g_t rfl (not_f (decide_eq_true (by decide)))<|s_ne rfl rfl<|?_
  refine s_pf rfl (not_f (decide_eq_true (by decide))) rfl<|e_nil<|e_tn<|e_cond_f rfl (not_f (decide_eq_true (by first | rfl | omega)))<|e_skip<|e_bn<|e_tn<|e_reg<|s_add rfl rfl<|s_mv rfl<|e_nil<|e_tn<|fun a F=>?_
  exact ⟨_,by omega,i+1,rfl,Gq39,(hG36.trans hGq39),F.to ⟨rfl,rfl,rfl,rfl,rfl,trivial⟩,M,by omega⟩
 ·intro hc
  have h40b:=hc;clear hc
  have h40:¬ (((i:Nat):Int) < ((3:Nat):Int)):=of_decide_eq_false h40b
  refine e_exit<|e_te<|e_te<|e_bh<|e_tn<|e_seq<|e_reg<|s_mv rfl<|s_eq rfl rfl<|s_mv rfl<|g_t rfl (decide_eq_true (by decide))<|s_mv rfl<|g_t rfl (decide_eq_true (by decide))<|s_seq rfl rfl<|s_pt rfl (decide_eq_true (by decide)) rfl<|s_as rfl<|e_nil<|e_tn<|e_ret<|e_fin1 rfl rfl<|?_
  exact ⟨_,((((((((((((hGq1.trans hGz8).trans hGz11).trans hGq12).trans hGgq12).trans hGz17).trans hGq18).trans hGgq18).trans hGz29).trans hGz32).trans hGq33).trans hGz35).trans hG36),M.weaken (.cons _ (.cons _ (.cons _ (.cons _ (List.Sublist.refl _))))),by first | rfl | (congr 1;first | rfl | decide | simp_all)⟩
open Go Go.Y Go.Proofs
set_option linter.unusedSimpArgs false
set_option linter.unusedVariables false
def FewN (ns:List NotD):Prop:=ns.length≤40∧∀ x∈ns,x.items.length≤20
theorem few_mul {a b:Int} {P Q:Prop} (h1:a=0∨(a=1∧P)) (h2:b=0∨(b=1∧Q)):∃ p:Int,a * b=p∧(p=0∨(p=1∧P∧Q)):=by
 rcases h1 with rfl | ⟨rfl,hp⟩
 ·exact ⟨0,by simp,Or.inl rfl⟩
 ·rcases h2 with rfl | ⟨rfl,hq⟩
  ·exact ⟨0,by simp,Or.inl rfl⟩
  ·exact ⟨1,by simp,Or.inr ⟨rfl,hp,hq⟩⟩
theorem few25_spec {w0 w:World} {G:Ghost} {L:List Res} (M:Mem w0 G L w) {an:Option Addr} {cn:Nat} {ns:List NotD} (SN:RdSl rdNote 5 G (.slice an ns.length cn) ns):Calls Tryz.prog 21 #[.slice an ns.length cn] w (RetS w0 G L fun v=>∃ z:Int,v=.int .i64 z∧(z=0∨(z=1∧FewN ns))):=by
 have bN:=SN.bound
 refine e_start (vs:=[_]) Tryz.func21 rfl (n:=97) rfl rfl<|e_seq<|e_reg<|s_as rfl<|e_nil<|e_tn<|e_seq<|e_seq<|e_reg<|s_mv rfl<|s_ls tok47.k rfl<|s_gt rfl rfl<|e_nil<|e_tn<|e_cond rfl ?_ ?_
 ·intro hc
  have h1b:=hc;clear hc
  have h1:40 < ((ns.length:Nat):Int):=of_decide_eq_true h1b
  refine e_seq<|e_reg<|s_as rfl<|e_nil<|e_tn<|e_ret<|e_tr<|e_fin1 rfl rfl<|?_
  exact ⟨M,_,rfl,Or.inl rfl⟩
 ·intro hc
  have h2b:=hc;clear hc
  have h2:¬ (40 < ((ns.length:Nat):Int)):=of_decide_eq_false h2b
  refine e_skip<|e_tn<|e_seq<|e_reg<|s_as rfl<|e_nil<|e_tn<|e_seq<|e_seq<|e_reg<|s_as rfl<|e_nil<|e_tn<|e_block<|fun a F=>w_loopN (fun m a' w'=>∃ (i:Nat),∃ (z:Nat),m=ns.length - i∧Fits 97 a' [(0,.slice (an) (ns.length) (cn)),(3,.int .i64 (((z:Nat):Int))),(4,.int .i64 (((i:Nat):Int)))]∧Mem w0 G (L) w'∧(i≤ns.length)∧(∀ (q:Nat) (y:NotD),q < i→ns[q]?=some y→y.items.length≤20)∧(z≤60)) _ ⟨0,0,rfl,F.to ⟨rfl,rfl,rfl,trivial⟩,M,Nat.zero_le _,fun q y h=>by omega,by omega⟩ ?_
  clear F M
  rintro m a w ⟨i,z,rfl,F,M,hi,hA,hz⟩
  revert a
  refine e_seq<|e_seq<|e_reg<|s_mv rfl<|s_mv rfl<|s_ls tok47.k rfl<|s_lt rfl rfl<|e_nil<|e_tn<|e_cond rfl ?_ ?_
  ·intro hc
   have h3b:=hc;clear hc
   have h3:((i:Nat):Int) < ((ns.length:Nat):Int):=of_decide_eq_true h3b
   refine e_skip<|e_tn<|e_seq<|e_block<|e_seq<|?_
   obtain ⟨X,hX⟩:=get_of_lt (xs:=ns) (i:=i) (by omega)
   rcases Nat.lt_or_ge 20 X.items.length with hbig | hsm
   ·skip
    refine e_reg<|s_mv rfl<|s_mv rfl<|s_mv rfl<|?_
    obtain ⟨be4,oe4,_,Ie4,_,Ae4,hTe4⟩:=SN.at hX
    obtain ⟨nae4,nce4,rfl,h1e4,h2e4,h3e4,h4e4,h5e4,SIe4⟩:=hTe4
    have hNe4:X.kind < 256∧inKind .i64 X.at_∧inKind .i64 X.count∧inKind .i64 X.to∧X.items.length≤9223372036854775807:=⟨h1e4,h2e4,h3e4,h4e4,h5e4⟩
    refine s_ix tok47.k tok65 Ie4 rfl rfl<|s_fa tok65.k rfl rfl<|s_la tok22 M Ae4 4 rfl rfl rfl rfl<|s_ls tok22.k rfl<|e_run (fun a F=>run_add (F.ev rfl) (F.ev rfl)) rfl<|s_as rfl<|e_nil<|e_tn<|e_seq<|e_seq<|e_reg<|s_mv rfl<|s_mv rfl<|?_
    obtain ⟨be5,oe5,_,Ie5,_,Ae5,hTe5⟩:=SN.at hX
    obtain ⟨nae5,nce5,rfl,h1e5,h2e5,h3e5,h4e5,h5e5,SIe5⟩:=hTe5
    have hNe5:X.kind < 256∧inKind .i64 X.at_∧inKind .i64 X.count∧inKind .i64 X.to∧X.items.length≤9223372036854775807:=⟨h1e5,h2e5,h3e5,h4e5,h5e5⟩
    refine s_ix tok47.k tok65 Ie5 rfl rfl<|s_fa tok65.k rfl rfl<|s_la tok22 M Ae5 4 rfl rfl rfl rfl<|s_ls tok22.k rfl<|s_gt rfl rfl<|s_mv rfl<|?_
    rcases Bool.eq_false_or_eq_true (decide (20 < ((X.items.length:Nat):Int))) with hc | hc
    ·skip
     have h6b:=hc;clear hc
     have h6:20 < ((X.items.length:Nat):Int):=of_decide_eq_true h6b
     refine g_f rfl h6b<|g_f rfl h6b<|s_pt rfl h6b rfl<|e_nil<|e_tn<|e_cond_t rfl rfl<|e_seq<|e_reg<|s_as rfl<|e_nil<|e_tn<|e_ret<|e_tr<|e_br<|e_tr<|e_tr<|e_br<|e_tr<|e_fin1 rfl rfl<|?_
     exact ⟨M,_,rfl,Or.inl rfl⟩
    ·skip
     have h7b:=hc;clear hc
     have h7:¬ (20 < ((X.items.length:Nat):Int)):=of_decide_eq_false h7b
     intro a F
     omega
   ·skip
    refine e_reg<|s_mv rfl<|s_mv rfl<|s_mv rfl<|?_
    obtain ⟨be8,oe8,_,Ie8,_,Ae8,hTe8⟩:=SN.at hX
    obtain ⟨nae8,nce8,rfl,h1e8,h2e8,h3e8,h4e8,h5e8,SIe8⟩:=hTe8
    have hNe8:X.kind < 256∧inKind .i64 X.at_∧inKind .i64 X.count∧inKind .i64 X.to∧X.items.length≤9223372036854775807:=⟨h1e8,h2e8,h3e8,h4e8,h5e8⟩
    refine s_ix tok47.k tok65 Ie8 rfl rfl<|s_fa tok65.k rfl rfl<|s_la tok22 M Ae8 4 rfl rfl rfl rfl<|s_ls tok22.k rfl<|s_add rfl rfl<|s_as rfl<|e_nil<|e_tn<|e_seq<|e_seq<|e_reg<|s_mv rfl<|s_mv rfl<|?_
    obtain ⟨be9,oe9,_,Ie9,_,Ae9,hTe9⟩:=SN.at hX
    obtain ⟨nae9,nce9,rfl,h1e9,h2e9,h3e9,h4e9,h5e9,SIe9⟩:=hTe9
    have hNe9:X.kind < 256∧inKind .i64 X.at_∧inKind .i64 X.count∧inKind .i64 X.to∧X.items.length≤9223372036854775807:=⟨h1e9,h2e9,h3e9,h4e9,h5e9⟩
    refine s_ix tok47.k tok65 Ie9 rfl rfl<|s_fa tok65.k rfl rfl<|s_la tok22 M Ae9 4 rfl rfl rfl rfl<|s_ls tok22.k rfl<|s_gt rfl rfl<|s_mv rfl<|?_
    rcases Bool.eq_false_or_eq_true (decide (20 < ((X.items.length:Nat):Int))) with hc | hc
    ·skip
     have h10b:=hc;clear hc
     have h10:20 < ((X.items.length:Nat):Int):=of_decide_eq_true h10b
     refine g_f rfl h10b<|g_f rfl h10b<|s_pt rfl h10b rfl<|e_nil<|e_tn<|e_cond_t rfl rfl<|e_seq<|e_reg<|s_as rfl<|e_nil<|e_tn<|e_ret<|e_tr<|e_br<|e_tr<|e_tr<|e_br<|e_tr<|e_fin1 rfl rfl<|?_
     exact ⟨M,_,rfl,Or.inl rfl⟩
    ·skip
     have h11b:=hc;clear hc
     have h11:¬ (20 < ((X.items.length:Nat):Int)):=of_decide_eq_false h11b
     refine g_t rfl h11b<|s_mv rfl<|g_t rfl h11b<|s_gt rfl rfl<|s_pf rfl h11b rfl<|e_nil<|e_tn<|e_cond rfl ?_ ?_
     ·intro hc
      have h12b:=hc;clear hc
      have h12:60 < ((z+X.items.length:Nat):Int):=of_decide_eq_true h12b
      refine e_seq<|e_reg<|s_as rfl<|e_nil<|e_tn<|e_ret<|e_tr<|e_br<|e_tr<|e_tr<|e_br<|e_tr<|e_fin1 rfl rfl<|?_
      exact ⟨M,_,rfl,Or.inl rfl⟩
     ·intro hc
      have h13b:=hc;clear hc
      have h13:¬ (60 < ((z+X.items.length:Nat):Int)):=of_decide_eq_false h13b
      refine e_skip<|e_tn<|e_seq<|e_reg<|s_as rfl<|e_nil<|e_tn<|e_block<|fun a F=>w_loopN (fun m a' w'=>∃ (j:Nat),m=X.items.length - j∧Fits 97 a' [(0,.slice (an) (ns.length) (cn)),(3,.int .i64 (((z+X.items.length:Nat):Int))),(4,.int .i64 (((i:Nat):Int))),(5,.int .i64 (((j:Nat):Int)))]∧Mem w0 G (L) w'∧(j≤X.items.length)) _ ⟨0,rfl,F.to ⟨rfl,rfl,rfl,rfl,trivial⟩,M,Nat.zero_le _⟩ ?_
      clear F M
      rintro m a w ⟨j,rfl,F,M,hj⟩
      revert a
      refine e_seq<|e_seq<|e_reg<|s_mv rfl<|s_mv rfl<|s_mv rfl<|?_
      obtain ⟨be14,oe14,_,Ie14,_,Ae14,hTe14⟩:=SN.at hX
      obtain ⟨nae14,nce14,rfl,h1e14,h2e14,h3e14,h4e14,h5e14,SIe14⟩:=hTe14
      have hNe14:X.kind < 256∧inKind .i64 X.at_∧inKind .i64 X.count∧inKind .i64 X.to∧X.items.length≤9223372036854775807:=⟨h1e14,h2e14,h3e14,h4e14,h5e14⟩
      refine s_ix tok47.k tok65 Ie14 rfl rfl<|s_fa tok65.k rfl rfl<|s_la tok22 M Ae14 4 rfl rfl rfl rfl<|s_ls tok22.k rfl<|s_lt rfl rfl<|e_nil<|e_tn<|e_cond rfl ?_ ?_
      ·intro hc
       have h15b:=hc;clear hc
       have h15:((j:Nat):Int) < ((X.items.length:Nat):Int):=of_decide_eq_true h15b
       refine e_skip<|e_tn<|e_seq<|e_block<|e_seq<|e_seq<|?_
       obtain ⟨Y,hY⟩:=get_of_lt (xs:=X.items) (i:=j) (by omega)
       refine e_reg<|s_mv rfl<|s_mv rfl<|?_
       obtain ⟨be16,oe16,_,Ie16,_,Ae16,hTe16⟩:=SN.at hX
       obtain ⟨nae16,nce16,rfl,h1e16,h2e16,h3e16,h4e16,h5e16,SIe16⟩:=hTe16
       have hNe16:X.kind < 256∧inKind .i64 X.at_∧inKind .i64 X.count∧inKind .i64 X.to∧X.items.length≤9223372036854775807:=⟨h1e16,h2e16,h3e16,h4e16,h5e16⟩
       refine s_ix tok47.k tok65 Ie16 rfl rfl<|s_fa tok65.k rfl rfl<|s_la tok22 M Ae16 4 rfl rfl rfl rfl<|s_mv rfl<|?_
       obtain ⟨be17,oe17,_,Ie17,_,Ae17,hTe17⟩:=SIe16.at hY
       obtain ⟨mae17,mce17,rfl,hke17,hte17,hxe17,hne17,SMe17⟩:=hTe17
       have hIe17:(Y.key < 18446744073709551616∧Y.typ < 256∧Y.text.length≤9223372036854775807):=⟨hke17,hte17,hxe17⟩
       refine s_ix tok22.k tok26 Ie17 rfl rfl<|s_fa tok26.k rfl rfl<|s_la tok9 M Ae17 2 rfl rfl rfl rfl<|e_run (fun a F=>run_lenStr tok9.k (F.ev rfl)) rfl<|s_gt rfl rfl<|s_mv rfl<|?_
       rcases Bool.eq_false_or_eq_true (decide (70 < (((Y.text).length:Nat):Int))) with hc | hc
       ·skip
        have h18b:=hc;clear hc
        have h18:70 < (((Y.text).length:Nat):Int):=of_decide_eq_true h18b
        refine g_f rfl h18b<|g_f rfl h18b<|g_f rfl h18b<|g_f rfl h18b<|g_f rfl h18b<|g_f rfl h18b<|g_f rfl h18b<|g_f rfl h18b<|g_f rfl h18b<|g_f rfl h18b<|g_f rfl h18b<|s_pt rfl h18b rfl<|e_nil<|e_tn<|e_cond_t rfl rfl<|e_seq<|e_reg<|s_as rfl<|e_nil<|e_tn<|e_ret<|e_tr<|e_br<|e_tr<|?_
        refine e_tr<|e_br<|e_br<|e_tr<|e_tr<|e_br<|e_tr<|e_fin1 rfl rfl<|?_
        exact ⟨M,_,rfl,Or.inl rfl⟩
       ·skip
        have h19b:=hc;clear hc
        have h19:¬ (70 < (((Y.text).length:Nat):Int)):=of_decide_eq_false h19b
        refine g_t rfl h19b<|s_mv rfl<|g_t rfl h19b<|s_mv rfl<|g_t rfl h19b<|?_
        obtain ⟨be20,oe20,_,Ie20,_,Ae20,hTe20⟩:=SN.at hX
        obtain ⟨nae20,nce20,rfl,h1e20,h2e20,h3e20,h4e20,h5e20,SIe20⟩:=hTe20
        have hNe20:X.kind < 256∧inKind .i64 X.at_∧inKind .i64 X.count∧inKind .i64 X.to∧X.items.length≤9223372036854775807:=⟨h1e20,h2e20,h3e20,h4e20,h5e20⟩
        refine s_ix tok47.k tok65 Ie20 rfl rfl<|g_t rfl h19b<|s_fa tok65.k rfl rfl<|g_t rfl h19b<|s_la tok22 M Ae20 4 rfl rfl rfl rfl<|g_t rfl h19b<|s_mv rfl<|g_t rfl h19b<|?_
        obtain ⟨be21,oe21,_,Ie21,_,Ae21,hTe21⟩:=SIe20.at hY
        obtain ⟨mae21,mce21,rfl,hke21,hte21,hxe21,hne21,SMe21⟩:=hTe21
        have hIe21:(Y.key < 18446744073709551616∧Y.typ < 256∧Y.text.length≤9223372036854775807):=⟨hke21,hte21,hxe21⟩
        refine s_ix tok22.k tok26 Ie21 rfl rfl<|g_t rfl h19b<|s_fa tok26.k rfl rfl<|g_t rfl h19b<|s_la tok24 M Ae21 3 rfl rfl rfl rfl<|g_t rfl h19b<|s_ls tok24.k rfl<|g_t rfl h19b<|s_gt rfl rfl<|s_pf rfl h19b rfl<|e_nil<|e_tn<|e_cond rfl ?_ ?_
        ·intro hc
         have h22b:=hc;clear hc
         have h22:12 < ((Y.marks.length:Nat):Int):=of_decide_eq_true h22b
         refine e_seq<|e_reg<|s_as rfl<|e_nil<|e_tn<|e_ret<|e_tr<|e_br<|e_tr<|e_tr<|e_br<|e_br<|e_tr<|e_tr<|e_br<|e_tr<|e_fin1 rfl rfl<|?_
         exact ⟨M,_,rfl,Or.inl rfl⟩
        ·intro hc
         have h23b:=hc;clear hc
         have h23:¬ (12 < ((Y.marks.length:Nat):Int)):=of_decide_eq_false h23b
         refine e_skip<|e_tn<|e_seq<|e_reg<|s_as rfl<|e_nil<|e_tn<|e_block<|fun a F=>w_loopN (fun m a' w'=>∃ (k:Nat),m=Y.marks.length - k∧Fits 97 a' [(0,.slice (an) (ns.length) (cn)),(3,.int .i64 (((z+X.items.length:Nat):Int))),(4,.int .i64 (((i:Nat):Int))),(5,.int .i64 (((j:Nat):Int))),(6,.int .i64 (((k:Nat):Int)))]∧Mem w0 G (L) w'∧(k≤Y.marks.length)) _ ⟨0,rfl,F.to ⟨rfl,rfl,rfl,rfl,rfl,trivial⟩,M,Nat.zero_le _⟩ ?_
         clear F M
         rintro m a w ⟨k,rfl,F,M,hk⟩
         revert a
         refine e_seq<|e_seq<|e_reg<|s_mv rfl<|s_mv rfl<|s_mv rfl<|?_
         obtain ⟨be24,oe24,_,Ie24,_,Ae24,hTe24⟩:=SN.at hX
         obtain ⟨nae24,nce24,rfl,h1e24,h2e24,h3e24,h4e24,h5e24,SIe24⟩:=hTe24
         have hNe24:X.kind < 256∧inKind .i64 X.at_∧inKind .i64 X.count∧inKind .i64 X.to∧X.items.length≤9223372036854775807:=⟨h1e24,h2e24,h3e24,h4e24,h5e24⟩
         refine s_ix tok47.k tok65 Ie24 rfl rfl<|s_fa tok65.k rfl rfl<|s_la tok22 M Ae24 4 rfl rfl rfl rfl<|s_mv rfl<|?_
         obtain ⟨be25,oe25,_,Ie25,_,Ae25,hTe25⟩:=SIe24.at hY
         obtain ⟨mae25,mce25,rfl,hke25,hte25,hxe25,hne25,SMe25⟩:=hTe25
         have hIe25:(Y.key < 18446744073709551616∧Y.typ < 256∧Y.text.length≤9223372036854775807):=⟨hke25,hte25,hxe25⟩
         refine s_ix tok22.k tok26 Ie25 rfl rfl<|s_fa tok26.k rfl rfl<|s_la tok24 M Ae25 3 rfl rfl rfl rfl<|s_ls tok24.k rfl<|s_lt rfl rfl<|e_nil<|e_tn<|e_cond rfl ?_ ?_
         ·intro hc
          have h26b:=hc;clear hc
          have h26:((k:Nat):Int) < ((Y.marks.length:Nat):Int):=of_decide_eq_true h26b
          refine e_skip<|e_tn<|e_seq<|e_block<|e_seq<|e_reg<|s_mv rfl<|s_mv rfl<|?_
          obtain ⟨be27,oe27,_,Ie27,_,Ae27,hTe27⟩:=SN.at hX
          obtain ⟨nae27,nce27,rfl,h1e27,h2e27,h3e27,h4e27,h5e27,SIe27⟩:=hTe27
          have hNe27:X.kind < 256∧inKind .i64 X.at_∧inKind .i64 X.count∧inKind .i64 X.to∧X.items.length≤9223372036854775807:=⟨h1e27,h2e27,h3e27,h4e27,h5e27⟩
          refine s_ix tok47.k tok65 Ie27 rfl rfl<|s_fa tok65.k rfl rfl<|s_la tok22 M Ae27 4 rfl rfl rfl rfl<|s_mv rfl<|?_
          obtain ⟨be28,oe28,_,Ie28,_,Ae28,hTe28⟩:=SIe27.at hY
          obtain ⟨mae28,mce28,rfl,hke28,hte28,hxe28,hne28,SMe28⟩:=hTe28
          have hIe28:(Y.key < 18446744073709551616∧Y.typ < 256∧Y.text.length≤9223372036854775807):=⟨hke28,hte28,hxe28⟩
          refine s_ix tok22.k tok26 Ie28 rfl rfl<|s_fa tok26.k rfl rfl<|s_la tok24 M Ae28 3 rfl rfl rfl rfl<|s_mv rfl<|?_
          obtain ⟨Xe29,hXe29⟩:=get_of_lt (xs:=Y.marks) (i:=k) (by omega)
          obtain ⟨be29,oe29,_,Ie29,_,Ae29,⟨rfl,hsle29⟩⟩:=SMe28.at hXe29
          refine s_ix tok24.k tok9 Ie29 rfl rfl<|s_la tok9 M Ae29 0 rfl rfl (by omega) rfl<|e_run (fun a F=>run_lenStr tok9.k (F.ev rfl)) rfl<|s_gt rfl rfl<|e_nil<|e_tn<|e_cond rfl ?_ ?_
          ·intro hc
           have h30b:=hc;clear hc
           have h30:20 < (((Xe29).length:Nat):Int):=of_decide_eq_true h30b
           refine e_seq<|e_reg<|s_as rfl<|e_nil<|e_tn<|e_ret<|e_br<|e_tr<|e_tr<|e_br<|e_br<|e_tr<|e_tr<|e_br<|e_br<|e_tr<|e_tr<|e_br<|e_tr<|e_fin1 rfl rfl<|?_
           exact ⟨M,_,rfl,Or.inl rfl⟩
          ·intro hc
           have h31b:=hc;clear hc
           have h31:¬ (20 < (((Xe29).length:Nat):Int)):=of_decide_eq_false h31b
           refine e_skip<|e_bn<|e_tn<|e_reg<|s_mv rfl<|s_add rfl rfl<|s_as rfl<|e_nil<|e_tn<|fun a F=>?_
           exact ⟨_,by omega,k+1,rfl,F.to ⟨rfl,rfl,rfl,rfl,rfl,trivial⟩,M,by omega⟩
         ·intro hc
          have h32b:=hc;clear hc
          have h32:¬ (((k:Nat):Int) < ((Y.marks.length:Nat):Int)):=of_decide_eq_false h32b
          refine e_exit<|e_te<|e_te<|e_bh<|e_bn<|e_tn<|e_reg<|s_mv rfl<|s_add rfl rfl<|s_as rfl<|e_nil<|e_tn<|fun a F=>?_
          exact ⟨_,by omega,j+1,rfl,F.to ⟨rfl,rfl,rfl,rfl,trivial⟩,M,by omega⟩
      ·intro hc
       have h33b:=hc;clear hc
       have h33:¬ (((j:Nat):Int) < ((X.items.length:Nat):Int)):=of_decide_eq_false h33b
       refine e_exit<|e_te<|e_te<|e_bh<|e_bn<|e_tn<|e_reg<|s_mv rfl<|s_add rfl rfl<|s_as rfl<|e_nil<|e_tn<|fun a F=>?_
       exact ⟨_,by omega,i+1,z+X.items.length,rfl,F.to ⟨rfl,rfl,rfl,trivial⟩,M,by omega,all_step (p:=fun y:NotD=>y.items.length≤20) hA hX (by omega),by omega⟩
  ·intro hc
   have h34b:=hc;clear hc
   have h34:¬ (((i:Nat):Int) < ((ns.length:Nat):Int)):=of_decide_eq_false h34b
   refine e_exit<|e_te<|e_te<|e_bh<|e_tn<|e_seq<|e_reg<|s_as rfl<|e_nil<|e_tn<|e_ret<|e_fin1 rfl rfl<|?_
   exact ⟨M,_,rfl,Or.inr ⟨rfl,by omega,all_end hA (by omega)⟩⟩
theorem check25_law {w0 w:World} {G:Ghost} {L:List Res} (M:Mem w0 G L w) (HG:Globs 0 1 2 3 G) {a1:Option Addr} {c1:Nat} {xs:List NotD} (SX:RdSl rdNote 5 G (.slice a1 xs.length c1) xs) {a2:Option Addr} {c2:Nat} {ys:List NotD} (SY:RdSl rdNote 5 G (.slice a2 ys.length c2) ys):Calls Tryz.prog 10 #[.slice a1 xs.length c1,.slice a2 ys.length c2] w (Ret w0 G L fun G' v=>v=.bool true):=by
 have bX:=SX.bound
 have bY:=SY.bound
 refine e_start (vs:=[_,_]) Tryz.func10 rfl (n:=69) rfl rfl<|e_seq<|e_reg<|s_as rfl<|e_nil<|e_tn<|e_seq<|e_seq<|e_reg<|s_mv rfl<|s_cS ent21 rfl rfl (few25_spec (ns:=xs) M SX)<|?_;clear M;rintro _ w M ⟨zz1,rfl,hzz1⟩
 refine s_mv rfl<|s_cS ent21 rfl rfl (few25_spec (ns:=ys) M SY)<|?_;clear M;rintro _ w M ⟨zz2,rfl,hzz2⟩
 obtain ⟨p,hp,hp2⟩:=few_mul hzz1 hzz2
 refine e_run (fun a F=>run_muli (F.ev rfl) (F.ev rfl) (show inKind .i64 (zz1 * zz2) by rw [hp];rcases hp2 with h_ | ⟨h_,_⟩ <;> rw [h_] <;> exact in_i64 (by decide) (by decide))) rfl<|fun a F=>?_
 rw [hp] at F
 revert a
 refine s_eq rfl rfl<|e_nil<|e_tn<|e_cond rfl ?_ ?_
 ·intro hc
  have h3b:=hc;clear hc
  have h3:p=0:=of_decide_eq_true h3b
  refine e_seq<|e_reg<|s_cR ent22 rfl rfl (lives25_spec M HG)<|?_;clear M;rintro _ Gq4 w hGq4 M rfl
  replace HG:=HG.mono hGq4
  replace SX:=SX.mono mono_rdNote hGq4
  replace SY:=SY.mono mono_rdNote hGq4
  refine s_as rfl<|e_nil<|e_tn<|e_ret<|e_tr<|e_fin1 rfl rfl<|?_
  exact ⟨_,hGq4,M,rfl⟩
 ·intro hc
  have h5b:=hc;clear hc
  have h5:¬ (p=0):=of_decide_eq_false h5b
  refine e_skip<|e_tn<|e_seq<|e_seq<|e_reg<|s_as rfl<|e_nil<|e_tn<|e_block<|fun a F=>w_loopN (fun m a' w'=>∃ (i:Nat),m=xs.length - i∧Fits 69 a' [(0,.slice (a1) (xs.length) (c1)),(1,.slice (a2) (ys.length) (c2)),(5,.int .i64 (((i:Nat):Int)))]∧Mem w0 G (L) w'∧(i≤xs.length)) _ ⟨0,rfl,F.to ⟨rfl,rfl,rfl,trivial⟩,M,by omega⟩ ?_
  clear F M
  rintro m a w ⟨i,rfl,F,M,hi⟩
  revert a
  refine e_seq<|e_seq<|e_reg<|s_mv rfl<|s_mv rfl<|s_ls tok47.k rfl<|s_lt rfl rfl<|e_nil<|e_tn<|e_cond rfl ?_ ?_
  ·intro hc
   have h6b:=hc;clear hc
   have h6:((i:Nat):Int) < ((xs.length:Nat):Int):=of_decide_eq_true h6b
   refine e_skip<|e_tn<|e_seq<|e_block<|e_seq<|e_seq<|fun a F=>w_plan2 [(.free,0),(.free,1),(.free,2),(.pure,3),(.free,5),(.free,6),(.free,7),(.pure,8),(.keep,4),(.keep,9),(.free,10),(.free,11),(.free,12),(.free,13),(.free,14),(.pure,15),(.free,16),(.free,17),(.free,18),(.pure,19),(.keep,20),(.free,21),(.free,22)] [] (Keep G []) rfl (by kernel_rfl) (fun c a d v w h=>by cases d <;> exact h) ((M.drew _).keep (Gle.refl _) (by simp)) ?_
   replace M:=M.drew (w.drawn+1)
   revert a
   refine k_f (fun a F w _=>x_mv F rfl) rfl<|k_f (fun a F w _=>x_mv F rfl) rfl<|?_
   obtain ⟨Xe7,hXe7⟩:=get_of_lt (xs:=xs) (i:=i) (by omega)
   obtain ⟨be7,oe7,_,Ie7,_,Ae7,hTe7⟩:=SX.at hXe7
   obtain ⟨nae7,nce7,rfl,h1e7,h2e7,h3e7,h4e7,h5e7,SIe7⟩:=hTe7
   have hNe7:Xe7.kind < 256∧inKind .i64 Xe7.at_∧inKind .i64 Xe7.count∧inKind .i64 Xe7.to∧Xe7.items.length≤9223372036854775807:=⟨h1e7,h2e7,h3e7,h4e7,h5e7⟩
   refine k_f (fun a F w _=>run_indexI tok47.k tok65 (F.ev rfl) (F.ev rfl) (by omega) Ie7) rfl<|k_p (fun a F w M=>run_loadA tok65 rfl (F.ev rfl) (cs:=[.int .u8 (((Xe7.kind:Nat):Int)),.int .i64 (Xe7.at_),.int .i64 (Xe7.count),.int .i64 (Xe7.to),.slice (nae7) (Xe7.items.length) (nce7)]) rfl (M.cellsA Ae7 0 (by omega) rfl)) rfl<|k_f (fun a F w _=>x_mv F rfl) rfl<|k_f (fun a F w _=>x_mv F rfl) rfl<|?_
   obtain ⟨be8,oe8,_,Ie8,_,Ae8,hTe8⟩:=SX.at hXe7
   obtain ⟨nae8,nce8,rfl,h1e8,h2e8,h3e8,h4e8,h5e8,SIe8⟩:=hTe8
   have hNe8:Xe7.kind < 256∧inKind .i64 Xe7.at_∧inKind .i64 Xe7.count∧inKind .i64 Xe7.to∧Xe7.items.length≤9223372036854775807:=⟨h1e8,h2e8,h3e8,h4e8,h5e8⟩
   refine k_f (fun a F w _=>run_indexI tok47.k tok65 (F.ev rfl) (F.ev rfl) (by omega) Ie8) rfl<|k_p (fun a F w M=>run_loadA tok65 rfl (F.ev rfl) (cs:=[.int .u8 (((Xe7.kind:Nat):Int)),.int .i64 (Xe7.at_),.int .i64 (Xe7.count),.int .i64 (Xe7.to),.slice (nae8) (Xe7.items.length) (nce8)]) rfl (M.cellsA Ae8 0 (by omega) rfl)) rfl<|k_k rfl<|s_cS ent37 rfl rfl (ncheck_spec (x:=Xe7) M hNe7 SIe7)<|?_;clear M;rintro _ w M rfl
   refine e_nil<|eK (C':=Keep G []) (M.keep (Gle.refl _) (by simp)) (fun w h=>h.mono (Gle.refl _) (by simp))<|k_k rfl<|s_cS ent38 rfl rfl (rncheck_spec (x:=Xe7) M hNe8 SIe8)<|?_;clear M;rintro _ w M rfl
   refine e_nil<|eK (C':=Keep G []) (M.keep (Gle.refl _) (by simp)) (fun w h=>h.mono (Gle.refl _) (by simp))<|k_f (fun a F w _=>run_nei (F.ev rfl) (F.ev rfl)) rfl<|k_f (fun a F w _=>x_mv F rfl) rfl<|?_
   have hg9:(!(decide (noteE Xe7=noteE Xe7)))=false:=(not_f (decide_eq_true (by rfl)))
   refine k_fg rfl hg9 (fun a F w _=>x_mv F rfl)<|k_fg rfl hg9 (fun a F w _=>x_mv F rfl)<|?_
   obtain ⟨be10,oe10,_,Ie10,_,Ae10,hTe10⟩:=SX.at hXe7
   obtain ⟨nae10,nce10,rfl,h1e10,h2e10,h3e10,h4e10,h5e10,SIe10⟩:=hTe10
   have hNe10:Xe7.kind < 256∧inKind .i64 Xe7.at_∧inKind .i64 Xe7.count∧inKind .i64 Xe7.to∧Xe7.items.length≤9223372036854775807:=⟨h1e10,h2e10,h3e10,h4e10,h5e10⟩
   refine k_fg rfl hg9 (fun a F w _=>run_indexI tok47.k tok65 (F.ev rfl) (F.ev rfl) (by omega) Ie10)<|k_pg rfl hg9 (fun a F w M=>run_loadA tok65 rfl (F.ev rfl) (cs:=[.int .u8 (((Xe7.kind:Nat):Int)),.int .i64 (Xe7.at_),.int .i64 (Xe7.count),.int .i64 (Xe7.to),.slice (nae10) (Xe7.items.length) (nce10)]) rfl (M.cellsA Ae10 0 (by omega) rfl))<|k_fg rfl hg9 (fun a F w _=>x_mv F rfl)<|k_fg rfl hg9 (fun a F w _=>x_mv F rfl)<|?_
   obtain ⟨be11,oe11,_,Ie11,_,Ae11,hTe11⟩:=SX.at hXe7
   obtain ⟨nae11,nce11,rfl,h1e11,h2e11,h3e11,h4e11,h5e11,SIe11⟩:=hTe11
   have hNe11:Xe7.kind < 256∧inKind .i64 Xe7.at_∧inKind .i64 Xe7.count∧inKind .i64 Xe7.to∧Xe7.items.length≤9223372036854775807:=⟨h1e11,h2e11,h3e11,h4e11,h5e11⟩
   refine k_fg rfl hg9 (fun a F w _=>run_indexI tok47.k tok65 (F.ev rfl) (F.ev rfl) (by omega) Ie11)<|k_pg rfl hg9 (fun a F w M=>run_loadA tok65 rfl (F.ev rfl) (cs:=[.int .u8 (((Xe7.kind:Nat):Int)),.int .i64 (Xe7.at_),.int .i64 (Xe7.count),.int .i64 (Xe7.to),.slice (nae11) (Xe7.items.length) (nce11)]) rfl (M.cellsA Ae11 0 (by omega) rfl))<|fun a F=>pk_keep_g F rfl rfl hg9 ?_
   revert a
   refine g_t rfl hg9<|s_cS ent39 rfl rfl (nsame_spec (x:=Xe7) (y:=Xe7) M hNe10 SIe10 hNe11 SIe11)<|?_;clear M;rintro _ w M ⟨b12,rfl,hb12⟩
   refine e_nil<|eK (C':=Keep G []) (M.keep (Gle.refl _) (by simp)) (fun w h=>h.mono (Gle.refl _) (by simp))<|?_
   have hbt:b12=true:=hb12.2 rfl
   subst hbt
   refine k_fg rfl hg9 (fun a F w _=>run_not (F.ev rfl))<|k_f (fun a F w _=>x_pf F rfl hg9 rfl) rfl<|k_nil<|e_tn<|e_cond_f rfl rfl<|e_skip<|e_tn<|e_seq<|fun a F=>w_plan2 [(.free,0),(.free,1),(.pure,2),(.free,3),(.free,4),(.free,5),(.free,6),(.free,7),(.pure,8),(.free,9),(.free,10),(.free,11),(.pure,12),(.free,14),(.free,15),(.free,16),(.pure,17),(.free,18),(.free,19),(.free,20),(.pure,21),(.keep,13),(.keep,22),(.free,23),(.free,24),(.free,25)] [] (Keep G []) rfl (by kernel_rfl) (fun c a d v w h=>by cases d <;> exact h) ((M.drew _).keep (Gle.refl _) (by simp)) ?_
   replace M:=M.drew (w.drawn+1)
   revert a
   refine k_f (fun a F w _=>x_mv F rfl) rfl<|k_f (fun a F w _=>x_mv F rfl) rfl<|k_p (fun a F w M=>run_lenSl tok47.k (F.ev rfl)) rfl<|k_f (fun a F w _=>run_lss (F.ev rfl) (F.ev rfl)) rfl<|k_f (fun a F w _=>x_mv F rfl) rfl<|?_
   rcases Bool.eq_false_or_eq_true (decide (((i:Nat):Int) < ((ys.length:Nat):Int))) with hc | hc
   ·skip
    have h13b:=hc;clear hc
    have h13:((i:Nat):Int) < ((ys.length:Nat):Int):=of_decide_eq_true h13b
    refine k_fg rfl h13b (fun a F w _=>x_mv F rfl)<|k_fg rfl h13b (fun a F w _=>x_mv F rfl)<|?_
    obtain ⟨be14,oe14,_,Ie14,_,Ae14,hTe14⟩:=SX.at hXe7
    obtain ⟨nae14,nce14,rfl,h1e14,h2e14,h3e14,h4e14,h5e14,SIe14⟩:=hTe14
    have hNe14:Xe7.kind < 256∧inKind .i64 Xe7.at_∧inKind .i64 Xe7.count∧inKind .i64 Xe7.to∧Xe7.items.length≤9223372036854775807:=⟨h1e14,h2e14,h3e14,h4e14,h5e14⟩
    refine k_fg rfl h13b (fun a F w _=>run_indexI tok47.k tok65 (F.ev rfl) (F.ev rfl) (by omega) Ie14)<|k_pg rfl h13b (fun a F w M=>run_loadA tok65 rfl (F.ev rfl) (cs:=[.int .u8 (((Xe7.kind:Nat):Int)),.int .i64 (Xe7.at_),.int .i64 (Xe7.count),.int .i64 (Xe7.to),.slice (nae14) (Xe7.items.length) (nce14)]) rfl (M.cellsA Ae14 0 (by omega) rfl))<|k_fg rfl h13b (fun a F w _=>x_mv F rfl)<|k_fg rfl h13b (fun a F w _=>x_mv F rfl)<|?_
    obtain ⟨Xe15,hXe15⟩:=get_of_lt (xs:=ys) (i:=i) (by omega)
    obtain ⟨be15,oe15,_,Ie15,_,Ae15,hTe15⟩:=SY.at hXe15
    obtain ⟨nae15,nce15,rfl,h1e15,h2e15,h3e15,h4e15,h5e15,SIe15⟩:=hTe15
    have hNe15:Xe15.kind < 256∧inKind .i64 Xe15.at_∧inKind .i64 Xe15.count∧inKind .i64 Xe15.to∧Xe15.items.length≤9223372036854775807:=⟨h1e15,h2e15,h3e15,h4e15,h5e15⟩
    refine k_fg rfl h13b (fun a F w _=>run_indexI tok47.k tok65 (F.ev rfl) (F.ev rfl) (by omega) Ie15)<|k_pg rfl h13b (fun a F w M=>run_loadA tok65 rfl (F.ev rfl) (cs:=[.int .u8 (((Xe15.kind:Nat):Int)),.int .i64 (Xe15.at_),.int .i64 (Xe15.count),.int .i64 (Xe15.to),.slice (nae15) (Xe15.items.length) (nce15)]) rfl (M.cellsA Ae15 0 (by omega) rfl))<|k_fg rfl h13b (fun a F w _=>x_mv F rfl)<|k_fg rfl h13b (fun a F w _=>x_mv F rfl)<|?_
    obtain ⟨be16,oe16,_,Ie16,_,Ae16,hTe16⟩:=SX.at hXe7
    obtain ⟨nae16,nce16,rfl,h1e16,h2e16,h3e16,h4e16,h5e16,SIe16⟩:=hTe16
    have hNe16:Xe7.kind < 256∧inKind .i64 Xe7.at_∧inKind .i64 Xe7.count∧inKind .i64 Xe7.to∧Xe7.items.length≤9223372036854775807:=⟨h1e16,h2e16,h3e16,h4e16,h5e16⟩
    refine k_fg rfl h13b (fun a F w _=>run_indexI tok47.k tok65 (F.ev rfl) (F.ev rfl) (by omega) Ie16)<|k_pg rfl h13b (fun a F w M=>run_loadA tok65 rfl (F.ev rfl) (cs:=[.int .u8 (((Xe7.kind:Nat):Int)),.int .i64 (Xe7.at_),.int .i64 (Xe7.count),.int .i64 (Xe7.to),.slice (nae16) (Xe7.items.length) (nce16)]) rfl (M.cellsA Ae16 0 (by omega) rfl))<|k_fg rfl h13b (fun a F w _=>x_mv F rfl)<|k_fg rfl h13b (fun a F w _=>x_mv F rfl)<|?_
    obtain ⟨be17,oe17,_,Ie17,_,Ae17,hTe17⟩:=SY.at hXe15
    obtain ⟨nae17,nce17,rfl,h1e17,h2e17,h3e17,h4e17,h5e17,SIe17⟩:=hTe17
    have hNe17:Xe15.kind < 256∧inKind .i64 Xe15.at_∧inKind .i64 Xe15.count∧inKind .i64 Xe15.to∧Xe15.items.length≤9223372036854775807:=⟨h1e17,h2e17,h3e17,h4e17,h5e17⟩
    refine k_fg rfl h13b (fun a F w _=>run_indexI tok47.k tok65 (F.ev rfl) (F.ev rfl) (by omega) Ie17)<|k_pg rfl h13b (fun a F w M=>run_loadA tok65 rfl (F.ev rfl) (cs:=[.int .u8 (((Xe15.kind:Nat):Int)),.int .i64 (Xe15.at_),.int .i64 (Xe15.count),.int .i64 (Xe15.to),.slice (nae17) (Xe15.items.length) (nce17)]) rfl (M.cellsA Ae17 0 (by omega) rfl))<|fun a F=>pk_keep_g F rfl rfl h13b ?_
    revert a
    refine g_t rfl h13b<|s_cS ent39 rfl rfl (nsame_spec (x:=Xe7) (y:=Xe15) M hNe14 SIe14 hNe15 SIe15)<|?_;clear M;rintro _ w M ⟨b18,rfl,hb18⟩
    refine e_nil<|eK (C':=Keep G []) (M.keep (Gle.refl _) (by simp)) (fun w h=>h.mono (Gle.refl _) (by simp))<|fun a F=>pk_keep_g F rfl rfl h13b ?_
    revert a
    refine g_t rfl h13b<|s_cS ent40 rfl rfl (rnsame_spec (x:=Xe7) (y:=Xe15) M hNe16 SIe16 hNe17 SIe17)<|?_;clear M;rintro _ w M rfl
    refine e_nil<|eK (C':=Keep G []) (M.keep (Gle.refl _) (by simp)) (fun w h=>h.mono (Gle.refl _) (by simp))<|k_fg rfl h13b (fun a F w _=>run_eqi (F.ev rfl) (F.ev rfl))<|k_fg rfl h13b (fun a F w _=>run_neb tok4.k (F.ev rfl) (F.ev rfl))<|?_
    have hnb:(!((b18)==(decide ((if Xe7=Xe15 then (1:Int) else 0)=1))))=false:=by clear M;by_cases h_:Xe7=Xe15 <;> simp_all
    intro a F
    rw [hnb] at F
    revert a
    refine k_f (fun a F w _=>x_pt F rfl h13b rfl) rfl<|k_nil<|e_tn<|e_cond_f rfl rfl<|e_skip<|e_bn<|e_tn<|e_reg<|s_mv rfl<|s_add rfl rfl<|s_as rfl<|e_nil<|e_tn<|fun a F=>?_
    exact ⟨_,by omega,i+1,rfl,F.to ⟨rfl,rfl,rfl,trivial⟩,M,by omega⟩
   ·skip
    have h19b:=hc;clear hc
    have h19:¬ (((i:Nat):Int) < ((ys.length:Nat):Int)):=of_decide_eq_false h19b
    refine k_s rfl h19b<|k_s rfl h19b<|k_s rfl h19b<|k_s rfl h19b<|k_s rfl h19b<|k_s rfl h19b<|k_s rfl h19b<|k_s rfl h19b<|k_s rfl h19b<|k_s rfl h19b<|k_s rfl h19b<|k_s rfl h19b<|k_s rfl h19b<|k_s rfl h19b<|k_s rfl h19b<|k_s rfl h19b<|k_s rfl h19b<|k_s rfl h19b<|k_s rfl h19b<|k_s rfl h19b<|k_f (fun a F w _=>x_pf F rfl h19b rfl) rfl<|k_nil<|?_
    generalize ({ w with drawn:=w.drawn+1 }:World)=w at M ⊢
    refine e_tn<|e_cond_f rfl rfl<|e_skip<|e_bn<|e_tn<|e_reg<|s_mv rfl<|s_add rfl rfl<|s_as rfl<|e_nil<|e_tn<|fun a F=>?_
    exact ⟨_,by omega,i+1,rfl,F.to ⟨rfl,rfl,rfl,trivial⟩,M,by omega⟩
  ·intro hc
   have h20b:=hc;clear hc
   have h20:¬ (((i:Nat):Int) < ((xs.length:Nat):Int)):=of_decide_eq_false h20b
   refine e_exit<|e_te<|e_te<|e_bh<|e_tn<|e_seq<|e_reg<|s_cR ent22 rfl rfl (lives25_spec M HG)<|?_;clear M;rintro _ Gq21 w hGq21 M rfl
   replace HG:=HG.mono hGq21
   replace SX:=SX.mono mono_rdNote hGq21
   replace SY:=SY.mono mono_rdNote hGq21
   refine s_as rfl<|e_nil<|e_tn<|e_ret<|e_fin1 rfl rfl<|?_
   exact ⟨_,hGq21,M,rfl⟩
end Go.Proofs.YtmmhmcplegpenaaGreatDoor
