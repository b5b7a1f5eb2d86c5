/- The walks, part LZ. · The walks, part LAA. · Notices: text and parsing are inverse. · The walks, part LAB. · Notices: what the reference's Read and Parse read. · The walks, part LAC. · Notices: the state of the reference's Parse. · The walks, part LAD. · The walks, part LAE. · The walks, part LAF. · The walks, part LAG. -/
import Derived.Test.YtmmhmcplegpenaaGreatDoorJ13
import Derived.Test.YtmmhmcplegpenaaGreatDoorJ12
set_option linter.unusedSimpArgs false
set_option linter.unusedVariables false
set_option maxRecDepth 10000
namespace Go.Proofs.YtmmhmcplegpenaaGreatDoor
open Go Go.Y Go.Proofs
variable {w0 w:World} {G:Aq} {L:List Res}
set_option maxHeartbeats 1600000
theorem Ahh (M:Mem w0 G L w) {ns:List NotD} {R:List EntD × Nat × Int} (hR:Qu c3 l3 ns=R) {ka la an:Option Addr} {kc lc cn:Nat} (SC:Ag Cb 9 G (.slice ka c3.kinds.length kc) c3.kinds) (SL:Ag Bg 6 G (.slice la l3.length lc) l3) (SN:Ag E6 5 G (.slice an ns.length cn) ns) (hNX:∀ x∈ns,x.items.length≤900000) :
  Calls Tryz.prog 25 #[.agg #[.slice ka c3.kinds.length kc,.int .i64 1],.agg #[.slice la l3.length lc],.slice an ns.length cn] w (Ht w0 G (fun G' L' v=>∃ (a:Option Addr) (cs:List Value) (Ls:List Res),v=.tuple #[.agg #[.slice a (R).1.length (R).1.length],.int .i64 (((R).2.1:Nat):Int),.int .i64 R.2.2]∧L' = (Cw a (R).1.length cs::(Ls++L))∧Els (M8 Ls) 6 G' cs (R).1)):=by
 rw [← hR]
 exact Wl (c:=c3) M SC SL SN hNX
theorem hnl {k:Nat} {a b t:Int} {l:List ItemD} (h:k < 256∧(0≤a∧a≤9)∧(0≤b∧b≤9)∧(0≤t∧t≤9)∧l.length≤9):(⟨k,a,b,t,l⟩:NotD).kind < 256∧Au .i64 (⟨k,a,b,t,l⟩:NotD).at_∧Au .i64 (⟨k,a,b,t,l⟩:NotD).count∧Au .i64 (⟨k,a,b,t,l⟩:NotD).to∧(⟨k,a,b,t,l⟩:NotD).items.length≤9223372036854775807 :=
 ⟨h.1,Br (by show _≤a;omega) (by show a≤_;omega),Br (by show _≤b;omega) (by show b≤_;omega),Br (by show _≤t;omega) (by show t≤_;omega),(by have:=h.2.2.2.2;show l.length≤_;omega)⟩
theorem rdn {G:Aq} {k:Nat} {a b t:Int} {l:List ItemD} {ad:Option Addr} {c n:Nat} (h:k < 256∧(0≤a∧a≤9)∧(0≤b∧b≤9)∧(0≤t∧t≤9)∧l.length≤9) (hn:n=l.length) (S:Ag Bn 4 G (.slice ad n c) l) :
  E6 G [.int .u8 ((k:Nat):Int),.int .i64 a,.int .i64 b,.int .i64 t,.slice ad n c] ⟨k,a,b,t,l⟩:=by
 subst hn;obtain ⟨h1,h2,h3,h4,h5⟩:=hnl h
 exact ⟨ad,c,rfl,h1,h2,h3,h4,h5,S⟩
theorem Qa (M:Mem w0 G L w) {k:Nat} {a b t z:Int} (h:k < 256∧(0≤a∧a≤9)∧(0≤b∧b≤9)∧(0≤t∧t≤9)∧([]:List ItemD).length≤9) (hz:Dr ⟨k,a,b,t,[]⟩=z) :
  Calls Tryz.prog 37 #[.agg #[.int .u8 ((k:Nat):Int),.int .i64 a,.int .i64 b,.int .i64 t,.slice none 0 0]] w (Bu w0 G L fun v=>v=.int .i64 z):=by
 rw [← hz]
 exact Ha (x:=⟨k,a,b,t,[]⟩) M (hnl h) Ag.nil
theorem ln_cell {i n:Nat} (h:lnN[i]?=some n):(#[.int .i64 2,.int .i64 1,.int .i64 2]:Array Value)[i]?=some (.int .i64 ((n:Nat):Int)):=by
 rcases i with _ | _ | _ | i <;> simp only [lnN,List.getElem?_cons_zero,List.getElem?_cons_succ,List.getElem?_nil,Option.some.injEq,reduceCtorEq] at h
 ·subst h;rfl
 ·subst h;rfl
 subst h;rfl
theorem Gp (M:Mem w0 G L w) (HG:Globs 0 1 2 3 G):Calls Tryz.prog 22 #[] w (Ret w0 G L fun G' v=>v=.bool true):=by
 refine Al (vs:=[]) Tryz.func22 rfl (n:=148) rfl rfl<|?_
 refine wk ?_;refine D4 ent36 rfl rfl (Adv M)<|?_;clear M;rintro _ Gq1 w hGq1 M ⟨kaq1,kcq1,laq1,lcq1,rfl,SCq1,SLq1⟩
 replace HG:=HG.mono hGq1;refine wk ?_;refine B1 M Gb rfl rfl<|?_;clear M;intro b2 w M
 refine B1 M Az rfl rfl<|?_;clear M;intro b4 w M
 intro a F;refine Be F M Gb 1 ?_;clear F M a;intro w a M F;replace M:=z_M M;refine Be F M Az 0 ?_;clear F M a;intro w a M F;replace M:=z_M M;revert a;refine wk ?_;refine Am (fun a F=>Ah (cs:=[.int .u8 2,.int .i64 0,.int .i64 1,.int .i64 0,.slice none 0 0]) (ps:=[(0,.int .u8 2),(2,.int .i64 1)]) Bd.k rfl Bd (F.evp rfl) rfl) rfl<|Am (fun a F=>Ah (cs:=[.int .u64 9,.int .u8 0,.string (str []),.slice none 0 0]) (ps:=[(0,.int .u64 9)]) Bi.k rfl Bi (F.evp rfl) rfl) rfl<|fun a F=>?_
 refine Ar F M Co.k Bi rfl rfl (cs:=[.int .u64 9,.int .u8 0,.string (str []),.slice none 0 0]) rfl rfl (by simp [Value.oneCell']) (by decide) rfl ?_;clear F M a;intro v6 w a M F;obtain ⟨av6,cv6,rfl,hlev6,hcmv6,hlv6⟩:=M.row_shape (k:=0) rfl;have Ei7:Els Bn 4 Gq1 [.int .u64 9,.int .u8 0,.string (str []),.slice none 0 0] [it3 9]:=⟨[.int .u64 9,.int .u8 0,.string (str []),.slice none 0 0],_,rfl,rfl,⟨none,0,rfl,by decide,by decide,by decide,by decide,Ag.nil⟩,rfl⟩;obtain ⟨hnz8,Gz8,az8,cz8,hGz8,hez8,Sz8,M⟩:=M.freeze_row Ai (k:=0) rfl Ei7 (by decide);clear hez8 az8 cz8;replace HG:=HG.mono hGz8;replace SCq1:=SCq1.mono Ak hGz8;replace SLq1:=SLq1.mono Aa hGz8;revert a;refine Am (fun a F=>Ah (cs:=[.int .u8 1,.int .i64 2,.int .i64 0,.int .i64 0,.slice av6 1 (cv6)]) (ps:=[(0,.int .u8 1),(1,.int .i64 2),(4,.slice av6 1 (cv6))]) Bd.k rfl Bd (F.evp rfl) rfl) rfl<|Am (fun a F=>Ah (cs:=[.int .u8 3,.int .i64 0,.int .i64 1,.int .i64 2,.slice none 0 0]) (ps:=[(0,.int .u8 3),(2,.int .i64 1),(3,.int .i64 2)]) Bd.k rfl Bd (F.evp rfl) rfl) rfl<|fun a F=>?_
 refine B7 F M I4.k Bd (ps:=[(0,.agg #[.int .u8 2,.int .i64 0,.int .i64 1,.int .i64 0,.slice none 0 0]),(1,.agg #[.int .u8 1,.int .i64 2,.int .i64 0,.int .i64 0,.slice av6 1 (cv6)]),(2,.agg #[.int .u8 3,.int .i64 0,.int .i64 1,.int .i64 2,.slice none 0 0])]) (cs:=[[.int .u8 2,.int .i64 0,.int .i64 1,.int .i64 0,.slice none 0 0],[.int .u8 1,.int .i64 2,.int .i64 0,.int .i64 0,.slice av6 1 (cv6)],[.int .u8 3,.int .i64 0,.int .i64 1,.int .i64 2,.slice none 0 0]]) (fl:=[.int .u8 2,.int .i64 0,.int .i64 1,.int .i64 0,.slice none 0 0,.int .u8 1,.int .i64 2,.int .i64 0,.int .i64 0,.slice av6 1 (cv6),.int .u8 3,.int .i64 0,.int .i64 1,.int .i64 2,.slice none 0 0]) rfl rfl (by simp [Hn,Value.cells]) (by simp [Amv]) rfl (by simp [Value.oneCell']) (by decide) (by decide) rfl ?_;clear F M a;intro v9 w a M F;obtain ⟨av9,cv9,rfl,hlev9,hcmv9,hlv9⟩:=M.row_shape (k:=0) rfl;have En10:Els E6 5 Gz8 [.int .u8 2,.int .i64 0,.int .i64 1,.int .i64 0,.slice none 0 0,.int .u8 1,.int .i64 2,.int .i64 0,.int .i64 0,.slice av6 1 (cv6),.int .u8 3,.int .i64 0,.int .i64 1,.int .i64 2,.slice none 0 0] Q3:=⟨_,_,rfl,rfl,rdn (by decide) rfl Ag.nil,⟨_,_,rfl,rfl,rdn (by decide) rfl Sz8,⟨_,_,rfl,rfl,rdn (by decide) rfl Ag.nil,rfl⟩⟩⟩;obtain ⟨hnz11,Gz11,az11,cz11,hGz11,hez11,Sz11,M⟩:=M.freeze_row Aj (k:=0) rfl En10 (by decide);clear hez11 az11 cz11;replace HG:=HG.mono hGz11;replace SCq1:=SCq1.mono Ak hGz11;replace SLq1:=SLq1.mono Aa hGz11;replace Sz8:=Sz8.mono Ai hGz11;revert a;refine wk ?_;intro a F;refine Ch F Pf rfl rfl (Ahh (ns:=Q3) M all3 SCq1 SLq1 Sz11 (by decide)) ?_;clear F M a;rintro _ Gq12 _ w a hGq12 M ⟨aoq12,csq12,Loq12,rfl,rfl,Eoq12⟩ F
 replace HG:=HG.mono hGq12;replace SCq1:=SCq1.mono Ak hGq12;replace SLq1:=SLq1.mono Aa hGq12;replace Sz8:=Sz8.mono Ai hGq12;replace Sz11:=Sz11.mono Aj hGq12;have M:=M.perm (Bj (Cw aoq12 (([en3 3,en3 9,en3 2]:List EntD),(3:Nat),(0:Int)).1.length csq12::Loq12) [.blk b4 [.slice laq1 l3.length lcq1] 54,.blk b2 [.slice kaq1 c3.kinds.length kcq1,.int .i64 1] 51] L);obtain ⟨Ggq12,hGgq12,M,Sgq12⟩:=Gj (M.perm (Bj [.blk b4 [.slice laq1 l3.length lcq1] 54,.blk b2 [.slice kaq1 c3.kinds.length kcq1,.int .i64 1] 51] (Cw aoq12 (([en3 3,en3 9,en3 2]:List EntD),(3:Nat),(0:Int)).1.length csq12::Loq12) L)) Eoq12;replace HG:=HG.mono hGgq12;replace SCq1:=SCq1.mono Ak hGgq12;replace SLq1:=SLq1.mono Aa hGgq12;replace Sz8:=Sz8.mono Ai hGgq12;replace Sz11:=Sz11.mono Aj hGgq12;replace M:=z_M M;revert a;refine wk ?_;refine B1 M Az rfl rfl<|?_;clear M;intro b13 w M
 intro a F;refine Be F M Az 0 ?_;clear F M a;intro w a M F;replace M:=z_M M;revert a;refine wk ?_;refine Am (fun a F=>Ah (cs:=[.int .u8 2,.int .i64 0,.int .i64 1,.int .i64 0,.slice none 0 0]) (ps:=[(0,.int .u8 2),(2,.int .i64 1)]) Bd.k rfl Bd (F.evp rfl) rfl) rfl<|Am (fun a F=>Ah (cs:=[.int .u8 2,.int .i64 2,.int .i64 1,.int .i64 0,.slice none 0 0]) (ps:=[(0,.int .u8 2),(1,.int .i64 2),(2,.int .i64 1)]) Bd.k rfl Bd (F.evp rfl) rfl) rfl<|fun a F=>?_
 refine B7 F M I4.k Bd (ps:=[(0,.agg #[.int .u8 2,.int .i64 0,.int .i64 1,.int .i64 0,.slice none 0 0]),(1,.agg #[.int .u8 2,.int .i64 2,.int .i64 1,.int .i64 0,.slice none 0 0])]) (cs:=[[.int .u8 2,.int .i64 0,.int .i64 1,.int .i64 0,.slice none 0 0],[.int .u8 2,.int .i64 2,.int .i64 1,.int .i64 0,.slice none 0 0]]) (fl:=[.int .u8 2,.int .i64 0,.int .i64 1,.int .i64 0,.slice none 0 0,.int .u8 2,.int .i64 2,.int .i64 1,.int .i64 0,.slice none 0 0]) rfl rfl (by simp [Hn,Value.cells]) (by simp [Amv]) rfl (by simp [Value.oneCell']) (by decide) (by decide) rfl ?_;clear F M a;intro v15 w a M F;obtain ⟨av15,cv15,rfl,hlev15,hcmv15,hlv15⟩:=M.row_shape (k:=0) rfl;have En16:Els E6 5 Ggq12 [.int .u8 2,.int .i64 0,.int .i64 1,.int .i64 0,.slice none 0 0,.int .u8 2,.int .i64 2,.int .i64 1,.int .i64 0,.slice none 0 0] Wf:=⟨_,_,rfl,rfl,rdn (by decide) rfl Ag.nil,⟨_,_,rfl,rfl,rdn (by decide) rfl Ag.nil,rfl⟩⟩;obtain ⟨hnz17,Gz17,az17,cz17,hGz17,hez17,Sz17,M⟩:=M.freeze_row Aj (k:=0) rfl En16 (by decide);clear hez17 az17 cz17;replace HG:=HG.mono hGz17;replace SCq1:=SCq1.mono Ak hGz17;replace SLq1:=SLq1.mono Aa hGz17;replace Sz8:=Sz8.mono Ai hGz17;replace Sz11:=Sz11.mono Aj hGz17;replace Sgq12:=Sgq12.mono Aa hGz17;refine Ch F Pf rfl rfl (Ahh (ns:=Wf) M all3b SCq1 SLq1 Sz17 (by decide)) ?_;clear F M a;rintro _ Gq18 _ w a hGq18 M ⟨aoq18,csq18,Loq18,rfl,rfl,Eoq18⟩ F;replace HG:=HG.mono hGq18;replace SCq1:=SCq1.mono Ak hGq18;replace SLq1:=SLq1.mono Aa hGq18;replace Sz8:=Sz8.mono Ai hGq18;replace Sz11:=Sz11.mono Aj hGq18
 replace Sgq12:=Sgq12.mono Aa hGq18;replace Sz17:=Sz17.mono Aj hGq18;have M:=M.perm (Bj (Cw aoq18 (([]:List EntD),(1:Nat),(4:Int)).1.length csq18::Loq18) [.blk b13 [.slice aoq12 ((([en3 3,en3 9,en3 2]:List EntD),(3:Nat),(0:Int)).1.length) ((([en3 3,en3 9,en3 2]:List EntD),(3:Nat),(0:Int)).1.length)] 54,.blk b4 [.slice laq1 l3.length lcq1] 54,.blk b2 [.slice kaq1 c3.kinds.length kcq1,.int .i64 1] 51] L);obtain ⟨Ggq18,hGgq18,M,Sgq18⟩:=Gj (M.perm (Bj [.blk b13 [.slice aoq12 ((([en3 3,en3 9,en3 2]:List EntD),(3:Nat),(0:Int)).1.length) ((([en3 3,en3 9,en3 2]:List EntD),(3:Nat),(0:Int)).1.length)] 54,.blk b4 [.slice laq1 l3.length lcq1] 54,.blk b2 [.slice kaq1 c3.kinds.length kcq1,.int .i64 1] 51] (Cw aoq18 (([]:List EntD),(1:Nat),(4:Int)).1.length csq18::Loq18) L)) Eoq18;replace HG:=HG.mono hGgq18;replace SCq1:=SCq1.mono Ak hGgq18;replace SLq1:=SLq1.mono Aa hGgq18;replace Sz8:=Sz8.mono Ai hGgq18;replace Sz11:=Sz11.mono Aj hGgq18;replace Sgq12:=Sgq12.mono Aa hGgq18;replace Sz17:=Sz17.mono Aj hGgq18;replace M:=z_M M;revert a;refine wk ?_;refine B1 M Az rfl rfl<|?_;clear M;intro b19 w M
 intro a F;refine Be F M Az 0 ?_;clear F M a;intro w a M F;replace M:=z_M M;revert a;refine wk ?_;refine Am (fun a F=>Ah (cs:=[.int .u8 2,.int .i64 0,.int .i64 0,.int .i64 1,.slice none 0 0]) (ps:=[(0,.int .u8 2),(3,.int .i64 1)]) Bd.k rfl Bd (F.evp rfl) rfl) rfl<|A4 Acn rfl rfl (Qa (k:=2) (a:=0) (b:=0) (t:=1) (z:=5) M (by decide) (by decide))<|?_;clear M;rintro _ w M rfl
 refine wk ?_;refine Am (fun a F=>Ah (cs:=[.int .u8 6,.int .i64 0,.int .i64 0,.int .i64 0,.slice none 0 0]) (ps:=[(0,.int .u8 6)]) Bd.k rfl Bd (F.evp rfl) rfl) rfl<|?_
 refine wk ?_;refine A4 Acn rfl rfl (Qa (k:=6) (a:=0) (b:=0) (t:=0) (z:=1) M (by decide) (by decide))<|?_;clear M;rintro _ w M rfl
 refine wk ?_;refine Am (fun a F=>Ah (cs:=[.int .u8 5,.int .i64 0,.int .i64 0,.int .i64 0,.slice none 0 0]) (ps:=[(0,.int .u8 5)]) Bd.k rfl Bd (F.evp rfl) rfl) rfl<|?_
 refine wk ?_;refine A4 Acn rfl rfl (Qa (k:=5) (a:=0) (b:=0) (t:=0) (z:=0) M (by decide) (by decide))<|?_;clear M;rintro _ w M rfl
 refine wk ?_;have hg21:(!(decide ((((([en3 3,en3 9,en3 2]:List EntD),(3:Nat),(0:Int)).1.length:Nat):Int)=3)))=false:=(F4 (decide_eq_true (by (first | omega | rfl | decide))));refine wk ?_;obtain ⟨be22,oe22,_,Ie22,_,Ae22,hTe22⟩:=Sgq12.at (show ([en3 3,en3 9,en3 2]:List EntD)[0]?=some (en3 3) from rfl);obtain ⟨c1e22,hcse22,hPe22,hBe22⟩:=hTe22;obtain ⟨mae22,mce22,rfl,hke22,hte22,hxe22,hne22,SMe22⟩:=hPe22;subst hcse22;have hIe22:(((en3 3).item).key < 18446744073709551616∧((en3 3).item).typ < 256∧((en3 3).item).text.length≤9223372036854775807):=⟨hke22,hte22,hxe22⟩;have hQe22:-9223372036854775808≤(en3 3).size∧(en3 3).size≤9223372036854775807:=hBe22;refine wk ?_;have hg23:(!(decide (((((en3 3).item).key:Nat):Int)=3)))=false:=(F4 (decide_eq_true (by (first | omega | rfl | decide))));refine wk ?_;obtain ⟨be24,oe24,_,Ie24,_,Ae24,hTe24⟩:=Sgq12.at (show ([en3 3,en3 9,en3 2]:List EntD)[1]?=some (en3 9) from rfl);obtain ⟨c1e24,hcse24,hPe24,hBe24⟩:=hTe24;obtain ⟨mae24,mce24,rfl,hke24,hte24,hxe24,hne24,SMe24⟩:=hPe24;subst hcse24;have hIe24:(((en3 9).item).key < 18446744073709551616∧((en3 9).item).typ < 256∧((en3 9).item).text.length≤9223372036854775807):=⟨hke24,hte24,hxe24⟩;have hQe24:-9223372036854775808≤(en3 9).size∧(en3 9).size≤9223372036854775807:=hBe24;refine wk ?_;have hg25:(!(decide (((((en3 9).item).key:Nat):Int)=9)))=false:=(F4 (decide_eq_true (by (first | omega | rfl | decide))));refine wk ?_;obtain ⟨be26,oe26,_,Ie26,_,Ae26,hTe26⟩:=Sgq12.at (show ([en3 3,en3 9,en3 2]:List EntD)[2]?=some (en3 2) from rfl)
 obtain ⟨c1e26,hcse26,hPe26,hBe26⟩:=hTe26;obtain ⟨mae26,mce26,rfl,hke26,hte26,hxe26,hne26,SMe26⟩:=hPe26;subst hcse26;have hIe26:(((en3 2).item).key < 18446744073709551616∧((en3 2).item).typ < 256∧((en3 2).item).text.length≤9223372036854775807):=⟨hke26,hte26,hxe26⟩;have hQe26:-9223372036854775808≤(en3 2).size∧(en3 2).size≤9223372036854775807:=hBe26;refine wk ?_;refine Am (fun a F=>Ah (cs:=[.int .u64 9,.int .u8 0,.string (str [120]),.slice none 0 0]) (ps:=[(0,.int .u64 9),(2,.string (str [120]))]) Bi.k rfl Bi (F.evp rfl) rfl) rfl<|fun a F=>?_
 refine Ar F M Co.k Bi rfl rfl (cs:=[.int .u64 9,.int .u8 0,.string (str [120]),.slice none 0 0]) rfl rfl (by simp [Value.oneCell']) (by decide) rfl ?_;clear F M a;intro v27 w a M F;obtain ⟨av27,cv27,rfl,hlev27,hcmv27,hlv27⟩:=M.row_shape (k:=0) rfl;have Ei28:Els Bn 4 Ggq18 [.int .u64 9,.int .u8 0,.string (str [120]),.slice none 0 0] [⟨9,0,[120],[]⟩]:=⟨[.int .u64 9,.int .u8 0,.string (str [120]),.slice none 0 0],_,rfl,rfl,⟨none,0,rfl,by decide,by decide,by decide,by decide,Ag.nil⟩,rfl⟩;obtain ⟨hnz29,Gz29,az29,cz29,hGz29,hez29,Sz29,M⟩:=M.freeze_row Ai (k:=0) rfl Ei28 (by decide);clear hez29 az29 cz29;replace HG:=HG.mono hGz29;replace SCq1:=SCq1.mono Ak hGz29;replace SLq1:=SLq1.mono Aa hGz29;replace Sz8:=Sz8.mono Ai hGz29;replace Sz11:=Sz11.mono Aj hGz29;replace Sgq12:=Sgq12.mono Aa hGz29;replace Sz17:=Sz17.mono Aj hGz29;replace Sgq18:=Sgq18.mono Aa hGz29;replace Ae22:=Ae22.mono hGz29;replace SMe22:=SMe22.mono Ay hGz29;replace Ae24:=Ae24.mono hGz29;replace SMe24:=SMe24.mono Ay hGz29;replace Ae26:=Ae26.mono hGz29;replace SMe26:=SMe26.mono Ay hGz29;revert a;refine Am (fun a F=>Ah (cs:=[.int .u8 1,.int .i64 2,.int .i64 0,.int .i64 0,.slice av27 1 (cv27)]) (ps:=[(0,.int .u8 1),(1,.int .i64 2),(4,.slice av27 1 (cv27))]) Bd.k rfl Bd (F.evp rfl) rfl) rfl<|Am (fun a F=>Ah (cs:=[.int .u8 2,.int .i64 0,.int .i64 1,.int .i64 0,.slice none 0 0]) (ps:=[(0,.int .u8 2),(2,.int .i64 1)]) Bd.k rfl Bd (F.evp rfl) rfl) rfl<|fun a F=>?_
 refine B7 F M I4.k Bd (ps:=[(0,.agg #[.int .u8 1,.int .i64 2,.int .i64 0,.int .i64 0,.slice av27 1 (cv27)]),(1,.agg #[.int .u8 2,.int .i64 0,.int .i64 1,.int .i64 0,.slice none 0 0])]) (cs:=[[.int .u8 1,.int .i64 2,.int .i64 0,.int .i64 0,.slice av27 1 (cv27)],[.int .u8 2,.int .i64 0,.int .i64 1,.int .i64 0,.slice none 0 0]]) (fl:=[.int .u8 1,.int .i64 2,.int .i64 0,.int .i64 0,.slice av27 1 (cv27),.int .u8 2,.int .i64 0,.int .i64 1,.int .i64 0,.slice none 0 0]) rfl rfl (by simp [Hn,Value.cells]) (by simp [Amv]) rfl (by simp [Value.oneCell']) (by decide) (by decide) rfl ?_;clear F M a;intro v30 w a M F;obtain ⟨av30,cv30,rfl,hlev30,hcmv30,hlv30⟩:=M.row_shape (k:=0) rfl;have En31:Els E6 5 Gz29 [.int .u8 1,.int .i64 2,.int .i64 0,.int .i64 0,.slice av27 1 (cv27),.int .u8 2,.int .i64 0,.int .i64 1,.int .i64 0,.slice none 0 0] Lp:=⟨_,_,rfl,rfl,rdn (by decide) rfl Sz29,⟨_,_,rfl,rfl,rdn (by decide) rfl Ag.nil,rfl⟩⟩;obtain ⟨hnz32,Gz32,az32,cz32,hGz32,hez32,Sz32,M⟩:=M.freeze_row Aj (k:=0) rfl En31 (by decide);clear hez32 az32 cz32;replace HG:=HG.mono hGz32;replace SCq1:=SCq1.mono Ak hGz32;replace SLq1:=SLq1.mono Aa hGz32;replace Sz8:=Sz8.mono Ai hGz32;replace Sz11:=Sz11.mono Aj hGz32;replace Sgq12:=Sgq12.mono Aa hGz32;replace Sz17:=Sz17.mono Aj hGz32;replace Sgq18:=Sgq18.mono Aa hGz32;replace Ae22:=Ae22.mono hGz32;replace SMe22:=SMe22.mono Ay hGz32;replace Ae24:=Ae24.mono hGz32;replace SMe24:=SMe24.mono Ay hGz32;replace Ae26:=Ae26.mono hGz32;replace SMe26:=SMe26.mono Ay hGz32;replace Sz29:=Sz29.mono Ai hGz32
 revert a;refine D4 ent32 rfl rfl (Kz (ns:=Lp) M HG Sz32)<|?_;clear M;rintro _ Gq33 w hGq33 M rfl
 replace HG:=HG.mono hGq33;replace SCq1:=SCq1.mono Ak hGq33;replace SLq1:=SLq1.mono Aa hGq33;replace Sz8:=Sz8.mono Ai hGq33;replace Sz11:=Sz11.mono Aj hGq33;replace Sgq12:=Sgq12.mono Aa hGq33;replace Sz17:=Sz17.mono Aj hGq33;replace Sgq18:=Sgq18.mono Aa hGq33;replace Ae22:=Ae22.mono hGq33;replace SMe22:=SMe22.mono Ay hGq33;replace Ae24:=Ae24.mono hGq33;replace SMe24:=SMe24.mono Ay hGq33;replace Ae26:=Ae26.mono hGq33;replace SMe26:=SMe26.mono Ay hGq33;replace Sz29:=Sz29.mono Ai hGq33;replace Sz32:=Sz32.mono Aj hGq33;intro a F;rw [Z4.1,Z4.2] at F;revert a;refine wk ?_;intro a F;refine B7 F M E8.k Ej (ps:=[(0,.string (str [105,110,115,101,114,116,32,48,32,49,10])),(1,.string (str [114,101,109,111,118,101,32,48,10])),(2,.string (str [114,101,115,101,116,32,48,10,102,111,111,10]))]) (cs:=[[.string (str [105,110,115,101,114,116,32,48,32,49,10])],[.string (str [114,101,109,111,118,101,32,48,10])],[.string (str [114,101,115,101,116,32,48,10,102,111,111,10])]]) (fl:=[.string (str [105,110,115,101,114,116,32,48,32,49,10]),.string (str [114,101,109,111,118,101,32,48,10]),.string (str [114,101,115,101,116,32,48,10,102,111,111,10])]) rfl rfl (by simp [Hn,Value.cells]) (by simp [ti9]) rfl (by simp [Value.oneCell']) (by decide) (by decide) rfl ?_;clear F M a;intro v34 w a M F;obtain ⟨av34,cv34,rfl,hlev34,hcmv34,hlv34⟩:=M.row_shape (k:=0) rfl;have Et:Els Cf 1 Gq33 [.string (str [105,110,115,101,114,116,32,48,32,49,10]),.string (str [114,101,109,111,118,101,32,48,10]),.string (str [114,101,115,101,116,32,48,10,102,111,111,10])] Amd:=Ia Amd (by intro y hy;simp only [Amd,List.mem_cons,List.not_mem_nil,or_false] at hy;rcases hy with rfl | rfl | rfl <;> decide)
 obtain ⟨hnz35,Gz35,az35,cz35,hGz35,hez35,Sz35,M⟩:=M.freeze_row Ay (k:=0) rfl Et (by decide);clear hez35 az35 cz35;replace HG:=HG.mono hGz35;replace SCq1:=SCq1.mono Ak hGz35;replace SLq1:=SLq1.mono Aa hGz35;replace Sz8:=Sz8.mono Ai hGz35;replace Sz11:=Sz11.mono Aj hGz35;replace Sgq12:=Sgq12.mono Aa hGz35;replace Sz17:=Sz17.mono Aj hGz35;replace Sgq18:=Sgq18.mono Aa hGz35;replace Ae22:=Ae22.mono hGz35;replace SMe22:=SMe22.mono Ay hGz35;replace Ae24:=Ae24.mono hGz35;replace SMe24:=SMe24.mono Ay hGz35;replace Ae26:=Ae26.mono hGz35;replace SMe26:=SMe26.mono Ay hGz35;replace Sz29:=Sz29.mono Ai hGz35;replace Sz32:=Sz32.mono Aj hGz35;revert a;refine wk ?_;refine fun a F=>Ba (fun m a' w'=>∃ (i:Nat),m=3 - i∧∃ G36,Gle Gz35 G36∧Fits 148 a' [(6,.int .i64 0),(10,.string (str [105,110,115,101,114,116,32,50,32,49,10,57,32,48,32,45,32,120,10,114,101,109,111,118,101,32,48,32,49,10])),(119,.slice av34 3 (cv34)),(120,.int .i64 ((3:Nat):Int)),(121,.int .i64 ((i:Nat):Int))]∧Mem w0 G36 (.blk b19 [.slice aoq18 ((([]:List EntD),(1:Nat),(4:Int)).1.length) ((([]:List EntD),(1:Nat),(4:Int)).1.length)] 54::.blk b13 [.slice aoq12 ((([en3 3,en3 9,en3 2]:List EntD),(3:Nat),(0:Int)).1.length) ((([en3 3,en3 9,en3 2]:List EntD),(3:Nat),(0:Int)).1.length)] 54::.blk b4 [.slice laq1 l3.length lcq1] 54::.blk b2 [.slice kaq1 c3.kinds.length kcq1,.int .i64 1] 51::L) w'∧(i≤3)) _ ⟨0,rfl,Gz35,Gle.refl _,F.to ⟨rfl,rfl,rfl,rfl,rfl,trivial⟩,M,by omega⟩ ?_;clear F M;rintro m a w ⟨i,rfl,G36,hG36,F,M,hi⟩;replace HG:=HG.mono hG36
 replace SCq1:=SCq1.mono Ak hG36;replace SLq1:=SLq1.mono Aa hG36;replace Sz8:=Sz8.mono Ai hG36;replace Sz11:=Sz11.mono Aj hG36;replace Sgq12:=Sgq12.mono Aa hG36;replace Sz17:=Sz17.mono Aj hG36;replace Sgq18:=Sgq18.mono Aa hG36;replace Ae22:=Ae22.mono hG36;replace SMe22:=SMe22.mono Ay hG36;replace Ae24:=Ae24.mono hG36;replace SMe24:=SMe24.mono Ay hG36;replace Ae26:=Ae26.mono hG36;replace SMe26:=SMe26.mono Ay hG36;replace Sz29:=Sz29.mono Ai hG36;replace Sz32:=Sz32.mono Aj hG36;replace Sz35:=Sz35.mono Ay hG36;revert a;refine wk ?_;refine qD rfl ?_ ?_
 ·intro h37;refine wk ?_;obtain ⟨Xe38,hXe38⟩:=Ap (xs:=Amd) (i:=i) (by omega);obtain ⟨be38,oe38,_,Ie38,_,Ae38,⟨rfl,hsle38⟩⟩:=Sz35.at hXe38;refine wk ?_;obtain ⟨ln,hln,hpf⟩:=Aux hXe38;refine D4 ent33 rfl rfl (Abb (s:=Xe38) M HG (by first | assumption | omega))<|?_;clear M;rintro _ Gq39 w hGq39 M ⟨aq39,yq39,lq39,eq39,rfl,Sq39,hpq39⟩
  replace HG:=HG.mono hGq39;replace SCq1:=SCq1.mono Ak hGq39;replace SLq1:=SLq1.mono Aa hGq39;replace Sz8:=Sz8.mono Ai hGq39;replace Sz11:=Sz11.mono Aj hGq39;replace Sgq12:=Sgq12.mono Aa hGq39;replace Sz17:=Sz17.mono Aj hGq39;replace Sgq18:=Sgq18.mono Aa hGq39;replace Ae22:=Ae22.mono hGq39;replace SMe22:=SMe22.mono Ay hGq39;replace Ae24:=Ae24.mono hGq39;replace SMe24:=SMe24.mono Ay hGq39;replace Ae26:=Ae26.mono hGq39;replace SMe26:=SMe26.mono Ay hGq39;replace Sz29:=Sz29.mono Ai hGq39;replace Sz32:=Sz32.mono Aj hGq39;replace Sz35:=Sz35.mono Ay hGq39;replace Ae38:=Ae38.mono hGq39;obtain ⟨rfl,rfl,rfl⟩:yq39=[]∧lq39=ln∧eq39=5:=by have h_:=hpq39.uniq hpf;simpa only [Prod.mk.injEq] using h_
  refine wk ?_;refine Am (fun a F=>Em F (ps:=[(0,.int .i64 2),(1,.int .i64 1),(2,.int .i64 2)]) (cs:=[.int .i64 2,.int .i64 1,.int .i64 2]) X1.k X1 Cq rfl rfl) rfl<|?_
  refine wk ?_;refine Am (fun a F=>S3 (j:=i) (v:=.int .i64 (((lq39:Nat)):Int)) X1.k Cq rfl rfl (F.ev rfl) (F.ev rfl) rfl (by omega) (ln_cell hln)) rfl<|?_
  refine wk ?_;intro a F
  exact ⟨_,by omega,i+1,rfl,Gq39,(hG36.trans hGq39),F.to ⟨rfl,rfl,rfl,rfl,rfl,trivial⟩,M,by omega⟩
 intro h40;refine wk ?_;refine Ad rfl rfl<|?_
 exact ⟨_,((((((((((((hGq1.trans hGz8).trans hGz11).trans hGq12).trans hGgq12).trans hGz17).trans hGq18).trans hGgq18).trans hGz29).trans hGz32).trans hGq33).trans hGz35).trans hG36),M.weaken dS4,by first | rfl | (congr 1;first | rfl | decide | simp_all)⟩
set_option maxHeartbeats 1600000
open Go Go.Y Go.RowKit
set_option maxHeartbeats 1600000
section
variable {ρ:Operand→Value} {P:Program} {d:Option Tmp} {t:TypeId} {p:String} {af:Array Edge} {g:Option (Nat × Bool)} {w:World}
end
def updZ (v:Nat→Int) (i:Nat) (z:Int):Nat→Int:=fun j=>if j=i then z else v j
structure RdV (k:Nat) (v:Nat→Int) (i:Nat):Prop where
 ink:∀ j,Au .i64 (v j)
 un:∀ j,j < i→uG k j=0→v j=0
 ze:∀ j,i≤j→v j=0
theorem RdV.start (k:Nat):RdV k (fun _=>0) 0:=⟨fun _=>Br (n:=0) (by decide) (by decide),fun j h=>by omega,fun _ _=>rfl⟩
theorem RdV.skip {k i:Nat} {v:Nat→Int} (h:RdV k v i):RdV k v (i+1):=⟨h.ink,fun j hj hu=>by
 rcases Nat.lt_succ_iff_lt_or_eq.1 hj with h4 | h4
 ·exact h.un j h4 hu
 exact h.ze j (by omega),fun j hj=>h.ze j (by omega)⟩
theorem RdV.take {k i:Nat} {v:Nat→Int} {z:Int} (h:RdV k v i) (hz:Au .i64 z) (hu:uG k i=1):RdV k (updZ v i z) (i+1):=⟨fun j=>by unfold updZ;split;exact hz;exact h.ink j,fun j hj hu2=>by
 unfold updZ
 rcases Nat.lt_succ_iff_lt_or_eq.1 hj with h4 | h4
 ·rw [if_neg (by omega)];exact h.un j h4 hu2
 subst h4;omega,fun j hj=>by unfold updZ;rw [if_neg (by omega)];exact h.ze j (by omega)⟩
set_option maxHeartbeats 1600000
def Yo:Rd (NotD × Option Value):=fun G cs y=>match y.2 with
 | none=>E6 G cs y.1
 | some v=>cs=[.int .u8 ((y.1.kind:Nat):Int),.int .i64 y.1.at_,.int .i64 y.1.count,.int .i64 y.1.to,v]
theorem Abn:Ho Yo:=by
 rintro G G' cs ⟨x,v⟩ h hr
 cases v with
 | none=>exact Aj _ _ _ _ h hr
 | some v=>exact hr
def Amg (xs:List NotD):List (NotD × Option Value):=xs.map fun y=>(y,none)
theorem Vn {G:Aq}:∀ {xs:List NotD} {cs:List Value},Els E6 5 G cs xs→Els Yo 5 G cs (Amg xs)
 | [],_,h=>h
 | x::xs,cs,⟨c1,r,h1,h2,h3,h4⟩=>⟨c1,r,h1,h2,h3,Vn h4⟩
structure RpA (s c:List UInt8) (G:Aq) (no:Nat) (cso:List Value) (line:Nat) (xs:List NotD):Prop where
 els:Els E6 5 G cso xs
 len:no=xs.length
 few:xs.length≤32
 at_:line=nlN xs
 suf:line+c.length≤s.length
 go:∀ r,PR xs c r→PR [] s r
structure RpB (s c:List UInt8) (G:Aq) (vi:Value) (ni:Nat) (csi:List Value) (no:Nat) (cso:List Value) (left line:Nat) (xs:List NotD) (x:NotD) (sz:Int) (ys:List ItemD):Prop where
 els:Els Yo 5 G cso (Amg xs++[(x,some vi)])
 its:Els Bn 4 G csi ys
 nit:ni=ys.length
 len:no=xs.length+1
 few:xs.length < 32
 hd:Head x sz
 ok:okI ys
 lf:((left:Nat):Int)=sz - ys.length
 pos:0 < left
 at_:line=nlN xs+1+ys.length
 suf:line+c.length≤s.length
 go:∀ r,PR xs (D7 x sz++(Cc ys++c)) r→PR [] s r
theorem RpA.mono {s c:List UInt8} {G G':Aq} {no line:Nat} {cso:List Value} {xs:List NotD} (h:RpA s c G no cso line xs) (hG:Gle G G'):RpA s c G' no cso line xs:={ h with els:=h.els.mono Aj hG }
theorem RpB.mono {s c:List UInt8} {G G':Aq} {vi:Value} {ni no left line:Nat} {csi cso:List Value} {xs:List NotD} {x:NotD} {sz:Int} {ys:List ItemD} (h:RpB s c G vi ni csi no cso left line xs x sz ys) (hG:Gle G G'):RpB s c G' vi ni csi no cso left line xs x sz ys:={ h with els:=h.els.mono Abn hG,its:=h.its.mono Ai hG }
def RpS (s c:List UInt8) (G:Aq) (vi:Value) (ni:Nat) (csi:List Value) (no:Nat) (cso:List Value) (left line:Nat):Prop :=
 (left=0∧∃ xs,RpA s c G no cso line xs)∨∃ xs x sz ys,RpB s c G vi ni csi no cso left line xs x sz ys
theorem RpS.mono {s c:List UInt8} {G G':Aq} {vi:Value} {ni no left line:Nat} {csi cso:List Value} (h:RpS s c G vi ni csi no cso left line) (hG:Gle G G'):RpS s c G' vi ni csi no cso left line:=by
 rcases h with ⟨h1,xs,h⟩ | ⟨xs,x,sz,ys,h⟩
 ·exact Or.inl ⟨h1,xs,h.mono hG⟩
 exact Or.inr ⟨xs,x,sz,ys,h.mono hG⟩
section
variable {s c:List UInt8} {G:Aq} {vi:Value} {ni no left line:Nat} {csi cso:List Value} {xs:List NotD} {x:NotD} {sz:Int} {ys:List ItemD}
theorem RpA.bad (h:RpA s c G no cso line xs) (hc:c≠[]) (hn:¬ Ij c):PR [] s ([],line+1,5):=h.go _ (by rw [h.at_];exact PR.nohead hc hn)
theorem RpA.full (h:RpA s c G no cso line xs) (hn:Ij c) (hl:xs.length=32):PR [] s ([],line+1,3):=h.go _ (by rw [h.at_];exact PR.full hn hl)
theorem RpA.fin (h:RpA s c G no cso line xs) (hc:c=[]):PR [] s (xs,0,0):=h.go _ (by rw [hc];exact PR.done)
theorem RpB.bad (h:RpB s c G vi ni csi no cso left line xs x sz ys) (hn:¬ Qv c):PR [] s ([],line+1,5) :=
 h.go _ (by rw [h.at_];exact PR.bad h.hd (by have:=h.few;omega) rfl h.ok (by have:=h.lf;have:=h.pos;omega) hn)
theorem RpA.one (h:RpA s c G no cso line xs) {x:NotD} {c':List UInt8} (hh:Head x 0) (hl:xs.length≠32) (hc:c=D7 x 0++c') {cs1:List Value} (e1:Els E6 5 G cs1 [x]) (hlen:line+1+c'.length≤s.length):RpA s c' G (no+1) (cso++cs1) (line+1) (xs++[x]) where
 els:=Els.append h.els e1
 len:=by rw [List.length_append,h.len];rfl
 few:=by have:=h.few;rw [List.length_append,List.length_singleton];omega
 at_:=by rw [Tz,h.at_,hh.it];rfl
 suf:=hlen
 go:=fun r hr=>h.go r (by
  have hx:({ x with items:=[] }:NotD)=x:=by have h1:=hh.it;cases x;simp only at h1;subst h1;rfl
  refine PR.step (ys:=[]) (r:=c') hh hl ?_ (fun y hy=>by cases hy) rfl ?_
  ·rw [hc];rfl
  rw [hx];exact hr)
theorem RpA.first (h:RpA s c G no cso line xs) {x:NotD} {sz:Int} {left:Nat} {c':List UInt8} (hh:Head x sz) (hl:xs.length≠32) (hc:c=D7 x sz++c') {cs1:List Value} (e1:cs1=[.int .u8 ((x.kind:Nat):Int),.int .i64 x.at_,.int .i64 x.count,.int .i64 x.to,vi]) (hlf:((left:Nat):Int)=sz) (hp:0 < left) (hlen:line+1+c'.length≤s.length) :
  RpB s c' G vi 0 [] (no+1) (cso++cs1) left (line+1) xs x sz [] where
 els:=Els.append (Vn h.els) ⟨cs1,[],by simp,by rw [e1];rfl,e1,rfl⟩
 its:=rfl
 nit:=rfl
 len:=by rw [h.len]
 few:=by have:=h.few;omega
 hd:=hh
 ok:=fun y hy=>by cases hy
 lf:=by simp only [List.length_nil];omega
 pos:=hp
 at_:=by rw [h.at_];rfl
 suf:=hlen
 go:=fun r hr=>h.go r (by rw [hc];exact hr)
theorem RpB.go1 (h:RpB s c G vi ni csi no cso left line xs x sz ys) {y:ItemD} {c':List UInt8} (hc:c=Cc [y]++c'):∀ r,PR xs (D7 x sz++(Cc (ys++[y])++c')) r→PR [] s r:=fun r hr=>h.go r (by
 rw [hc,← List.append_assoc (Cc ys),← Px];exact hr)
theorem RpB.ok1 (h:RpB s c G vi ni csi no cso left line xs x sz ys) {y:ItemD} (hy:ItemOk 8 y∧y.key < 18446744073709551616∧y.typ < 256):okI (ys++[y]):=by
 intro z hz
 rcases List.mem_append.1 hz with hz | hz
 ·exact h.ok z hz
 rw [List.mem_singleton.1 hz];exact hy
theorem RpB.more (h:RpB s c G vi ni csi no cso left line xs x sz ys) {y:ItemD} {c':List UInt8} {vi':Value} {ni':Nat} {csi' cso':List Value} (hc:c=Cc [y]++c') (hy:ItemOk 8 y∧y.key < 18446744073709551616∧y.typ < 256) (e1:Els Bn 4 G csi' (ys++[y])) (hn:ni' = ys.length+1)
  (e2:Els Yo 5 G cso' (Amg xs++[(x,some vi')])) (hl:1 < left) (hlen:line+1+c'.length≤s.length):RpB s c' G vi' ni' csi' no cso' (left - 1) (line+1) xs x sz (ys++[y]) where
 els:=e2
 its:=e1
 nit:=by rw [hn,List.length_append];rfl
 len:=h.len
 few:=h.few
 hd:=h.hd
 ok:=h.ok1 hy
 lf:=by have:=h.lf;rw [List.length_append,List.length_singleton];omega
 pos:=by omega
 at_:=by rw [h.at_,List.length_append];rfl
 suf:=hlen
 go:=h.go1 hc
end
set_option maxHeartbeats 1600000
set_option maxHeartbeats 1600000
set_option maxHeartbeats 1600000
set_option maxHeartbeats 1600000
theorem Ts {w0 w:World} {G:Aq} {L:List Res} (M:Mem w0 G L w) {q:Q4} (hq:q.a < 256∧q.b < 256∧q.c < 256∧q.d < 256):Calls Tryz.prog 60 #[.agg #[.int .u8 ((q.a:Nat):Int),.int .u8 ((q.b:Nat):Int),.int .u8 ((q.c:Nat):Int),.int .u8 ((q.d:Nat):Int)]] w (Ret w0 G L fun G' v=>∃ (ma:Option Addr) (mc:Nat),v=.agg #[.int .u64 (((Fo q).key:Nat):Int),.int .u8 (((Fo q).typ:Nat):Int),.string (str (Fo q).text),.slice ma (Fo q).marks.length mc]∧Ag Cf 1 G' (.slice ma (Fo q).marks.length mc) (Fo q).marks):=by
 obtain ⟨hq1,hq2,hq3,hq4⟩:=id hq;refine Al (vs:=[_]) Tryz.func60 rfl (n:=54) rfl rfl<|?_
 refine Bt<|?_
 refine B2 M rfl rfl rfl<|?_;clear M;intro b1 w M
 refine B1 M Bi rfl rfl<|?_;clear M;intro b2 w M
 refine Cj<|?_
 refine fun a F=>Jo (fun a' w'=>∃ (b3i:Nat),Fits 54 a' [(1,.pointer (some ⟨b1,0,none⟩)),(2,.pointer (some ⟨b2,0,none⟩)),(3,.pointer (some ⟨b3i,0,none⟩))]∧Mem w0 G (.blk b3i [.int .u64 ((1+q.a % 60:Nat):Int),.int .u8 ((q.b % 3:Nat):Int),.string (str (Oi (q.c % 8))),.slice none 0 0] 26::.blk b2 [.int .u64 0,.int .u8 0,.string (str []),.slice none 0 0] 26::.blk b1 [.int .u8 ((q.a:Nat):Int),.int .u8 ((q.b:Nat):Int),.int .u8 ((q.c:Nat):Int),.int .u8 ((q.d:Nat):Int)] 39::L) w') ?_ ?_
 ·skip
  refine Ic (.run 0 (.run 1 (.run 2 (.run 3 (.run 4 (.run 5 (.run 6 (.run 7 (.run 9 (.run 10 (.run 11 (.act 8 (.run 12 (.run 13 (.run 14 (.act 15 (.act 16 .fin .no) .no)))) (.act 15 (.act 8 (.run 12 (.run 13 (.run 14 (.act 16 .fin .no)))) .no) .no))))))))))))) (Keep G [.blk b1 [.int .u8 ((q.a:Nat):Int),.int .u8 ((q.b:Nat):Int),.int .u8 ((q.c:Nat):Int),.int .u8 ((q.d:Nat):Int)] 39]) rfl (by kernel_rfl) (fun c a d v w h=>by cases d <;> exact h) (Ax (M.drew _)) ?_;replace M:=M.drew (w.drawn+1);revert a;refine t_r (fun a F w M=>Bz (j:=0) I5.k Cl rfl (F.ev rfl) (F.ev rfl) (by first | omega | rfl) (by decide)) rfl<|?_
  refine wk ?_;refine t_r (fun a F w M=>C2 (F.ev rfl) (F.ev rfl) (by omega) (by omega)) rfl<|t_r (fun a F w M=>Bh H4.k ⟨_,by rw [Bo Cl.k]⟩ (F.ev rfl) (Jc (by omega) (by omega))) rfl<|t_r (fun a F w M=>Gi (F.ev rfl) (F.ev rfl) (Jc (by omega) (by omega))) rfl<|t_r (fun a F w M=>Bz (j:=1) I5.k Cl rfl (F.ev rfl) (F.ev rfl) (by first | omega | rfl) (by decide)) rfl<|?_
  refine wk ?_;refine t_r (fun a F w M=>C2 (F.ev rfl) (F.ev rfl) (by omega) (by omega)) rfl<|t_r (fun a F w M=>Bz (j:=2) I5.k Cl rfl (F.ev rfl) (F.ev rfl) (by first | omega | rfl) (by decide)) rfl<|?_
  refine wk ?_;refine t_r (fun a F w M=>C2 (F.ev rfl) (F.ev rfl) (by omega) (by omega)) rfl<|fun a F=>A2 ?_ rfl ?_
  ·skip
   refine B7 F M E8.k Ej (ps:=[(0,.string (str [])),(1,.string (str [97])),(2,.string (str [114,111,119])),(3,.string (str [116,119,111,32,119,111,114,100,115])),(4,.string (str [32,32])),(5,.string (str [126,33,45,44])),(6,.string (str [97,32,108,111,110,103,101,114,32,116,101,120,116,32,111,102,32,116,104,105,115,32,107,105,110,100])),(7,.string (str [57]))]) (cs:=[[.string (str [])],[.string (str [97])],[.string (str [114,111,119])],[.string (str [116,119,111,32,119,111,114,100,115])],[.string (str [32,32])],[.string (str [126,33,45,44])],[.string (str [97,32,108,111,110,103,101,114,32,116,101,120,116,32,111,102,32,116,104,105,115,32,107,105,110,100])],[.string (str [57])]]) (fl:=[.string (str []),.string (str [97]),.string (str [114,111,119]),.string (str [116,119,111,32,119,111,114,100,115]),.string (str [32,32]),.string (str [126,33,45,44]),.string (str [97,32,108,111,110,103,101,114,32,116,101,120,116,32,111,102,32,116,104,105,115,32,107,105,110,100]),.string (str [57])]) rfl rfl (by simp [Hn,Value.cells]) (by simp [ti9]) rfl (by simp [Value.oneCell']) (by decide) (by decide) rfl ?_;clear F M a;intro v4 w a M F;obtain ⟨av4,cv4,rfl,hlev4,hcmv4,hlv4⟩:=M.row_shape (k:=0) rfl;revert a;refine Ao<|?_
   replace M:=z_M M;replace M:=z_M M;refine eK (C':=Keep G [.row (.slice av4 8 (cv4)) 8 ([.string (str []),.string (str [97]),.string (str [114,111,119]),.string (str [116,119,111,32,119,111,114,100,115]),.string (str [32,32]),.string (str [126,33,45,44]),.string (str [97,32,108,111,110,103,101,114,32,116,101,120,116,32,111,102,32,116,104,105,115,32,107,105,110,100]),.string (str [57])]) 9 1,.blk b1 [.int .u8 ((q.a:Nat):Int),.int .u8 ((q.b:Nat):Int),.int .u8 ((q.c:Nat):Int),.int .u8 ((q.d:Nat):Int)] 39]) (Ax M) (fun w h=>h.mono (Gle.refl _) (by simp))<|?_
   have En5:Els Cf 1 G [.string (str []),.string (str [97]),.string (str [114,111,119]),.string (str [116,119,111,32,119,111,114,100,115]),.string (str [32,32]),.string (str [126,33,45,44]),.string (str [97,32,108,111,110,103,101,114,32,116,101,120,116,32,111,102,32,116,104,105,115,32,107,105,110,100]),.string (str [57])] TXT:=Ia TXT (by intro y hy;simp only [TXT,List.mem_cons,List.not_mem_nil,or_false] at hy;rcases hy with rfl | rfl | rfl | rfl | rfl | rfl | rfl | rfl <;> decide);obtain ⟨be6,_,Ie6,hme6,_,Ae6,⟨rfl,hsle6⟩⟩:=M.atRowK (k:=0) rfl (by decide) En5 (Lr:=[.row (.slice av4 8 (cv4)) 8 ([.string (str []),.string (str [97]),.string (str [114,111,119]),.string (str [116,119,111,32,119,111,114,100,115]),.string (str [32,32]),.string (str [126,33,45,44]),.string (str [97,32,108,111,110,103,101,114,32,116,101,120,116,32,111,102,32,116,104,105,115,32,107,105,110,100]),.string (str [57])]) 9 1,.blk b1 [.int .u8 ((q.a:Nat):Int),.int .u8 ((q.b:Nat):Int),.int .u8 ((q.c:Nat):Int),.int .u8 ((q.d:Nat):Int)] 39]) (k':=0) rfl (Amo (i:=q.c % 8) (by omega));refine wk ?_;refine t_r (fun a F w M=>Cs (agf Ej rfl) (F.ev rfl) (Acz (Ae6 w M) 0 (by omega) rfl)) rfl<|t_r (fun a F w M=>Ah (cs:=[.int .u64 (1+(((q.a:Nat):Int) % 60)),.int .u8 (((q.b:Nat):Int) % 3),.string (str ((Oi (q.c % 8)))),.slice none 0 0]) (ps:=[(0,.int .u64 (1+(((q.a:Nat):Int) % 60))),(1,.int .u8 (((q.b:Nat):Int) % 3)),(2,.string (str ((Oi (q.c % 8)))))]) Bi.k rfl Bi (F.evp rfl) rfl) rfl<|fun a F=>A2 ?_ rfl Bl
   revert a;refine B1 M Bi rfl rfl<|?_;clear M;intro b7 w M
   refine Ao<|?_
   replace M:=z_M M;refine eQ (Ax M)<|fun a F=>A2 ?_ rfl Bl
   refine Be F M Bi 0 ?_;clear F M a;intro w a M F;replace M:=z_M M;revert a;refine Ao<|?_
   replace M:=z_M M;refine eQ (Ax M)<|?_
   refine Ki<|?_
   replace M:=z_M M;intro a F;rw [show (1+(((q.a:Nat):Int) % 60):Int)=((1+q.a % 60:Nat):Int) by omega,show (((q.b:Nat):Int) % 3:Int)=((q.b % 3:Nat):Int) by omega] at M
   exact ⟨b7,F.to ⟨rfl,rfl,rfl,trivial⟩,M.weaken (cC (cN (cC (.cons_cons _ (sR _)))))⟩
  refine A2 ?_ rfl ?_
  ·skip
   revert a;refine B1 M Bi rfl rfl<|?_;clear M;intro b9 w M
   refine Ao<|?_
   replace M:=z_M M;refine eK (C':=Keep G [.blk b1 [.int .u8 ((q.a:Nat):Int),.int .u8 ((q.b:Nat):Int),.int .u8 ((q.c:Nat):Int),.int .u8 ((q.d:Nat):Int)] 39]) (Ax M) (fun w h=>h.mono (Gle.refl _) (by simp))<|fun a F=>A2 ?_ rfl Bl
   refine B7 F M E8.k Ej (ps:=[(0,.string (str [])),(1,.string (str [97])),(2,.string (str [114,111,119])),(3,.string (str [116,119,111,32,119,111,114,100,115])),(4,.string (str [32,32])),(5,.string (str [126,33,45,44])),(6,.string (str [97,32,108,111,110,103,101,114,32,116,101,120,116,32,111,102,32,116,104,105,115,32,107,105,110,100])),(7,.string (str [57]))]) (cs:=[[.string (str [])],[.string (str [97])],[.string (str [114,111,119])],[.string (str [116,119,111,32,119,111,114,100,115])],[.string (str [32,32])],[.string (str [126,33,45,44])],[.string (str [97,32,108,111,110,103,101,114,32,116,101,120,116,32,111,102,32,116,104,105,115,32,107,105,110,100])],[.string (str [57])]]) (fl:=[.string (str []),.string (str [97]),.string (str [114,111,119]),.string (str [116,119,111,32,119,111,114,100,115]),.string (str [32,32]),.string (str [126,33,45,44]),.string (str [97,32,108,111,110,103,101,114,32,116,101,120,116,32,111,102,32,116,104,105,115,32,107,105,110,100]),.string (str [57])]) rfl rfl (by simp [Hn,Value.cells]) (by simp [ti9]) rfl (by simp [Value.oneCell']) (by decide) (by decide) rfl ?_;clear F M a;intro v11 w a M F;obtain ⟨av11,cv11,rfl,hlev11,hcmv11,hlv11⟩:=M.row_shape (k:=0) rfl;revert a;refine Ao<|?_
   replace M:=z_M M;replace M:=z_M M;refine eK (C':=Keep G [.row (.slice av11 8 (cv11)) 8 ([.string (str []),.string (str [97]),.string (str [114,111,119]),.string (str [116,119,111,32,119,111,114,100,115]),.string (str [32,32]),.string (str [126,33,45,44]),.string (str [97,32,108,111,110,103,101,114,32,116,101,120,116,32,111,102,32,116,104,105,115,32,107,105,110,100]),.string (str [57])]) 9 1,.blk b1 [.int .u8 ((q.a:Nat):Int),.int .u8 ((q.b:Nat):Int),.int .u8 ((q.c:Nat):Int),.int .u8 ((q.d:Nat):Int)] 39]) (Ax M) (fun w h=>h.mono (Gle.refl _) (by simp))<|?_
   have En12:Els Cf 1 G [.string (str []),.string (str [97]),.string (str [114,111,119]),.string (str [116,119,111,32,119,111,114,100,115]),.string (str [32,32]),.string (str [126,33,45,44]),.string (str [97,32,108,111,110,103,101,114,32,116,101,120,116,32,111,102,32,116,104,105,115,32,107,105,110,100]),.string (str [57])] TXT:=Ia TXT (by intro y hy;simp only [TXT,List.mem_cons,List.not_mem_nil,or_false] at hy;rcases hy with rfl | rfl | rfl | rfl | rfl | rfl | rfl | rfl <;> decide);obtain ⟨be13,_,Ie13,hme13,_,Ae13,⟨rfl,hsle13⟩⟩:=M.atRowK (k:=0) rfl (by decide) En12 (Lr:=[.row (.slice av11 8 (cv11)) 8 ([.string (str []),.string (str [97]),.string (str [114,111,119]),.string (str [116,119,111,32,119,111,114,100,115]),.string (str [32,32]),.string (str [126,33,45,44]),.string (str [97,32,108,111,110,103,101,114,32,116,101,120,116,32,111,102,32,116,104,105,115,32,107,105,110,100]),.string (str [57])]) 9 1,.blk b1 [.int .u8 ((q.a:Nat):Int),.int .u8 ((q.b:Nat):Int),.int .u8 ((q.c:Nat):Int),.int .u8 ((q.d:Nat):Int)] 39]) (k':=0) rfl (Amo (i:=q.c % 8) (by omega));refine wk ?_;refine t_r (fun a F w M=>Cs (agf Ej rfl) (F.ev rfl) (Acz (Ae13 w M) 0 (by omega) rfl)) rfl<|t_r (fun a F w M=>Ah (cs:=[.int .u64 (1+(((q.a:Nat):Int) % 60)),.int .u8 (((q.b:Nat):Int) % 3),.string (str ((Oi (q.c % 8)))),.slice none 0 0]) (ps:=[(0,.int .u64 (1+(((q.a:Nat):Int) % 60))),(1,.int .u8 (((q.b:Nat):Int) % 3)),(2,.string (str ((Oi (q.c % 8)))))]) Bi.k rfl Bi (F.evp rfl) rfl) rfl<|fun a F=>A2 ?_ rfl Bl
   refine Be F M Bi 1 ?_;clear F M a;intro w a M F;replace M:=z_M M;revert a;refine Ao<|?_
   replace M:=z_M M;refine eQ (Ax M)<|?_
   refine Ki<|?_
   replace M:=M.perm (Af _ 1 _ rfl);replace M:=z_M M;intro a F;rw [show (1+(((q.a:Nat):Int) % 60):Int)=((1+q.a % 60:Nat):Int) by omega,show (((q.b:Nat):Int) % 3:Int)=((q.b % 3:Nat):Int) by omega] at M
   exact ⟨b9,F.to ⟨rfl,rfl,rfl,trivial⟩,M.weaken (cC (cN (cC (.cons_cons _ (sR _)))))⟩
  exact Bl
 clear F M;rintro a w ⟨b3i,F,M⟩;revert a;refine wk ?_;have M:=M.nilrow 9 1;replace M:=z_M M;intro a F;refine Ba (fun m a' w'=>∃ (i:Nat),∃ (ar:Option Addr),∃ (nr:Nat),∃ (cr:Nat),∃ (csr:List Value),m=3 - i∧∃ G14,Gle G G14∧Fits 54 a' [(1,.pointer (some ⟨b1,0,none⟩)),(2,.pointer (some ⟨b2,0,none⟩)),(3,.pointer (some ⟨b3i,0,none⟩)),(4,.int .i64 ((i:Nat):Int))]∧Mem w0 G14 (.row (.slice ar nr cr) (nr) (csr) 9 1::.blk b3i [.int .u64 ((1+q.a % 60:Nat):Int),.int .u8 ((q.b % 3:Nat):Int),.string (str (Oi (q.c % 8))),.slice ar nr cr] 26::.blk b2 [.int .u64 0,.int .u8 0,.string (str []),.slice none 0 0] 26::.blk b1 [.int .u8 ((q.a:Nat):Int),.int .u8 ((q.b:Nat):Int),.int .u8 ((q.c:Nat):Int),.int .u8 ((q.d:Nat):Int)] 39::L) w'∧(i≤3)∧(Els Cf 1 G14 csr (mkU q.d i))∧(nr=(mkU q.d i).length)) _ ⟨0,none,0,0,[],rfl,G,Gle.refl _,F.to ⟨rfl,rfl,rfl,rfl,trivial⟩,M,by omega,Els.nil,rfl⟩ ?_;clear F M;rintro m a w ⟨i,ar,nr,cr,csr,rfl,G14,hG14,F,M,hi,Er,hnr⟩;revert a;refine Cj<|Cj<|?_
 have hml:=Y2 q.d i;refine wk ?_;refine qD rfl ?_ ?_
 ·intro h15;refine wk ?_;refine Am (fun a F=>Bz (j:=3) I5.k Cl rfl (F.ev rfl) (F.ev rfl) (by first | omega | rfl) (by decide)) rfl<|?_
  refine wk ?_;refine Am (fun a F=>Aoh (n:=q.d) (m:=i) (F.ev rfl) (F.ev rfl) (by omega) (by omega) (by show i≤8;omega)) rfl<|Am (fun a F=>Aoj (F.ev rfl) (F.ev rfl) (Nat.lt_of_le_of_lt (Nat.div_le_self _ _) hq.2.2.2)) rfl<|?_
  refine wk ?_;refine qD rfl ?_ ?_
  ·intro h16;intro a F;refine Ic (.run 0 (.run 3 (.run 4 (.run 5 (.run 6 (.run 7 (.run 8 (.run 9 (.act 1 (.act 2 (.run 10 (.run 11 (.act 12 (.act 13 (.run 14 (.act 15 .fin .no)) .no) .no))) .no) (.act 2 (.run 10 (.run 11 (.act 1 (.act 12 (.act 13 (.run 14 (.act 15 .fin .no)) .no) .no) (.act 12 (.act 1 (.act 13 (.run 14 (.act 15 .fin .no)) .no) .no) .no)))) .no)))))))))) (Keep G14 [.blk b1 [.int .u8 ((q.a:Nat):Int),.int .u8 ((q.b:Nat):Int),.int .u8 ((q.c:Nat):Int),.int .u8 ((q.d:Nat):Int)] 39]) rfl (by kernel_rfl) (fun c a d v w h=>by cases d <;> exact h) (Ax (M.drew _)) ?_;replace M:=M.drew (w.drawn+1);revert a;refine wk ?_;refine t_r (fun a F w M=>Bz (j:=3) I5.k Cl rfl (F.ev rfl) (F.ev rfl) (by first | omega | rfl) (by decide)) rfl<|?_
   refine wk ?_;refine t_r (fun a F w M=>Kj (F.ev rfl) (F.ev rfl) (by omega) (by omega) (Rl (by omega) (by omega))) rfl<|t_r (fun a F w M=>Bh Cq.k ⟨_,by rw [Bo Cl.k]⟩ (F.ev rfl) (Br (by omega) (by omega))) rfl<|?_
   refine wk ?_;refine t_r (fun a F w M=>C2 (F.ev rfl) (F.ev rfl) (by omega) (by omega)) rfl<|fun a F=>A2 ?_ rfl ?_
   ·skip
    revert a;refine Nr E8 M 1 rfl rfl rfl rfl<|Ao<|?_
    change Mem w0 G14 (.row (.slice ar nr cr) (nr) (csr) 9 1::.blk b3i [.int .u64 ((1+q.a % 60:Nat):Int),.int .u8 ((q.b % 3:Nat):Int),.string (str (Oi (q.c % 8))),.slice ar nr cr] 26::.blk b2 [.int .u64 0,.int .u8 0,.string (str []),.slice none 0 0] 26::.blk b1 [.int .u8 ((q.a:Nat):Int),.int .u8 ((q.b:Nat):Int),.int .u8 ((q.c:Nat):Int),.int .u8 ((q.d:Nat):Int)] 39::L) _ at M;refine eQ (Ax M)<|fun a F=>A2 ?_ rfl Bl
    refine B7 F M E8.k Ej (ps:=[(0,.string (str [97])),(1,.string (str [98,50])),(2,.string (str [107,101,121]))]) (cs:=[[.string (str [97])],[.string (str [98,50])],[.string (str [107,101,121])]]) (fl:=[.string (str [97]),.string (str [98,50]),.string (str [107,101,121])]) rfl rfl (by simp [Hn,Value.cells]) (by simp [ti9]) rfl (by simp [Value.oneCell']) (by decide) (by decide) rfl ?_;clear F M a;intro v17 w a M F;obtain ⟨av17,cv17,rfl,hlev17,hcmv17,hlv17⟩:=M.row_shape (k:=0) rfl;revert a;refine Ao<|?_
    replace M:=z_M M;replace M:=z_M M;refine eK (C':=Keep G14 [.row (.slice av17 3 (cv17)) 3 ([.string (str [97]),.string (str [98,50]),.string (str [107,101,121])]) 9 1,.blk b1 [.int .u8 ((q.a:Nat):Int),.int .u8 ((q.b:Nat):Int),.int .u8 ((q.c:Nat):Int),.int .u8 ((q.d:Nat):Int)] 39]) (Ax M) (fun w h=>h.mono (Gle.refl _) (by simp))<|?_
    have En18:Els Cf 1 G14 [.string (str [97]),.string (str [98,50]),.string (str [107,101,121])] MKS:=Ia MKS (by intro y hy;simp only [MKS,List.mem_cons,List.not_mem_nil,or_false] at hy;rcases hy with rfl | rfl | rfl <;> decide);obtain ⟨be19,_,Ie19,hme19,_,Ae19,⟨rfl,hsle19⟩⟩:=M.atRowK (k:=0) rfl (by decide) En18 (Lr:=[.row (.slice av17 3 (cv17)) 3 ([.string (str [97]),.string (str [98,50]),.string (str [107,101,121])]) 9 1,.blk b1 [.int .u8 ((q.a:Nat):Int),.int .u8 ((q.b:Nat):Int),.int .u8 ((q.c:Nat):Int),.int .u8 ((q.d:Nat):Int)] 39]) (k':=0) rfl (mk_at (i:=(i+q.d / 8) % 3) (Nat.mod_lt _ (by decide)));refine wk ?_;refine t_r (fun a F w M=>Cs (agf Ej rfl) (F.ev rfl) (Acz (Ae19 w M) 0 (by omega) rfl)) rfl<|fun a F=>A2 ?_ rfl Bl
    refine Ar F M E8.k Ej rfl rfl (cs:=[.string (str ((mkT ((i+q.d / 8) % 3))))]) rfl rfl (by simp [Value.oneCell']) (by decide) rfl ?_;clear F M a;intro v20 w a M F;obtain ⟨av20,cv20,rfl,hlev20,hcmv20,hlv20⟩:=M.row_shape (k:=0) rfl;revert a;refine Ao<|?_
    replace M:=z_M M;refine eQ (Ax M)<|?_
    have hmn:=Y3 (i:=(i+q.d / 8) % 3) (Nat.mod_lt _ (by decide));have Eb:Els Cf 1 G14 [.string (str ((mkT ((i+q.d / 8) % 3))))] [mkT ((i+q.d / 8) % 3)]:=⟨[.string (str (mkT ((i+q.d / 8) % 3)))],[],rfl,rfl,⟨rfl,by have:=hmn.1.2;omega⟩,rfl⟩;intro a F;refine A2 ?_ rfl Bl;refine A3 F M (k:=2) (k2:=0) rfl rfl E8.k Ej rfl rfl (by decide) rfl rfl (by show _ * 16≤_;(try simp only [List.length_drop,List.length_take,List.length_append,List.length_cons,List.length_nil]);omega) (by (try simp only [List.length_drop,List.length_take,List.length_append,List.length_cons,List.length_nil]);omega) rfl ?_;clear F M a;intro v21 w a M F;have Ev21:=Els.append Er Eb;obtain ⟨av21,cv21,rfl,hlev21,hcmv21,hlv21⟩:=M.row_shape (k:=2) rfl;revert a;refine Ao<|?_
    replace M:=z_M M;refine eQ (Ax M)<|?_
    refine wk ?_;refine fun a F=>A2 ?_ rfl Bl;revert a;refine Dv E8 M 3 rfl rfl rfl rfl rfl rfl<|?_;clear M;intro w M
    refine Ao<|?_
    replace M:=z_M M;refine eQ (Ax M)<|?_
    refine wk ?_;intro a F
    exact ⟨_,by omega,i+1,(av21),(nr+1),(cv21),csr++([.string (str ((mkT ((i+q.d / 8) % 3))))]),rfl,G14,hG14,F.to ⟨rfl,rfl,rfl,rfl,trivial⟩,(M.weaken (cN (.cons _ (cC (.cons_cons _ (cC (.cons_cons _ (sR _)))))))),by omega,by rw [Jz (by omega)];exact Ev21,by rw [Jz (by omega),List.length_append,← hnr];rfl⟩
   refine A2 ?_ rfl ?_
   ·skip
    refine B7 F M E8.k Ej (ps:=[(0,.string (str [97])),(1,.string (str [98,50])),(2,.string (str [107,101,121]))]) (cs:=[[.string (str [97])],[.string (str [98,50])],[.string (str [107,101,121])]]) (fl:=[.string (str [97]),.string (str [98,50]),.string (str [107,101,121])]) rfl rfl (by simp [Hn,Value.cells]) (by simp [ti9]) rfl (by simp [Value.oneCell']) (by decide) (by decide) rfl ?_;clear F M a;intro v22 w a M F;obtain ⟨av22,cv22,rfl,hlev22,hcmv22,hlv22⟩:=M.row_shape (k:=0) rfl;revert a;refine Ao<|?_
    replace M:=z_M M;replace M:=z_M M;refine eK (C':=Keep G14 [.row (.slice av22 3 (cv22)) 3 ([.string (str [97]),.string (str [98,50]),.string (str [107,101,121])]) 9 1,.blk b1 [.int .u8 ((q.a:Nat):Int),.int .u8 ((q.b:Nat):Int),.int .u8 ((q.c:Nat):Int),.int .u8 ((q.d:Nat):Int)] 39]) (Ax M) (fun w h=>h.mono (Gle.refl _) (by simp))<|?_
    have En23:Els Cf 1 G14 [.string (str [97]),.string (str [98,50]),.string (str [107,101,121])] MKS:=Ia MKS (by intro y hy;simp only [MKS,List.mem_cons,List.not_mem_nil,or_false] at hy;rcases hy with rfl | rfl | rfl <;> decide);obtain ⟨be24,_,Ie24,hme24,_,Ae24,⟨rfl,hsle24⟩⟩:=M.atRowK (k:=0) rfl (by decide) En23 (Lr:=[.row (.slice av22 3 (cv22)) 3 ([.string (str [97]),.string (str [98,50]),.string (str [107,101,121])]) 9 1,.blk b1 [.int .u8 ((q.a:Nat):Int),.int .u8 ((q.b:Nat):Int),.int .u8 ((q.c:Nat):Int),.int .u8 ((q.d:Nat):Int)] 39]) (k':=0) rfl (mk_at (i:=(i+q.d / 8) % 3) (Nat.mod_lt _ (by decide)));refine wk ?_;refine t_r (fun a F w M=>Cs (agf Ej rfl) (F.ev rfl) (Acz (Ae24 w M) 0 (by omega) rfl)) rfl<|fun a F=>A2 ?_ rfl ?_
    ·skip
     revert a;refine Nr E8 M 2 rfl rfl rfl rfl<|Ao<|?_
     change Mem w0 G14 (.row (.slice av22 3 (cv22)) 3 ([.string (str [97]),.string (str [98,50]),.string (str [107,101,121])]) 9 1::.row (.slice ar nr cr) (nr) (csr) 9 1::.blk b3i [.int .u64 ((1+q.a % 60:Nat):Int),.int .u8 ((q.b % 3:Nat):Int),.string (str (Oi (q.c % 8))),.slice ar nr cr] 26::.blk b2 [.int .u64 0,.int .u8 0,.string (str []),.slice none 0 0] 26::.blk b1 [.int .u8 ((q.a:Nat):Int),.int .u8 ((q.b:Nat):Int),.int .u8 ((q.c:Nat):Int),.int .u8 ((q.d:Nat):Int)] 39::L) _ at M;refine eQ (Ax M)<|fun a F=>A2 ?_ rfl Bl
     refine Ar F M E8.k Ej rfl rfl (cs:=[.string (str ((mkT ((i+q.d / 8) % 3))))]) rfl rfl (by simp [Value.oneCell']) (by decide) rfl ?_;clear F M a;intro v25 w a M F;obtain ⟨av25,cv25,rfl,hlev25,hcmv25,hlv25⟩:=M.row_shape (k:=0) rfl;revert a;refine Ao<|?_
     replace M:=z_M M;refine eQ (Ax M)<|?_
     have hmn:=Y3 (i:=(i+q.d / 8) % 3) (Nat.mod_lt _ (by decide));have Eb:Els Cf 1 G14 [.string (str ((mkT ((i+q.d / 8) % 3))))] [mkT ((i+q.d / 8) % 3)]:=⟨[.string (str (mkT ((i+q.d / 8) % 3)))],[],rfl,rfl,⟨rfl,by have:=hmn.1.2;omega⟩,rfl⟩;intro a F;refine A2 ?_ rfl Bl;refine A3 F M (k:=2) (k2:=0) rfl rfl E8.k Ej rfl rfl (by decide) rfl rfl (by show _ * 16≤_;(try simp only [List.length_drop,List.length_take,List.length_append,List.length_cons,List.length_nil]);omega) (by (try simp only [List.length_drop,List.length_take,List.length_append,List.length_cons,List.length_nil]);omega) rfl ?_;clear F M a;intro v26 w a M F;have Ev26:=Els.append Er Eb;obtain ⟨av26,cv26,rfl,hlev26,hcmv26,hlv26⟩:=M.row_shape (k:=2) rfl;revert a;refine Ao<|?_
     replace M:=z_M M;refine eQ (Ax M)<|?_
     refine wk ?_;refine fun a F=>A2 ?_ rfl Bl;revert a;refine Dv E8 M 3 rfl rfl rfl rfl rfl rfl<|?_;clear M;intro w M
     refine Ao<|?_
     replace M:=z_M M;refine eQ (Ax M)<|?_
     refine wk ?_;intro a F
     exact ⟨_,by omega,i+1,(av26),(nr+1),(cv26),csr++([.string (str ((mkT ((i+q.d / 8) % 3))))]),rfl,G14,hG14,F.to ⟨rfl,rfl,rfl,rfl,trivial⟩,(M.weaken (cN (.cons _ (cC (.cons_cons _ (cC (.cons_cons _ (sR _)))))))),by omega,by rw [Jz (by omega)];exact Ev26,by rw [Jz (by omega),List.length_append,← hnr];rfl⟩
    refine A2 ?_ rfl ?_
    ·skip
     refine Ar F M E8.k Ej rfl rfl (cs:=[.string (str ((mkT ((i+q.d / 8) % 3))))]) rfl rfl (by simp [Value.oneCell']) (by decide) rfl ?_;clear F M a;intro v27 w a M F;obtain ⟨av27,cv27,rfl,hlev27,hcmv27,hlv27⟩:=M.row_shape (k:=0) rfl;revert a;refine Ao<|?_
     replace M:=z_M M;refine eQ (Ax M)<|fun a F=>A2 ?_ rfl Bl
     revert a;refine Nr E8 M 3 rfl rfl rfl rfl<|Ao<|?_
     change Mem w0 G14 (.row (.slice av27 1 (cv27)) 1 ([.string (str ((mkT ((i+q.d / 8) % 3))))]) 9 1::.row (.slice av22 3 (cv22)) 3 ([.string (str [97]),.string (str [98,50]),.string (str [107,101,121])]) 9 1::.row (.slice ar nr cr) (nr) (csr) 9 1::.blk b3i [.int .u64 ((1+q.a % 60:Nat):Int),.int .u8 ((q.b % 3:Nat):Int),.string (str (Oi (q.c % 8))),.slice ar nr cr] 26::.blk b2 [.int .u64 0,.int .u8 0,.string (str []),.slice none 0 0] 26::.blk b1 [.int .u8 ((q.a:Nat):Int),.int .u8 ((q.b:Nat):Int),.int .u8 ((q.c:Nat):Int),.int .u8 ((q.d:Nat):Int)] 39::L) _ at M;refine eQ (Ax M)<|?_
     have hmn:=Y3 (i:=(i+q.d / 8) % 3) (Nat.mod_lt _ (by decide));have Eb:Els Cf 1 G14 [.string (str ((mkT ((i+q.d / 8) % 3))))] [mkT ((i+q.d / 8) % 3)]:=⟨[.string (str (mkT ((i+q.d / 8) % 3)))],[],rfl,rfl,⟨rfl,by have:=hmn.1.2;omega⟩,rfl⟩;intro a F;refine A2 ?_ rfl Bl;refine A3 F M (k:=2) (k2:=0) rfl rfl E8.k Ej rfl rfl (by decide) rfl rfl (by show _ * 16≤_;(try simp only [List.length_drop,List.length_take,List.length_append,List.length_cons,List.length_nil]);omega) (by (try simp only [List.length_drop,List.length_take,List.length_append,List.length_cons,List.length_nil]);omega) rfl ?_;clear F M a;intro v28 w a M F;have Ev28:=Els.append Er Eb;obtain ⟨av28,cv28,rfl,hlev28,hcmv28,hlv28⟩:=M.row_shape (k:=2) rfl;revert a;refine Ao<|?_
     replace M:=z_M M;refine eQ (Ax M)<|?_
     refine wk ?_;refine fun a F=>A2 ?_ rfl Bl;revert a;refine Dv E8 M 3 rfl rfl rfl rfl rfl rfl<|?_;clear M;intro w M
     refine Ao<|?_
     replace M:=z_M M;refine eQ (Ax M)<|?_
     refine wk ?_;intro a F
     exact ⟨_,by omega,i+1,(av28),(nr+1),(cv28),csr++([.string (str ((mkT ((i+q.d / 8) % 3))))]),rfl,G14,hG14,F.to ⟨rfl,rfl,rfl,rfl,trivial⟩,(M.weaken (cN (.cons _ (cC (.cons_cons _ (cC (.cons_cons _ (sR _)))))))),by omega,by rw [Jz (by omega)];exact Ev28,by rw [Jz (by omega),List.length_append,← hnr];rfl⟩
    exact Bl
   exact Bl
  intro h29;refine wk ?_;intro a F
  exact ⟨_,by omega,i+1,(ar),(nr),(cr),csr,rfl,G14,hG14,F.to ⟨rfl,rfl,rfl,rfl,trivial⟩,M,by omega,by rw [Y1 (by omega)];exact Er,by rw [Y1 (by omega)];exact hnr⟩
 intro h30;refine wk ?_;refine Am (fun a F=>Bz (j:=3) I5.k Cl rfl (F.ev rfl) (F.ev rfl) (by first | omega | rfl) (by decide)) rfl<|?_
 refine wk ?_;refine qD rfl ?_ ?_
 ·intro h31;refine wk ?_;intro a F;refine B7 F M E8.k Ej (ps:=[(0,.string (str [97])),(1,.string (str [97]))]) (cs:=[[.string (str [97])],[.string (str [97])]]) (fl:=[.string (str [97]),.string (str [97])]) rfl rfl (by simp [Hn,Value.cells]) (by simp [ti9]) rfl (by simp [Value.oneCell']) (by decide) (by decide) rfl ?_;clear F M a;intro v32 w a M F;obtain ⟨av32,cv32,rfl,hlev32,hcmv32,hlv32⟩:=M.row_shape (k:=0) rfl;have Ea:Els Cf 1 G14 [.string (str [97]),.string (str [97])] [[97],[97]]:=⟨[.string (str [97])],_,rfl,rfl,⟨rfl,by decide⟩,⟨[.string (str [97])],_,rfl,rfl,⟨rfl,by decide⟩,rfl⟩⟩;refine A3 F M (k:=1) (k2:=0) rfl rfl E8.k Ej rfl rfl (by decide) rfl rfl (by show _ * 16≤_;(try simp only [List.length_drop,List.length_take,List.length_append,List.length_cons,List.length_nil]);omega) (by (try simp only [List.length_drop,List.length_take,List.length_append,List.length_cons,List.length_nil]);omega) rfl ?_;clear F M a;intro v33 w a M F;have Ev33:=Els.append Er Ea;obtain ⟨av33,cv33,rfl,hlev33,hcmv33,hlv33⟩:=M.row_shape (k:=1) rfl;revert a;refine wk ?_;refine Dv E8 M 2 rfl rfl rfl rfl rfl rfl<|?_;clear M;intro w M
  refine Cj<|?_
  have hi3:i=3:=by omega
  have hxm:(mkU q.d i)++(([[97],[97]]:List (List UInt8)))=(Fo q).marks:=by show _=mkA q.d;unfold mkA;rw [hi3,if_pos (by omega)]
  obtain ⟨hnz34,Gz34,az34,cz34,hGz34,hez34,Sz34,M⟩:=M.freeze_row Ay (k:=1) rfl Ev33 (by decide);clear hez34 az34 cz34;replace Er:=Er.mono Ay hGz34;replace Ea:=Ea.mono Ay hGz34;intro a F;rw [hnz34,hxm] at M;rw [hnz34,hxm] at Sz34;change Mem w0 Gz34 (.row (.slice av32 2 (cv32)) 2 ([.string (str [97]),.string (str [97])]) 9 1::.blk b3i [.int .u64 ((1+q.a % 60:Nat):Int),.int .u8 ((q.b % 3:Nat):Int),.string (str (Oi (q.c % 8))),.slice av33 ((Fo q).marks.length) (cv33)] 26::.blk b2 [.int .u64 0,.int .u8 0,.string (str []),.slice none 0 0] 26::.blk b1 [.int .u8 ((q.a:Nat):Int),.int .u8 ((q.b:Nat):Int),.int .u8 ((q.c:Nat):Int),.int .u8 ((q.d:Nat):Int)] 39::L) _ at M;revert a;refine J3<|Aeg Bi M 1 rfl rfl rfl rfl<|?_
  intro a F;refine Be F M Bi 2 ?_;clear F M a;intro w a M F;replace M:=z_M M;revert a;refine wk ?_;refine fun a F=>F6 F M (k:=2) rfl rfl Bi rfl rfl rfl ?_
  exact ⟨_,(hG14.trans hGz34),M.weaken dS4,av33,cv33,rfl,Sz34⟩
 intro h35;refine F3<|Cj<|?_
 have hi3:i=3:=by omega
 have hxm:mkU q.d i=(Fo q).marks:=by show _=mkA q.d;unfold mkA;rw [hi3,if_neg (by omega)]
 obtain ⟨hnz36,Gz36,az36,cz36,hGz36,hez36,Sz36,M⟩:=M.freeze_row Ay (k:=0) rfl Er (by decide);clear hez36 az36 cz36;intro a F;rw [hnz36,hxm] at M;rw [hnz36,hxm] at Sz36;change Mem w0 Gz36 (.blk b3i [.int .u64 ((1+q.a % 60:Nat):Int),.int .u8 ((q.b % 3:Nat):Int),.string (str (Oi (q.c % 8))),.slice ar ((Fo q).marks.length) (cr)] 26::.blk b2 [.int .u64 0,.int .u8 0,.string (str []),.slice none 0 0] 26::.blk b1 [.int .u8 ((q.a:Nat):Int),.int .u8 ((q.b:Nat):Int),.int .u8 ((q.c:Nat):Int),.int .u8 ((q.d:Nat):Int)] 39::L) _ at M;revert a;refine J3<|Aeg Bi M 0 rfl rfl rfl rfl<|?_
 intro a F;refine Be F M Bi 1 ?_;clear F M a;intro w a M F;replace M:=z_M M;revert a;refine wk ?_;refine fun a F=>F6 F M (k:=1) rfl rfl Bi rfl rfl rfl ?_
 exact ⟨_,(hG14.trans hGz36),M.weaken dS3,ar,cr,rfl,Sz36⟩
theorem Yv (q:Q4):((Fo q).key < 18446744073709551616∧(Fo q).typ < 256∧(Fo q).text.length≤9223372036854775807):=by
 have h1:=Aoz q;refine ⟨?_,?_,?_⟩
 ·show 1+q.a % 60 < _;omega
 ·show q.b % 3 < _;omega
 have:=h1.2.2.1.1;omega
end Go.Proofs.YtmmhmcplegpenaaGreatDoor
