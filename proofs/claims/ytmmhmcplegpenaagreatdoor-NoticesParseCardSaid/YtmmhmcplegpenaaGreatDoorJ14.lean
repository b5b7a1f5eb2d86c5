/- The walks, part LZ. · The walks, part LAA. · Notices: text and parsing are inverse. · The types and functions that the last walks name. · The walks, part LAB. · Notices: what the reference's Read and Parse read. · The walks, part LAC. · Notices: the state of the reference's Parse. -/
import Derived.Test.YtmmhmcplegpenaaGreatDoorJ13
import Derived.Test.YtmmhmcplegpenaaGreatDoorJ12
import Derived.Test.YtmmhmcplegpenaaGreatDoorJ10
namespace Go.Proofs.YtmmhmcplegpenaaGreatDoor
open Go Go.Y Go.Proofs
variable {w0 w:World} {G:A4} {L:List Res}
set_option linter.unusedSimpArgs false
set_option linter.unusedVariables false
theorem Adw (M:Mem w0 G L w) {ns:List NotD} {R:List EntD × Nat × Int} (hR:P9 c3 l3 ns=R) {ka la an:Option Addr} {kc lc cn:Nat} (SC:Ay Du 9 G (.slice ka c3.kinds.length kc) c3.kinds) (SL:Ay C2 6 G (.slice la l3.length lc) l3) (SN:Ay Fb 5 G (.slice an ns.length cn) ns) (hNX:∀ x∈ns,x.items.length≤900000) :
  Calls Tryz.prog 25 #[.agg #[.slice ka c3.kinds.length kc,.int .i64 1],.agg #[.slice la l3.length lc],.slice an ns.length cn] w (Ij w0 G (fun G' L' v=>∃ (a:Option Addr) (cs:List Value) (Ls:List Res),v=.tuple #[.agg #[.slice a (R).1.length (R).1.length],.int .i64 (((R).2.1:Nat):Int),.int .i64 R.2.2]∧L' = (Cw a (R).1.length cs::(Ls++L))∧Els (Nx Ls) 6 G' cs (R).1)):=by
 rw [← hR]
 exact Agk (c:=c3) M SC SL SN hNX
theorem hnl {k:Nat} {a b t:Int} {l:List ItemD} (h:k < 256∧(0≤a∧a≤9)∧(0≤b∧b≤9)∧(0≤t∧t≤9)∧l.length≤9):(⟨k,a,b,t,l⟩:NotD).kind < 256∧A2 .i64 (⟨k,a,b,t,l⟩:NotD).at_∧A2 .i64 (⟨k,a,b,t,l⟩:NotD).count∧A2 .i64 (⟨k,a,b,t,l⟩:NotD).to∧(⟨k,a,b,t,l⟩:NotD).items.length≤9223372036854775807 :=
 ⟨h.1,Cr (by show _≤a;omega) (by show a≤_;omega),Cr (by show _≤b;omega) (by show b≤_;omega),Cr (by show _≤t;omega) (by show t≤_;omega),(by have:=h.2.2.2.2;show l.length≤_;omega)⟩
theorem rdn {G:A4} {k:Nat} {a b t:Int} {l:List ItemD} {ad:Option Addr} {c n:Nat} (h:k < 256∧(0≤a∧a≤9)∧(0≤b∧b≤9)∧(0≤t∧t≤9)∧l.length≤9) (hn:n=l.length) (S:Ay Cn 4 G (.slice ad n c) l) :
  Fb G [.int .u8 ((k:Nat):Int),.int .i64 a,.int .i64 b,.int .i64 t,.slice ad n c] ⟨k,a,b,t,l⟩:=by
 subst hn
 obtain ⟨h1,h2,h3,h4,h5⟩:=hnl h
 exact ⟨ad,c,rfl,h1,h2,h3,h4,h5,S⟩
theorem Ps (M:Mem w0 G L w) {k:Nat} {a b t z:Int} (h:k < 256∧(0≤a∧a≤9)∧(0≤b∧b≤9)∧(0≤t∧t≤9)∧([]:List ItemD).length≤9) (hz:E2 ⟨k,a,b,t,[]⟩=z) :
  Calls Tryz.prog 37 #[.agg #[.int .u8 ((k:Nat):Int),.int .i64 a,.int .i64 b,.int .i64 t,.slice none 0 0]] w (Cl w0 G L fun v=>v=.int .i64 z):=by
 rw [← hz]
 exact Hj (x:=⟨k,a,b,t,[]⟩) M (hnl h) Ay.nil
theorem ln_cell {i n:Nat} (h:lnN[i]?=some n):(#[.int .i64 2,.int .i64 1,.int .i64 2]:Array Value)[i]?=some (.int .i64 ((n:Nat):Int)):=by
 rcases i with _ | _ | _ | i <;> simp only [lnN,List.getElem?_cons_zero,List.getElem?_cons_succ,List.getElem?_nil,Option.some.injEq,reduceCtorEq] at h
 ·subst h;rfl
 ·subst h;rfl
 ·subst h;rfl
theorem K3 (M:Mem w0 G L w) (HG:Globs 0 1 2 3 G):Calls Tryz.prog 22 #[] w (Ret w0 G L fun G' v=>v=.bool true):=by
 refine Az (vs:=[]) Tryz.func22 rfl (n:=148) rfl rfl<|Ab<|Ac<|Af rfl<|Aa<|Ad<|Ab<|Ac<|Hq ent36 rfl rfl (Aav M)<|?_;clear M;rintro _ Gq1 w hGq1 M ⟨kaq1,kcq1,laq1,lcq1,rfl,SCq1,SLq1⟩
 replace HG:=HG.mono hGq1
 refine Ae rfl<|Ch rfl rfl<|Ch rfl rfl<|Cz M Dv rfl rfl<|?_;clear M;intro b2 w M
 refine Cz M Bb rfl rfl<|?_;clear M;intro b4 w M
 intro a F
 refine Ar F M Dv (k:=1) rfl rfl rfl (us:=[.slice kaq1 c3.kinds.length kcq1,.int .i64 1]) rfl rfl (by simp [Value.oneCell']) (by simp) ?_;clear F M a;intro w a M F
 change Mem w0 Gq1 (_::.blk b2 [.slice kaq1 c3.kinds.length kcq1,.int .i64 1] 51::L) _ at M
 refine Ar F M Bb (k:=0) rfl rfl rfl (us:=[.slice laq1 l3.length lcq1]) rfl rfl (by simp [Value.oneCell']) (by simp) ?_;clear F M a;intro w a M F
 change Mem w0 Gq1 (.blk b4 [.slice laq1 l3.length lcq1] 54::.blk b2 [.slice kaq1 c3.kinds.length kcq1,.int .i64 1] 51::L) _ at M
 revert a
 refine Aa<|Ad<|Ab<|Ac<|Ap (fun a F=>Ba (cs:=[.int .u8 2,.int .i64 0,.int .i64 1,.int .i64 0,.slice none 0 0]) (ps:=[(0,.int .u8 2),(2,.int .i64 1)]) Bf.k rfl Bf (F.evp rfl) rfl) rfl<|Ap (fun a F=>Ba (cs:=[.int .u64 9,.int .u8 0,.string (str ([]:List UInt8)),.slice none 0 0]) (ps:=[(0,.int .u64 9)]) A1.k rfl A1 (F.evp rfl) rfl) rfl<|fun a F=>?_
 refine Ci F M B5.k A1 rfl rfl (cs:=[.int .u64 9,.int .u8 0,.string (str ([]:List UInt8)),.slice none 0 0]) rfl rfl (by simp [Value.oneCell']) (by decide) rfl ?_;clear F M a;intro v6 w a M F
 obtain ⟨av6,cv6,rfl,hlev6,hcmv6,hlv6⟩:=M.row_shape (k:=0) rfl
 have Ei7:Els Cn 4 Gq1 [.int .u64 9,.int .u8 0,.string (str ([]:List UInt8)),.slice none 0 0] [it3 9]:=⟨[.int .u64 9,.int .u8 0,.string (str []),.slice none 0 0],_,rfl,rfl,⟨none,0,rfl,by decide,by decide,by decide,by decide,Ay.nil⟩,rfl⟩
 obtain ⟨hnz8,Gz8,az8,cz8,hGz8,hez8,Sz8,M⟩:=M.freeze_row A0 (k:=0) rfl Ei7 (by decide)
 clear hez8 az8 cz8
 replace HG:=HG.mono hGz8
 replace SCq1:=SCq1.mono Bg hGz8
 replace SLq1:=SLq1.mono Ax hGz8
 revert a
 refine Ap (fun a F=>Ba (cs:=[.int .u8 1,.int .i64 2,.int .i64 0,.int .i64 0,.slice av6 1 (cv6)]) (ps:=[(0,.int .u8 1),(1,.int .i64 2),(4,.slice av6 1 (cv6))]) Bf.k rfl Bf (F.evp rfl) rfl) rfl<|Ap (fun a F=>Ba (cs:=[.int .u8 3,.int .i64 0,.int .i64 1,.int .i64 2,.slice none 0 0]) (ps:=[(0,.int .u8 3),(2,.int .i64 1),(3,.int .i64 2)]) Bf.k rfl Bf (F.evp rfl) rfl) rfl<|fun a F=>?_
 refine Ef F M E5.k Bf (ps:=[(0,.agg #[.int .u8 2,.int .i64 0,.int .i64 1,.int .i64 0,.slice none 0 0]),(1,.agg #[.int .u8 1,.int .i64 2,.int .i64 0,.int .i64 0,.slice av6 1 (cv6)]),(2,.agg #[.int .u8 3,.int .i64 0,.int .i64 1,.int .i64 2,.slice none 0 0])]) (cs:=[[.int .u8 2,.int .i64 0,.int .i64 1,.int .i64 0,.slice none 0 0],[.int .u8 1,.int .i64 2,.int .i64 0,.int .i64 0,.slice av6 1 (cv6)],[.int .u8 3,.int .i64 0,.int .i64 1,.int .i64 2,.slice none 0 0]]) (fl:=[.int .u8 2,.int .i64 0,.int .i64 1,.int .i64 0,.slice none 0 0,.int .u8 1,.int .i64 2,.int .i64 0,.int .i64 0,.slice av6 1 (cv6),.int .u8 3,.int .i64 0,.int .i64 1,.int .i64 2,.slice none 0 0]) rfl rfl (by simp [Lh,Value.cells]) (by simp [ti65]) rfl (by simp [Value.oneCell']) (by decide) (by decide) rfl ?_;clear F M a;intro v9 w a M F
 obtain ⟨av9,cv9,rfl,hlev9,hcmv9,hlv9⟩:=M.row_shape (k:=0) rfl
 have En10:Els Fb 5 Gz8 [.int .u8 2,.int .i64 0,.int .i64 1,.int .i64 0,.slice none 0 0,.int .u8 1,.int .i64 2,.int .i64 0,.int .i64 0,.slice av6 1 (cv6),.int .u8 3,.int .i64 0,.int .i64 1,.int .i64 2,.slice none 0 0] Qj:=⟨_,_,rfl,rfl,rdn (by decide) rfl Ay.nil,⟨_,_,rfl,rfl,rdn (by decide) rfl Sz8,⟨_,_,rfl,rfl,rdn (by decide) rfl Ay.nil,rfl⟩⟩⟩
 obtain ⟨hnz11,Gz11,az11,cz11,hGz11,hez11,Sz11,M⟩:=M.freeze_row Bm (k:=0) rfl En10 (by decide)
 clear hez11 az11 cz11
 replace HG:=HG.mono hGz11
 replace SCq1:=SCq1.mono Bg hGz11
 replace SLq1:=SLq1.mono Ax hGz11
 replace Sz8:=Sz8.mono A0 hGz11
 revert a
 refine Af rfl<|Aa<|Ad<|Ab<|Ac<|Ap (fun a F=>Am Dv rfl (F.ev rfl) (cs:=[.slice kaq1 c3.kinds.length kcq1,.int .i64 1]) rfl (M.cellsL (k:=1) rfl rfl)) rfl<|Ap (fun a F=>Am Bb rfl (F.ev rfl) (cs:=[.slice laq1 l3.length lcq1]) rfl (M.cellsL (k:=0) rfl rfl)) rfl<|Ae rfl<|fun a F=>?_
 refine Dz F ent25 rfl rfl (Adw (ns:=Qj) M all3 SCq1 SLq1 Sz11 (by decide)) ?_;clear F M a;rintro _ Gq12 _ w a hGq12 M ⟨aoq12,csq12,Loq12,rfl,rfl,Eoq12⟩ F
 replace HG:=HG.mono hGq12
 replace SCq1:=SCq1.mono Bg hGq12
 replace SLq1:=SLq1.mono Ax hGq12
 replace Sz8:=Sz8.mono A0 hGq12
 replace Sz11:=Sz11.mono Bm hGq12
 have M:=M.perm (Cm (Cw aoq12 (([en3 3,en3 9,en3 2]:List EntD),(3:Nat),(0:Int)).1.length csq12::Loq12) [.blk b4 [.slice laq1 l3.length lcq1] 54,.blk b2 [.slice kaq1 c3.kinds.length kcq1,.int .i64 1] 51] L)
 obtain ⟨Ggq12,hGgq12,M,Sgq12⟩:=Ou (M.perm (Cm [.blk b4 [.slice laq1 l3.length lcq1] 54,.blk b2 [.slice kaq1 c3.kinds.length kcq1,.int .i64 1] 51] (Cw aoq12 (([en3 3,en3 9,en3 2]:List EntD),(3:Nat),(0:Int)).1.length csq12::Loq12) L)) Eoq12
 replace HG:=HG.mono hGgq12
 replace SCq1:=SCq1.mono Bg hGgq12
 replace SLq1:=SLq1.mono Ax hGgq12
 replace Sz8:=Sz8.mono A0 hGgq12
 replace Sz11:=Sz11.mono Bm hGgq12
 change Mem w0 Ggq12 (.blk b4 [.slice laq1 l3.length lcq1] 54::.blk b2 [.slice kaq1 c3.kinds.length kcq1,.int .i64 1] 51::L) _ at M
 revert a
 refine Ae rfl<|Ch rfl rfl<|Ch rfl rfl<|Ch rfl rfl<|Cz M Bb rfl rfl<|?_;clear M;intro b13 w M
 intro a F
 refine Ar F M Bb (k:=0) rfl rfl rfl (us:=[.slice aoq12 ((([en3 3,en3 9,en3 2]:List EntD),(3:Nat),(0:Int)).1.length) ((([en3 3,en3 9,en3 2]:List EntD),(3:Nat),(0:Int)).1.length)]) rfl rfl (by simp [Value.oneCell']) (by simp) ?_;clear F M a;intro w a M F
 change Mem w0 Ggq12 (.blk b13 [.slice aoq12 ((([en3 3,en3 9,en3 2]:List EntD),(3:Nat),(0:Int)).1.length) ((([en3 3,en3 9,en3 2]:List EntD),(3:Nat),(0:Int)).1.length)] 54::.blk b4 [.slice laq1 l3.length lcq1] 54::.blk b2 [.slice kaq1 c3.kinds.length kcq1,.int .i64 1] 51::L) _ at M
 revert a
 refine Af rfl<|Af rfl<|Aa<|Ad<|Ab<|Ac<|Ap (fun a F=>Am Dv rfl (F.ev rfl) (cs:=[.slice kaq1 c3.kinds.length kcq1,.int .i64 1]) rfl (M.cellsL (k:=2) rfl rfl)) rfl<|Ap (fun a F=>Am Bb rfl (F.ev rfl) (cs:=[.slice laq1 l3.length lcq1]) rfl (M.cellsL (k:=1) rfl rfl)) rfl<|Ap (fun a F=>Ba (cs:=[.int .u8 2,.int .i64 0,.int .i64 1,.int .i64 0,.slice none 0 0]) (ps:=[(0,.int .u8 2),(2,.int .i64 1)]) Bf.k rfl Bf (F.evp rfl) rfl) rfl<|Ap (fun a F=>Ba (cs:=[.int .u8 2,.int .i64 2,.int .i64 1,.int .i64 0,.slice none 0 0]) (ps:=[(0,.int .u8 2),(1,.int .i64 2),(2,.int .i64 1)]) Bf.k rfl Bf (F.evp rfl) rfl) rfl<|fun a F=>?_
 refine Ef F M E5.k Bf (ps:=[(0,.agg #[.int .u8 2,.int .i64 0,.int .i64 1,.int .i64 0,.slice none 0 0]),(1,.agg #[.int .u8 2,.int .i64 2,.int .i64 1,.int .i64 0,.slice none 0 0])]) (cs:=[[.int .u8 2,.int .i64 0,.int .i64 1,.int .i64 0,.slice none 0 0],[.int .u8 2,.int .i64 2,.int .i64 1,.int .i64 0,.slice none 0 0]]) (fl:=[.int .u8 2,.int .i64 0,.int .i64 1,.int .i64 0,.slice none 0 0,.int .u8 2,.int .i64 2,.int .i64 1,.int .i64 0,.slice none 0 0]) rfl rfl (by simp [Lh,Value.cells]) (by simp [ti65]) rfl (by simp [Value.oneCell']) (by decide) (by decide) rfl ?_;clear F M a;intro v15 w a M F
 obtain ⟨av15,cv15,rfl,hlev15,hcmv15,hlv15⟩:=M.row_shape (k:=0) rfl
 have En16:Els Fb 5 Ggq12 [.int .u8 2,.int .i64 0,.int .i64 1,.int .i64 0,.slice none 0 0,.int .u8 2,.int .i64 2,.int .i64 1,.int .i64 0,.slice none 0 0] Vj:=⟨_,_,rfl,rfl,rdn (by decide) rfl Ay.nil,⟨_,_,rfl,rfl,rdn (by decide) rfl Ay.nil,rfl⟩⟩
 obtain ⟨hnz17,Gz17,az17,cz17,hGz17,hez17,Sz17,M⟩:=M.freeze_row Bm (k:=0) rfl En16 (by decide)
 clear hez17 az17 cz17
 replace HG:=HG.mono hGz17
 replace SCq1:=SCq1.mono Bg hGz17
 replace SLq1:=SLq1.mono Ax hGz17
 replace Sz8:=Sz8.mono A0 hGz17
 replace Sz11:=Sz11.mono Bm hGz17
 replace Sgq12:=Sgq12.mono Ax hGz17
 refine Dz F ent25 rfl rfl (Adw (ns:=Vj) M all3b SCq1 SLq1 Sz17 (by decide)) ?_;clear F M a;rintro _ Gq18 _ w a hGq18 M ⟨aoq18,csq18,Loq18,rfl,rfl,Eoq18⟩ F
 replace HG:=HG.mono hGq18
 replace SCq1:=SCq1.mono Bg hGq18
 replace SLq1:=SLq1.mono Ax hGq18
 replace Sz8:=Sz8.mono A0 hGq18
 replace Sz11:=Sz11.mono Bm hGq18
 replace Sgq12:=Sgq12.mono Ax hGq18
 replace Sz17:=Sz17.mono Bm hGq18
 have M:=M.perm (Cm (Cw aoq18 (([]:List EntD),(1:Nat),(4:Int)).1.length csq18::Loq18) [.blk b13 [.slice aoq12 ((([en3 3,en3 9,en3 2]:List EntD),(3:Nat),(0:Int)).1.length) ((([en3 3,en3 9,en3 2]:List EntD),(3:Nat),(0:Int)).1.length)] 54,.blk b4 [.slice laq1 l3.length lcq1] 54,.blk b2 [.slice kaq1 c3.kinds.length kcq1,.int .i64 1] 51] L)
 obtain ⟨Ggq18,hGgq18,M,Sgq18⟩:=Ou (M.perm (Cm [.blk b13 [.slice aoq12 ((([en3 3,en3 9,en3 2]:List EntD),(3:Nat),(0:Int)).1.length) ((([en3 3,en3 9,en3 2]:List EntD),(3:Nat),(0:Int)).1.length)] 54,.blk b4 [.slice laq1 l3.length lcq1] 54,.blk b2 [.slice kaq1 c3.kinds.length kcq1,.int .i64 1] 51] (Cw aoq18 (([]:List EntD),(1:Nat),(4:Int)).1.length csq18::Loq18) L)) Eoq18
 replace HG:=HG.mono hGgq18
 replace SCq1:=SCq1.mono Bg hGgq18
 replace SLq1:=SLq1.mono Ax hGgq18
 replace Sz8:=Sz8.mono A0 hGgq18
 replace Sz11:=Sz11.mono Bm hGgq18
 replace Sgq12:=Sgq12.mono Ax hGgq18
 replace Sz17:=Sz17.mono Bm hGgq18
 change Mem w0 Ggq18 (.blk b13 [.slice aoq12 ((([en3 3,en3 9,en3 2]:List EntD),(3:Nat),(0:Int)).1.length) ((([en3 3,en3 9,en3 2]:List EntD),(3:Nat),(0:Int)).1.length)] 54::.blk b4 [.slice laq1 l3.length lcq1] 54::.blk b2 [.slice kaq1 c3.kinds.length kcq1,.int .i64 1] 51::L) _ at M
 revert a
 refine Ae rfl<|Ch rfl rfl<|Ch rfl rfl<|Ch rfl rfl<|Cz M Bb rfl rfl<|?_;clear M;intro b19 w M
 intro a F
 refine Ar F M Bb (k:=0) rfl rfl rfl (us:=[.slice aoq18 ((([]:List EntD),(1:Nat),(4:Int)).1.length) ((([]:List EntD),(1:Nat),(4:Int)).1.length)]) rfl rfl (by simp [Value.oneCell']) (by simp) ?_;clear F M a;intro w a M F
 change Mem w0 Ggq18 (.blk b19 [.slice aoq18 ((([]:List EntD),(1:Nat),(4:Int)).1.length) ((([]:List EntD),(1:Nat),(4:Int)).1.length)] 54::.blk b13 [.slice aoq12 ((([en3 3,en3 9,en3 2]:List EntD),(3:Nat),(0:Int)).1.length) ((([en3 3,en3 9,en3 2]:List EntD),(3:Nat),(0:Int)).1.length)] 54::.blk b4 [.slice laq1 l3.length lcq1] 54::.blk b2 [.slice kaq1 c3.kinds.length kcq1,.int .i64 1] 51::L) _ at M
 revert a
 refine Af rfl<|Af rfl<|Aa<|Ad<|Ab<|Ab<|Ac<|Ap (fun a F=>Ba (cs:=[.int .u8 2,.int .i64 0,.int .i64 0,.int .i64 1,.slice none 0 0]) (ps:=[(0,.int .u8 2),(3,.int .i64 1)]) Bf.k rfl Bf (F.evp rfl) rfl) rfl<|Br Zy rfl rfl (Ps (k:=2) (a:=0) (b:=0) (t:=1) (z:=5) M (by decide) (by decide))<|?_;clear M;rintro _ w M rfl
 refine D9 rfl rfl<|Ae rfl<|g_t rfl (Ai (decide_eq_true (by decide)))<|Ap (fun a F=>Ba (cs:=[.int .u8 6,.int .i64 0,.int .i64 0,.int .i64 0,.slice none 0 0]) (ps:=[(0,.int .u8 6)]) Bf.k rfl Bf (F.evp rfl) rfl) rfl<|g_t rfl (Ai (decide_eq_true (by decide)))<|Br Zy rfl rfl (Ps (k:=6) (a:=0) (b:=0) (t:=0) (z:=1) M (by decide) (by decide))<|?_;clear M;rintro _ w M rfl
 refine g_t rfl (Ai (decide_eq_true (by decide)))<|D9 rfl rfl<|Bh rfl (Ai (decide_eq_true (by decide))) rfl<|Ae rfl<|g_t rfl (Ai (decide_eq_true (by decide)))<|Ap (fun a F=>Ba (cs:=[.int .u8 5,.int .i64 0,.int .i64 0,.int .i64 0,.slice none 0 0]) (ps:=[(0,.int .u8 5)]) Bf.k rfl Bf (F.evp rfl) rfl) rfl<|g_t rfl (Ai (decide_eq_true (by decide)))<|Br Zy rfl rfl (Ps (k:=5) (a:=0) (b:=0) (t:=0) (z:=0) M (by decide) (by decide))<|?_;clear M;rintro _ w M rfl
 refine g_t rfl (Ai (decide_eq_true (by decide)))<|D9 rfl rfl<|Bh rfl (Ai (decide_eq_true (by decide))) rfl<|Ae rfl<|g_t rfl (Ai (decide_eq_true (by decide)))<|Ae rfl<|g_t rfl (Ai (decide_eq_true (by decide)))<|D9 rfl rfl<|Bh rfl (Ai (decide_eq_true (by decide))) rfl<|Ae rfl<|g_t rfl (Ai (decide_eq_true (by decide)))<|Ae rfl<|g_t rfl (Ai (decide_eq_true (by decide)))<|D9 rfl rfl<|Bh rfl (Ai (decide_eq_true (by decide))) rfl<|Ae rfl<|g_t rfl (Ai (decide_eq_true (by decide)))<|Bc Bb.k rfl rfl<|g_t rfl (Ai (decide_eq_true (by decide)))<|Bl C3 M 1 rfl rfl rfl rfl<|g_t rfl (Ai (decide_eq_true (by decide)))<|Cg C3.k rfl<|g_t rfl (Ai (decide_eq_true (by decide)))<|D9 rfl rfl<|?_
 refine Bh rfl (Ai (decide_eq_true (by decide))) rfl<|Ae rfl<|?_
 have hg21:(!(decide ((((([en3 3,en3 9,en3 2]:List EntD),(3:Nat),(0:Int)).1.length:Nat):Int)=3)))=false:=(Ai (decide_eq_true (by (first | omega | rfl | decide))))
 refine g_t rfl hg21<|Ae rfl<|g_t rfl hg21<|D9 rfl rfl<|Bh rfl hg21 rfl<|Ae rfl<|g_t rfl (Ai (decide_eq_true (by decide)))<|Ae rfl<|g_t rfl (Ai (decide_eq_true (by decide)))<|D9 rfl rfl<|Bh rfl (Ai (decide_eq_true (by decide))) rfl<|Ae rfl<|g_t rfl (Ai (decide_eq_true (by decide)))<|Bc Bb.k rfl rfl<|g_t rfl (Ai (decide_eq_true (by decide)))<|Bl C3 M 0 rfl rfl rfl rfl<|g_t rfl (Ai (decide_eq_true (by decide)))<|Cg C3.k rfl<|g_t rfl (Ai (decide_eq_true (by decide)))<|D9 rfl rfl<|Bh rfl (Ai (decide_eq_true (by decide))) rfl<|Aa<|Ad<|D2 rfl (Ai (decide_eq_true (by decide)))<|?_
 refine Au<|Ad<|Ab<|Ab<|Ac<|Bc Bb.k rfl rfl<|Bl C3 M 1 rfl rfl rfl rfl<|?_
 obtain ⟨be22,oe22,_,Ie22,_,Ae22,hTe22⟩:=Sgq12.at (show ([en3 3,en3 9,en3 2]:List EntD)[0]?=some (en3 3) from rfl)
 obtain ⟨c1e22,hcse22,hPe22,hBe22⟩:=hTe22
 obtain ⟨mae22,mce22,rfl,hke22,hte22,hxe22,hne22,SMe22⟩:=hPe22
 subst hcse22
 have hIe22:(((en3 3).item).key < 18446744073709551616∧((en3 3).item).typ < 256∧((en3 3).item).text.length≤9223372036854775807):=⟨hke22,hte22,hxe22⟩
 have hQe22:-9223372036854775808≤(en3 3).size∧(en3 3).size≤9223372036854775807:=hBe22
 refine Fp C3.k De Ie22 rfl rfl<|Bc De.k rfl rfl<|Bc A1.k rfl rfl<|D4 Eh M Ae22 0 rfl rfl (by omega) rfl<|D9 rfl rfl<|Ae rfl<|?_
 have hg23:(!(decide (((((en3 3).item).key:Nat):Int)=3)))=false:=(Ai (decide_eq_true (by (first | omega | rfl | decide))))
 refine g_t rfl hg23<|Bc Bb.k rfl rfl<|g_t rfl hg23<|Bl C3 M 1 rfl rfl rfl rfl<|g_t rfl hg23<|?_
 obtain ⟨be24,oe24,_,Ie24,_,Ae24,hTe24⟩:=Sgq12.at (show ([en3 3,en3 9,en3 2]:List EntD)[1]?=some (en3 9) from rfl)
 obtain ⟨c1e24,hcse24,hPe24,hBe24⟩:=hTe24
 obtain ⟨mae24,mce24,rfl,hke24,hte24,hxe24,hne24,SMe24⟩:=hPe24
 subst hcse24
 have hIe24:(((en3 9).item).key < 18446744073709551616∧((en3 9).item).typ < 256∧((en3 9).item).text.length≤9223372036854775807):=⟨hke24,hte24,hxe24⟩
 have hQe24:-9223372036854775808≤(en3 9).size∧(en3 9).size≤9223372036854775807:=hBe24
 refine Fp C3.k De Ie24 rfl rfl<|g_t rfl hg23<|Bc De.k rfl rfl<|g_t rfl hg23<|Bc A1.k rfl rfl<|g_t rfl hg23<|D4 Eh M Ae24 0 rfl rfl (by omega) rfl<|g_t rfl hg23<|D9 rfl rfl<|Bh rfl hg23 rfl<|Ae rfl<|?_
 have hg25:(!(decide (((((en3 9).item).key:Nat):Int)=9)))=false:=(Ai (decide_eq_true (by (first | omega | rfl | decide))))
 refine g_t rfl hg25<|Bc Bb.k rfl rfl<|g_t rfl hg25<|Bl C3 M 1 rfl rfl rfl rfl<|g_t rfl hg25<|?_
 obtain ⟨be26,oe26,_,Ie26,_,Ae26,hTe26⟩:=Sgq12.at (show ([en3 3,en3 9,en3 2]:List EntD)[2]?=some (en3 2) from rfl)
 obtain ⟨c1e26,hcse26,hPe26,hBe26⟩:=hTe26
 obtain ⟨mae26,mce26,rfl,hke26,hte26,hxe26,hne26,SMe26⟩:=hPe26
 subst hcse26
 have hIe26:(((en3 2).item).key < 18446744073709551616∧((en3 2).item).typ < 256∧((en3 2).item).text.length≤9223372036854775807):=⟨hke26,hte26,hxe26⟩
 have hQe26:-9223372036854775808≤(en3 2).size∧(en3 2).size≤9223372036854775807:=hBe26
 refine Fp C3.k De Ie26 rfl rfl<|g_t rfl hg25<|Bc De.k rfl rfl<|g_t rfl hg25<|Bc A1.k rfl rfl<|g_t rfl hg25<|D4 Eh M Ae26 0 rfl rfl (by omega) rfl<|g_t rfl hg25<|D9 rfl rfl<|Bh rfl hg25 rfl<|Aa<|Ad<|D2 rfl (Ai (decide_eq_true (by decide)))<|Au<|Ad<|Ab<|Ac<|Ap (fun a F=>Ba (cs:=[.int .u64 9,.int .u8 0,.string (str ([120]:List UInt8)),.slice none 0 0]) (ps:=[(0,.int .u64 9),(2,.string (str ([120]:List UInt8)))]) A1.k rfl A1 (F.evp rfl) rfl) rfl<|fun a F=>?_
 refine Ci F M B5.k A1 rfl rfl (cs:=[.int .u64 9,.int .u8 0,.string (str ([120]:List UInt8)),.slice none 0 0]) rfl rfl (by simp [Value.oneCell']) (by decide) rfl ?_;clear F M a;intro v27 w a M F
 obtain ⟨av27,cv27,rfl,hlev27,hcmv27,hlv27⟩:=M.row_shape (k:=0) rfl
 have Ei28:Els Cn 4 Ggq18 [.int .u64 9,.int .u8 0,.string (str ([120]:List UInt8)),.slice none 0 0] [⟨9,0,[120],[]⟩]:=⟨[.int .u64 9,.int .u8 0,.string (str [120]),.slice none 0 0],_,rfl,rfl,⟨none,0,rfl,by decide,by decide,by decide,by decide,Ay.nil⟩,rfl⟩
 obtain ⟨hnz29,Gz29,az29,cz29,hGz29,hez29,Sz29,M⟩:=M.freeze_row A0 (k:=0) rfl Ei28 (by decide)
 clear hez29 az29 cz29
 replace HG:=HG.mono hGz29
 replace SCq1:=SCq1.mono Bg hGz29
 replace SLq1:=SLq1.mono Ax hGz29
 replace Sz8:=Sz8.mono A0 hGz29
 replace Sz11:=Sz11.mono Bm hGz29
 replace Sgq12:=Sgq12.mono Ax hGz29
 replace Sz17:=Sz17.mono Bm hGz29
 replace Sgq18:=Sgq18.mono Ax hGz29
 replace Ae22:=Ae22.mono hGz29
 replace SMe22:=SMe22.mono Bn hGz29
 replace Ae24:=Ae24.mono hGz29
 replace SMe24:=SMe24.mono Bn hGz29
 replace Ae26:=Ae26.mono hGz29
 replace SMe26:=SMe26.mono Bn hGz29
 revert a
 refine Ap (fun a F=>Ba (cs:=[.int .u8 1,.int .i64 2,.int .i64 0,.int .i64 0,.slice av27 1 (cv27)]) (ps:=[(0,.int .u8 1),(1,.int .i64 2),(4,.slice av27 1 (cv27))]) Bf.k rfl Bf (F.evp rfl) rfl) rfl<|Ap (fun a F=>Ba (cs:=[.int .u8 2,.int .i64 0,.int .i64 1,.int .i64 0,.slice none 0 0]) (ps:=[(0,.int .u8 2),(2,.int .i64 1)]) Bf.k rfl Bf (F.evp rfl) rfl) rfl<|fun a F=>?_
 refine Ef F M E5.k Bf (ps:=[(0,.agg #[.int .u8 1,.int .i64 2,.int .i64 0,.int .i64 0,.slice av27 1 (cv27)]),(1,.agg #[.int .u8 2,.int .i64 0,.int .i64 1,.int .i64 0,.slice none 0 0])]) (cs:=[[.int .u8 1,.int .i64 2,.int .i64 0,.int .i64 0,.slice av27 1 (cv27)],[.int .u8 2,.int .i64 0,.int .i64 1,.int .i64 0,.slice none 0 0]]) (fl:=[.int .u8 1,.int .i64 2,.int .i64 0,.int .i64 0,.slice av27 1 (cv27),.int .u8 2,.int .i64 0,.int .i64 1,.int .i64 0,.slice none 0 0]) rfl rfl (by simp [Lh,Value.cells]) (by simp [ti65]) rfl (by simp [Value.oneCell']) (by decide) (by decide) rfl ?_;clear F M a;intro v30 w a M F
 obtain ⟨av30,cv30,rfl,hlev30,hcmv30,hlv30⟩:=M.row_shape (k:=0) rfl
 have En31:Els Fb 5 Gz29 [.int .u8 1,.int .i64 2,.int .i64 0,.int .i64 0,.slice av27 1 (cv27),.int .u8 2,.int .i64 0,.int .i64 1,.int .i64 0,.slice none 0 0] Lp:=⟨_,_,rfl,rfl,rdn (by decide) rfl Sz29,⟨_,_,rfl,rfl,rdn (by decide) rfl Ay.nil,rfl⟩⟩
 obtain ⟨hnz32,Gz32,az32,cz32,hGz32,hez32,Sz32,M⟩:=M.freeze_row Bm (k:=0) rfl En31 (by decide)
 clear hez32 az32 cz32
 replace HG:=HG.mono hGz32
 replace SCq1:=SCq1.mono Bg hGz32
 replace SLq1:=SLq1.mono Ax hGz32
 replace Sz8:=Sz8.mono A0 hGz32
 replace Sz11:=Sz11.mono Bm hGz32
 replace Sgq12:=Sgq12.mono Ax hGz32
 replace Sz17:=Sz17.mono Bm hGz32
 replace Sgq18:=Sgq18.mono Ax hGz32
 replace Ae22:=Ae22.mono hGz32
 replace SMe22:=SMe22.mono Bn hGz32
 replace Ae24:=Ae24.mono hGz32
 replace SMe24:=SMe24.mono Bn hGz32
 replace Ae26:=Ae26.mono hGz32
 replace SMe26:=SMe26.mono Bn hGz32
 replace Sz29:=Sz29.mono A0 hGz32
 revert a
 refine Hq ent32 rfl rfl (Jk (ns:=Lp) M HG Sz32)<|?_;clear M;rintro _ Gq33 w hGq33 M rfl
 replace HG:=HG.mono hGq33
 replace SCq1:=SCq1.mono Bg hGq33
 replace SLq1:=SLq1.mono Ax hGq33
 replace Sz8:=Sz8.mono A0 hGq33
 replace Sz11:=Sz11.mono Bm hGq33
 replace Sgq12:=Sgq12.mono Ax hGq33
 replace Sz17:=Sz17.mono Bm hGq33
 replace Sgq18:=Sgq18.mono Ax hGq33
 replace Ae22:=Ae22.mono hGq33
 replace SMe22:=SMe22.mono Bn hGq33
 replace Ae24:=Ae24.mono hGq33
 replace SMe24:=SMe24.mono Bn hGq33
 replace Ae26:=Ae26.mono hGq33
 replace SMe26:=SMe26.mono Bn hGq33
 replace Sz29:=Sz29.mono A0 hGq33
 replace Sz32:=Sz32.mono Bm hGq33
 intro a F
 rw [X5.1,X5.2] at F
 revert a
 refine Ae rfl<|Ch rfl rfl<|Ch rfl rfl<|Af rfl<|Af rfl<|Aa<|Ad<|Ab<|Ab<|Ac<|fun a F=>?_
 refine Ef F M Cd.k Bq (ps:=[(0,.string (str ([105,110,115,101,114,116,32,48,32,49,10]:List UInt8))),(1,.string (str ([114,101,109,111,118,101,32,48,10]:List UInt8))),(2,.string (str ([114,101,115,101,116,32,48,10,102,111,111,10]:List UInt8)))]) (cs:=[[.string (str ([105,110,115,101,114,116,32,48,32,49,10]:List UInt8))],[.string (str ([114,101,109,111,118,101,32,48,10]:List UInt8))],[.string (str ([114,101,115,101,116,32,48,10,102,111,111,10]:List UInt8))]]) (fl:=[.string (str ([105,110,115,101,114,116,32,48,32,49,10]:List UInt8)),.string (str ([114,101,109,111,118,101,32,48,10]:List UInt8)),.string (str ([114,101,115,101,116,32,48,10,102,111,111,10]:List UInt8))]) rfl rfl (by simp [Lh,Value.cells]) (by simp [ti9]) rfl (by simp [Value.oneCell']) (by decide) (by decide) rfl ?_;clear F M a;intro v34 w a M F
 obtain ⟨av34,cv34,rfl,hlev34,hcmv34,hlv34⟩:=M.row_shape (k:=0) rfl
 have Et:Els Dw 1 Gq33 [.string (str ([105,110,115,101,114,116,32,48,32,49,10]:List UInt8)),.string (str ([114,101,109,111,118,101,32,48,10]:List UInt8)),.string (str ([114,101,115,101,116,32,48,10,102,111,111,10]:List UInt8))] Ahw:=Kn Ahw (by intro y hy;simp only [Ahw,List.mem_cons,List.not_mem_nil,or_false] at hy;rcases hy with rfl | rfl | rfl <;> decide)
 obtain ⟨hnz35,Gz35,az35,cz35,hGz35,hez35,Sz35,M⟩:=M.freeze_row Bn (k:=0) rfl Et (by decide)
 clear hez35 az35 cz35
 replace HG:=HG.mono hGz35
 replace SCq1:=SCq1.mono Bg hGz35
 replace SLq1:=SLq1.mono Ax hGz35
 replace Sz8:=Sz8.mono A0 hGz35
 replace Sz11:=Sz11.mono Bm hGz35
 replace Sgq12:=Sgq12.mono Ax hGz35
 replace Sz17:=Sz17.mono Bm hGz35
 replace Sgq18:=Sgq18.mono Ax hGz35
 replace Ae22:=Ae22.mono hGz35
 replace SMe22:=SMe22.mono Bn hGz35
 replace Ae24:=Ae24.mono hGz35
 replace SMe24:=SMe24.mono Bn hGz35
 replace Ae26:=Ae26.mono hGz35
 replace SMe26:=SMe26.mono Bn hGz35
 replace Sz29:=Sz29.mono A0 hGz35
 replace Sz32:=Sz32.mono Bm hGz35
 revert a
 refine Cg Cd.k rfl<|Ae rfl<|Aa<|Ad<|A3<|fun a F=>B8 (fun m a' w'=>∃ (i:Nat),m=3 - i∧∃ G36,Gle Gz35 G36∧Fits 148 a' [(6,.int .i64 0),(10,.string (str ([105,110,115,101,114,116,32,50,32,49,10,57,32,48,32,45,32,120,10,114,101,109,111,118,101,32,48,32,49,10]:List UInt8))),(119,.slice av34 3 (cv34)),(120,.int .i64 ((3:Nat):Int)),(121,.int .i64 ((i:Nat):Int))]∧Mem w0 G36 (.blk b19 [.slice aoq18 ((([]:List EntD),(1:Nat),(4:Int)).1.length) ((([]:List EntD),(1:Nat),(4:Int)).1.length)] 54::.blk b13 [.slice aoq12 ((([en3 3,en3 9,en3 2]:List EntD),(3:Nat),(0:Int)).1.length) ((([en3 3,en3 9,en3 2]:List EntD),(3:Nat),(0:Int)).1.length)] 54::.blk b4 [.slice laq1 l3.length lcq1] 54::.blk b2 [.slice kaq1 c3.kinds.length kcq1,.int .i64 1] 51::L) w'∧(i≤3)) _ ⟨0,rfl,Gz35,Gle.refl _,F.to ⟨rfl,rfl,rfl,rfl,rfl,trivial⟩,M,by omega⟩ ?_
 clear F M
 rintro m a w ⟨i,rfl,G36,hG36,F,M,hi⟩
 replace HG:=HG.mono hG36
 replace SCq1:=SCq1.mono Bg hG36
 replace SLq1:=SLq1.mono Ax hG36
 replace Sz8:=Sz8.mono A0 hG36
 replace Sz11:=Sz11.mono Bm hG36
 replace Sgq12:=Sgq12.mono Ax hG36
 replace Sz17:=Sz17.mono Bm hG36
 replace Sgq18:=Sgq18.mono Ax hG36
 replace Ae22:=Ae22.mono hG36
 replace SMe22:=SMe22.mono Bn hG36
 replace Ae24:=Ae24.mono hG36
 replace SMe24:=SMe24.mono Bn hG36
 replace Ae26:=Ae26.mono hG36
 replace SMe26:=SMe26.mono Bn hG36
 replace Sz29:=Sz29.mono A0 hG36
 replace Sz32:=Sz32.mono Bm hG36
 replace Sz35:=Sz35.mono Bn hG36
 revert a
 refine Ab<|Ac<|Df rfl rfl<|Aa<|Ad<|Ab<|Av rfl ?_ ?_
 ·intro h37b
  have h37:=dT h37b
  refine Au<|Ad<|Ab<|A3<|Ab<|Ac<|Ae rfl<|?_
  obtain ⟨Xe38,hXe38⟩:=Be (xs:=Ahw) (i:=i) (by omega)
  obtain ⟨be38,oe38,_,Ie38,_,Ae38,⟨rfl,hsle38⟩⟩:=Sz35.at hXe38
  refine Fp Cd.k Bq Ie38 rfl rfl<|D4 Bq M Ae38 0 rfl rfl (by omega) rfl<|Af rfl<|Af rfl<|Aa<|Ad<|Ab<|Ac<|Ae rfl<|?_
  obtain ⟨ln,hln,hpf⟩:=Aoc hXe38
  refine Hq ent33 rfl rfl (Qp (s:=Xe38) M HG (by first | assumption | omega))<|?_;clear M;rintro _ Gq39 w hGq39 M ⟨aq39,yq39,lq39,eq39,rfl,Sq39,hpq39⟩
  replace HG:=HG.mono hGq39
  replace SCq1:=SCq1.mono Bg hGq39
  replace SLq1:=SLq1.mono Ax hGq39
  replace Sz8:=Sz8.mono A0 hGq39
  replace Sz11:=Sz11.mono Bm hGq39
  replace Sgq12:=Sgq12.mono Ax hGq39
  replace Sz17:=Sz17.mono Bm hGq39
  replace Sgq18:=Sgq18.mono Ax hGq39
  replace Ae22:=Ae22.mono hGq39
  replace SMe22:=SMe22.mono Bn hGq39
  replace Ae24:=Ae24.mono hGq39
  replace SMe24:=SMe24.mono Bn hGq39
  replace Ae26:=Ae26.mono hGq39
  replace SMe26:=SMe26.mono Bn hGq39
  replace Sz29:=Sz29.mono A0 hGq39
  replace Sz32:=Sz32.mono Bm hGq39
  replace Sz35:=Sz35.mono Bn hGq39
  replace Ae38:=Ae38.mono hGq39
  obtain ⟨rfl,rfl,rfl⟩:yq39=[]∧lq39=ln∧eq39=5:=by have h_:=hpq39.uniq hpf;simpa only [Prod.mk.injEq] using h_
  refine Ae rfl<|Ch rfl rfl<|Ch rfl rfl<|Ch rfl rfl<|Af rfl<|Af rfl<|Af rfl<|Aa<|Ad<|Ab<|Ac<|Ae rfl<|D9 rfl rfl<|Ae rfl<|g_t rfl (Ai (decide_eq_true (by decide)))<|Ae rfl<|g_t rfl (Ai (decide_eq_true (by decide)))<|Ap (fun a F=>F7 F (ps:=[(0,.int .i64 2),(1,.int .i64 1),(2,.int .i64 2)]) (cs:=[.int .i64 2,.int .i64 1,.int .i64 2]) Aau.k Aau B7 rfl rfl) rfl<|g_t rfl (Ai (decide_eq_true (by decide)))<|Ae rfl<|g_t rfl (Ai (decide_eq_true (by decide)))<|Ap (fun a F=>R4 (j:=i) (v:=.int .i64 (((lq39:Nat)):Int)) Aau.k B7 rfl rfl (F.ev rfl) (F.ev rfl) rfl (by omega) (ln_cell hln)) rfl<|g_t rfl (Ai (decide_eq_true (by decide)))<|D9 rfl rfl<|?_
  refine Bh rfl (Ai (decide_eq_true (by decide))) rfl<|Aa<|Ad<|D2 rfl (Ai (decide_eq_true (by first | rfl | omega)))<|Au<|C0<|Ad<|Ac<|B9 rfl rfl<|Ae rfl<|Aa<|Ad<|fun a F=>?_
  exact ⟨_,by omega,i+1,rfl,Gq39,(hG36.trans hGq39),F.to ⟨rfl,rfl,rfl,rfl,rfl,trivial⟩,M,by omega⟩
 ·intro h40b
  have h40:=dF h40b
  refine B1<|Bx<|Bx<|Dj<|Ad<|Ab<|Ac<|Ae rfl<|Dc rfl rfl<|Ae rfl<|g_t rfl (decide_eq_true (by decide))<|Ae rfl<|g_t rfl (decide_eq_true (by decide))<|F0 rfl rfl<|Bi rfl (decide_eq_true (by decide)) rfl<|Af rfl<|Aa<|Ad<|Aj<|Al rfl rfl<|?_
  exact ⟨_,((((((((((((hGq1.trans hGz8).trans hGz11).trans hGq12).trans hGgq12).trans hGz17).trans hGq18).trans hGgq18).trans hGz29).trans hGz32).trans hGq33).trans hGz35).trans hG36),M.weaken (.cons _ (.cons _ (.cons _ (.cons _ (sR _))))),by first | rfl | (congr 1;first | rfl | decide | simp_all)⟩
open Go Go.Y Go.Proofs
set_option linter.unusedSimpArgs false
set_option linter.unusedVariables false
open Go Go.Y Go.RowKit
set_option linter.unusedSimpArgs false
set_option linter.unusedVariables false
theorem pr_inv {p:List NotD} {c:List UInt8} {q:List NotD × Nat × Int} (h:PR p c q):q.2.2=0→∃ r,q.1=p++r∧q.2.1=0∧c=D0 r∧(∀ x∈r,Hb x=0)∧(p.length≤32→p.length+r.length≤32):=by
 induction h with
 | done=>intro _;exact ⟨[],by simp,rfl,rfl,by simp,by simp⟩
 | nohead=>intro h;cases h
 | full=>intro h;cases h
 | bad=>intro h;cases h
 | @step xs c x sz ys r q hh hn hc hok hs _ ih =>
  intro h
  obtain ⟨z,h1,h2,h3,h4,h5⟩:=ih h
  refine ⟨{ x with items:=ys }::z,by rw [h1];simp,h2,?_,?_,?_⟩
  ·rw [hc,h3,← hs]
   show _=Ss _++D0 z
   unfold Ss
   rw [List.append_assoc];rfl
  ·intro y hy
   rcases List.mem_cons.1 hy with rfl | hy
   ·have e1:E2 { x with items:=ys } = 0:=Je.2 ⟨hh.kd,hh.fa,hh.fc,hh.ft,hh.fi.imp id (fun h=>by show ys.length=0;omega)⟩
    rw [Zx e1]
    exact (Q4 (l:=ys) (by have:=hh.rs;omega) (fun y hy=>(hok y hy).1)).1
   ·exact h4 y hy
  ·intro hp
   have h6:xs.length+1≤32:=Nat.lt_of_le_of_ne hp hn
   have h7:=h5 (by rw [List.length_append];exact h6)
   rw [List.length_append] at h7
   rw [List.length_cons]
   have h8:xs.length+1+z.length≤32:=h7
   clear ih h5 h h1 h3 h4 hok hc hs
   omega
theorem Ali {ns:List NotD}:Ce (O5 ns) ns.length=0↔∀ x∈ns,Hb x=0:=by
 rw [E3]
 constructor
 ·intro h x hx
  obtain ⟨i,hi⟩:=List.mem_iff_getElem?.1 hx
  have:=h i (Bj hi)
  rwa [Tn hi] at this
 ·intro h i hi
  obtain ⟨x,hx⟩:=Be hi
  rw [Tn hx];exact h x (List.mem_of_getElem? hx)
theorem Aby {ns:List NotD}:F4 ns=0↔ns.length≤32∧(∀ x∈ns,Hb x=0)∧(D0 ns).length≤1048576:=by
 rw [← Ali]
 unfold F4
 split
 ·rename_i h;exact ⟨fun h2=>(by cases h2),fun h2=>by omega⟩
 ·rename_i h
  split
  ·rename_i h1;exact ⟨fun h2=>absurd h2 h1,fun h2=>absurd h2.2.1 h1⟩
  ·rename_i h1
   split
   ·rename_i h2;exact ⟨fun h3=>(by cases h3),fun h3=>by omega⟩
   ·rename_i h2;exact ⟨fun _=>⟨by omega,Classical.byContradiction fun h=>h1 h,by omega⟩,fun _=>rfl⟩
theorem pr_bad {p:List NotD} {c:List UInt8} {q:List NotD × Nat × Int} (h:PR p c q):q.2.2≠0→q.1=[]:=by
 induction h with
 | done=>intro h;exact absurd rfl h
 | nohead=>intro _;rfl
 | full=>intro _;rfl
 | bad=>intro _;rfl
 | step _ _ _ _ _ _ ih=>exact ih
open Go Go.Y Go.Proofs
set_option linter.unusedVariables false
theorem ent34:Ent Tryz.prog 34:=.mk' Tryz.func34 (by kernel_rfl) (by kernel_rfl)
theorem ent35:Ent Tryz.prog 35:=.mk' Tryz.func35 (by kernel_rfl) (by kernel_rfl)
theorem ent91:Ent Tryz.prog 91:=.mk' Tryz.func91 (by kernel_rfl) (by kernel_rfl)
theorem ent138:Ent Tryz.prog 138:=.mk' Tryz.func138 (by kernel_rfl) (by kernel_rfl)
open Go Go.Y Go.Proofs
set_option linter.unusedSimpArgs false
set_option linter.unusedVariables false
theorem pf_text {s:List UInt8} {ys:List NotD} {ln:Nat} {e:Int} (h:PF s (ys,ln,e)) (he:e=0):F4 ys=0∧Ic ys=s:=by
 subst he
 rcases h with ⟨_,h⟩ | ⟨h1,h⟩
 ·simp at h
 ·obtain ⟨r,h2,_,h4,h5,h6⟩:=pr_inv h rfl
  simp only [List.nil_append] at h2
  subst h2
  have h7:F4 ys=0:=Aby.2 ⟨by have:=h6 (by simp);simpa using this,h5,by rw [← h4];exact h1⟩
  exact ⟨h7,by unfold Ic;rw [if_pos h7,h4]⟩
theorem pf_bad {s:List UInt8} {ys:List NotD} {ln:Nat} {e:Int} (h:PF s (ys,ln,e)) (he:e≠0):ys=[]:=by
 rcases h with ⟨_,h⟩ | ⟨_,h⟩
 ·simp only [Prod.mk.injEq] at h;exact h.1
 ·exact pr_bad h he
open Go Go.Y Go.RowKit
set_option linter.unusedSimpArgs false
set_option linter.unusedVariables false
section
variable {ρ:Operand→Value} {P:Program} {d:Option Tmp} {t:TypeId} {p:String} {af:Array Edge} {g:Option (Nat × Bool)} {w:World}
theorem U5 {src dst:TypeId} {x:Operand} {k k':IntKind} {a:Int} (hd:tk P dst=.int k) (hs:∃ u,P.underlying src=some u) (hx:ρ x=.int k' a) :
  (execOp ρ ⟨d,.convert src dst x,t,p,af,g⟩).run P w=.ok (.value (.int k (k.wrap a))) w:=by
 obtain ⟨u,hu⟩:=hs
 simp [execOp,hx,convert,Ck hu,Ck (C5 hd),Conv.intToInt]
theorem Air {x:Operand} {ty:TypeId} {k:IntKind} {a:Int} (hx:ρ x=.int k a):(execOp ρ ⟨d,.unOp .neg ty x,t,p,af,g⟩).run P w=.ok (.value (.int k (k.wrap (-a)))) w:=by
 simp [execOp,hx,Op.unary,Op.intArith]
end
theorem Kr (n:Int):A2 .i64 (IntKind.i64.wrap n):=by
 simp [A2,IntKind.wrap,IntKind.min,IntKind.max,IntKind.bits,IntKind.signed];omega
theorem Aah {u:Nat} (h:u≤9223372036854775808):IntKind.i64.wrap (-(IntKind.i64.wrap ((u:Nat):Int))) = -((u:Nat):Int):=by
 simp [IntKind.wrap,IntKind.bits,IntKind.signed];omega
theorem Aag {u:Nat} (h:u≤9223372036854775807):IntKind.i64.wrap ((u:Nat):Int)=((u:Nat):Int):=Kq (Cr (by omega) (by omega))
/-! ### Numbers -/
def Aog (s:List UInt8) (z:Int) (b:Bool):Prop:=A2 .i64 z∧(b=true→s=Lib.itoa z)∧∀ y,A2 .i64 y→s=Lib.itoa y→b=true
theorem nb_45 {c:UInt8}:nb c=45↔c=45:=by
 constructor
 ·intro h
  apply UInt8.toNat_inj.1
  unfold nb at h
  have h2:(45:UInt8).toNat=45:=rfl
  omega
 ·rintro rfl;rfl
theorem Adt {s:List UInt8} {u:Nat} {b:Bool} (hn:Ur 18446744073709551616 s u b) (hs:¬ s[0]?=some 45) {y:Int} (hy:A2 .i64 y) (e:s=Lib.itoa y):b=true∧IntKind.i64.wrap ((u:Nat):Int)=y:=by
 obtain ⟨h1,h2⟩:=hy
 have h1:-9223372036854775808≤y:=h1
 have h2:y≤9223372036854775807:=h2
 by_cases h:y < 0
 ·obtain ⟨m,rfl⟩:∃ m:Nat,y = -(m:Int):=⟨y.natAbs,by omega⟩
  rw [Lib.itoa_neg m (by omega)] at e
  rw [e] at hs
  exact absurd rfl hs
 ·obtain ⟨m,rfl⟩:∃ m:Nat,y=(m:Int):=⟨y.toNat,by omega⟩
  rw [Lib.itoa_nonneg] at e
  obtain ⟨h3,rfl⟩:=hn.2 m (by omega) e
  exact ⟨h3,Aag (by omega)⟩
theorem Adu {s:List UInt8} {u:Nat} {b:Bool} (hn:Ur 18446744073709551616 (s.drop 1) u b) (hs:s[0]?=some 45) {y:Int} (hy:A2 .i64 y) (e:s=Lib.itoa y):b=true∧IntKind.i64.wrap (-(IntKind.i64.wrap ((u:Nat):Int)))=y:=by
 obtain ⟨h1,h2⟩:=hy
 have h1:-9223372036854775808≤y:=h1
 have h2:y≤9223372036854775807:=h2
 by_cases h:y < 0
 ·obtain ⟨m,rfl⟩:∃ m:Nat,y = -(m:Int):=⟨y.natAbs,by omega⟩
  rw [Lib.itoa_neg m (by omega)] at e
  obtain ⟨h3,rfl⟩:=hn.2 m (by omega) (by rw [e];rfl)
  exact ⟨h3,Aah (by omega)⟩
 ·obtain ⟨m,rfl⟩:∃ m:Nat,y=(m:Int):=⟨y.toNat,by omega⟩
  rw [Lib.itoa_nonneg] at e
  rw [e] at hs
  have h3:=J0 m 45 (List.mem_of_getElem? hs)
  unfold Lg at h3
  have h4:(45:UInt8).toNat=45:=rfl
  omega
theorem Q8 {s:List UInt8} {v:Int} {b:Bool} (h:∀ y,A2 .i64 y→s=Lib.itoa y→b=true∧v=y) (h2:b=false∨Lib.itoa v≠s):Aog s 0 false :=
 ⟨Cr (by decide) (by decide),fun h=>(by cases h),fun y hy e=>by
  obtain ⟨h3,rfl⟩:=h y hy e
  rcases h2 with h2 | h2
  ·rw [h2] at h3;cases h3
  ·exact absurd e.symm h2⟩
theorem Y1 {s:List UInt8} {v:Int} (hv:A2 .i64 v) (h:Lib.itoa v=s):Aog s v true:=⟨hv,fun _=>h.symm,fun _ _ _=>rfl⟩
/-! ### The first line -/
def Qm (zs:List Int):List UInt8:=(Bu zs).drop 1
theorem Sh {z:Int} {zs:List Int}:Qm (z::zs)=Lib.itoa z++Bu zs:=by unfold Qm Bu;simp
theorem Qc {z:Int} {zs:List Int}:Bu (z::zs)=32::Qm (z::zs):=by rw [Sh];unfold Bu;simp
theorem Z3 {z:Int} {zs:List Int}:(Lib.cut (Qm (z::zs)) [32]).1=Lib.itoa z∧(Lib.cut (Qm (z::zs)) [32]).2.1=Qm zs:=by
 have hz:(32:UInt8) ∉ Lib.itoa z:=S9 (by decide) (by decide)
 rw [Sh]
 cases zs with
 | nil =>
  have:Lib.itoa z++Bu []=Lib.itoa z:=by simp [Bu]
  rw [this,Tu hz]
  exact ⟨rfl,rfl⟩
 | cons y r=>rw [Qc,Im hz];exact ⟨rfl,rfl⟩
theorem fm_ne {k:Nat} {x:NotD} {sz:Int} (hk:1≤x.kind∧x.kind≤5):∃ z zs,fm (nuK x sz)=z::zs:=by
 unfold fm nuK
 rcases (show x.kind=1∨x.kind=2∨x.kind=3∨x.kind=4∨x.kind=5 by omega) with e | e | e | e | e <;> rw [e] <;> exact ⟨_,_,rfl⟩
theorem Agu {s:List UInt8} {x:NotD} {sz:Int} (h:s++[10]=Di x sz):s=Bz x.kind++Bu (fm (nuK x sz)):=by
 unfold Di at h
 exact List.append_cancel_right h
/-- What the numbers that were read must be, if the line is one of a notice. -/
def RdI (s:List UInt8) (k:Nat) (rest:List UInt8) (v:Nat→Int) (i:Nat):Prop:=∀ x sz,Head x sz→s++[10]=Di x sz→x.kind=k∧rest=Qm (fm ((nuK x sz).drop i))∧∀ j,j < i→v j=nS x sz j
def KdI (name:List UInt8) (k kk:Nat):Prop:=(kk=0∧∀ j,1≤j→j < k→Bz j≠name)∨(1≤kk∧kk < k∧kk≤5∧Bz kk=name)
theorem Akn {name:List UInt8} {k kk:Nat} (h:KdI name k kk) (hk:1≤k∧k≤5) (he:name=Bz k):KdI name (k+1) k:=Or.inr ⟨hk.1,by omega,hk.2,he.symm⟩
theorem kd_no {name:List UInt8} {k kk:Nat} (h:KdI name k kk) (he:¬ name=Bz k):KdI name (k+1) kk:=by
 rcases h with ⟨h1,h2⟩ | ⟨h1,h2,h3,h4⟩
 ·refine Or.inl ⟨h1,fun j hj hl=>?_⟩
  rcases Nat.lt_succ_iff_lt_or_eq.1 hl with h5 | h5
  ·exact h2 j hj h5
  ·rw [h5];exact fun h=>he h.symm
 ·exact Or.inr ⟨h1,by omega,h3,h4⟩
theorem kd_le {name:List UInt8} {k kk:Nat} (h:KdI name k kk):kk≤5:=by
 rcases h with ⟨h1,_⟩ | ⟨_,_,h3,_⟩ <;> omega
theorem Ajd {s:List UInt8} {k kk:Nat} {v:Nat→Int} (h:KdI (Lib.cut s [32]).1 k kk) (hk:6≤k):RdI s kk (Lib.cut s [32]).2.1 v 0:=by
 intro x sz hh he
 have h1:=Agu he
 obtain ⟨z,zs,hz⟩:=fm_ne (k:=0) (sz:=sz) hh.kd
 have h2:Lib.cut s [32]=(Bz x.kind,Qm (z::zs),true):=by
  rw [h1,hz,Qc,Im (Pt (Or.inr rfl))]
 rw [h2] at h ⊢
 refine ⟨?_,by rw [List.drop_zero,hz],fun j hj=>by omega⟩
 rcases h with ⟨_,h4⟩ | ⟨h3,h4,h5,h6⟩
 ·exact absurd rfl (h4 x.kind hh.kd.1 (by have:=hh.kd.2;omega))
 ·exact Mt hh.kd ⟨h3,h5⟩ h6.symm
theorem Xa {x:NotD} {sz:Int} {i:Nat} (h:i < 4):fm ((nuK x sz).drop i)=(if uG x.kind i=1 then [nS x sz i] else [])++fm ((nuK x sz).drop (i+1)):=by
 have h1:(nuK x sz).drop i=(decide (uG x.kind i=1),nS x sz i)::(nuK x sz).drop (i+1):=by
  have h2:=Ajr (x:=x) (sz:=sz) h
  have h3:=List.drop_eq_getElem_cons (l:=nuK x sz) (i:=i) h
  rw [h3]
  congr 1
  rw [List.getElem?_eq_getElem (show i < (nuK x sz).length from h)] at h2
  exact Option.some.inj h2
 rw [h1,Aep]
 congr 1
 by_cases hu:uG x.kind i=1
 ·rw [if_pos hu,if_pos (decide_eq_true hu)]
 ·rw [if_neg hu,if_neg (by rw [decide_eq_false hu];exact Bool.false_ne_true)]
theorem u_01 (k i:Nat):uG k i=0∨uG k i=1:=by unfold uG;split <;> split <;> simp
theorem Ahe {x:NotD} {sz:Int} {i:Nat} (h:Head x sz) (hi:i < 4) (hu:uG x.kind i=0):nS x sz i=0:=by
 rcases (show i=0∨i=1∨i=2∨i=3 by omega) with rfl | rfl | rfl | rfl <;> simp only [uG,ite_z] at hu <;> simp only [nS]
 ·exact h.fa.resolve_left hu
 ·exact h.fc.resolve_left hu
 ·exact h.ft.resolve_left hu
 ·exact h.fi.resolve_left hu
theorem rd_skip {s:List UInt8} {k i:Nat} {rest:List UInt8} {v:Nat→Int} (h:RdI s k rest v i) (hi:i < 4) (hu:uG k i=0) (hv:v i=0):RdI s k rest v (i+1):=by
 intro x sz hh he
 obtain ⟨rfl,h2,h3⟩:=h x sz hh he
 refine ⟨rfl,?_,fun j hj=>?_⟩
 ·rw [h2,Xa hi,if_neg (by omega)];rfl
 ·rcases Nat.lt_succ_iff_lt_or_eq.1 hj with h4 | h4
  ·exact h3 j h4
  ·subst h4;rw [hv,Ahe hh hi hu]
def T6 (v:Nat→Int) (i:Nat) (z:Int):Nat→Int:=fun j=>if j=i then z else v j
theorem rd_take {s:List UInt8} {k i:Nat} {rest:List UInt8} {v:Nat→Int} {z:Int} {b:Bool} (h:RdI s k rest v i) (hi:i < 4) (hu:uG k i=1) (hn:Aog (Lib.cut rest [32]).1 z b) (hb:b=true):RdI s k (Lib.cut rest [32]).2.1 (T6 v i z) (i+1):=by
 intro x sz hh he
 obtain ⟨rfl,h2,h3⟩:=h x sz hh he
 rw [Xa hi,if_pos hu,List.singleton_append] at h2
 rw [h2] at hn ⊢
 obtain ⟨e1,e2⟩:=Z3 (z:=nS x sz i) (zs:=fm ((nuK x sz).drop (i+1)))
 rw [e1] at hn
 have hz:z=nS x sz i:=(Zn (Acd hh.ra hh.rc hh.rt hh.fl.rz) hn.1 (hn.2.1 hb)).symm
 refine ⟨rfl,e2,fun j hj=>?_⟩
 unfold T6
 rcases Nat.lt_succ_iff_lt_or_eq.1 hj with h4 | h4
 ·rw [if_neg (by omega)];exact h3 j h4
 ·rw [if_pos h4,h4,hz]
theorem rd_fail {s:List UInt8} {k i:Nat} {rest:List UInt8} {v:Nat→Int} {z:Int} {b:Bool} (h:RdI s k rest v i) (hi:i < 4) (hu:uG k i=1) (hn:Aog (Lib.cut rest [32]).1 z b) (hb:b=false):∀ x sz,Head x sz→s++[10]≠Di x sz:=by
 intro x sz hh he
 obtain ⟨rfl,h2,h3⟩:=h x sz hh he
 rw [Xa hi,if_pos hu,List.singleton_append] at h2
 rw [h2,Z3.1] at hn
 have:=hn.2.2 _ (Acd hh.ra hh.rc hh.rt hh.fl.rz) rfl
 rw [hb] at this;cases this
/-- The numbers so far: those that are not used are none. -/
structure RdV (k:Nat) (v:Nat→Int) (i:Nat):Prop where
 ink:∀ j,A2 .i64 (v j)
 un:∀ j,j < i→uG k j=0→v j=0
 ze:∀ j,i≤j→v j=0
theorem RdV.start (k:Nat):RdV k (fun _=>0) 0:=⟨fun _=>Cr (n:=0) (by decide) (by decide),fun j h=>by omega,fun _ _=>rfl⟩
theorem RdV.skip {k i:Nat} {v:Nat→Int} (h:RdV k v i):RdV k v (i+1):=⟨h.ink,fun j hj hu=>by
 rcases Nat.lt_succ_iff_lt_or_eq.1 hj with h4 | h4
 ·exact h.un j h4 hu
 ·exact h.ze j (by omega),fun j hj=>h.ze j (by omega)⟩
theorem RdV.take {k i:Nat} {v:Nat→Int} {z:Int} (h:RdV k v i) (hz:A2 .i64 z) (hu:uG k i=1):RdV k (T6 v i z) (i+1):=⟨fun j=>by unfold T6;split;exact hz;exact h.ink j,fun j hj hu2=>by
 unfold T6
 rcases Nat.lt_succ_iff_lt_or_eq.1 hj with h4 | h4
 ·rw [if_neg (by omega)];exact h.un j h4 hu2
 ·subst h4;omega,fun j hj=>by unfold T6;rw [if_neg (by omega)];exact h.ze j (by omega)⟩
def VC (v:Nat→Int):List Value:=[.int .i64 (v 0),.int .i64 (v 1),.int .i64 (v 2),.int .i64 (v 3)]
theorem vc_set {v:Nat→Int} {i:Nat} {z:Int} (h:i < 4):(VC v).set (0+i) (.int .i64 z)=VC (T6 v i z):=by
 rcases (show i=0∨i=1∨i=2∨i=3 by omega) with rfl | rfl | rfl | rfl <;> simp [VC,T6]
theorem vc_at {v:Nat→Int} {i:Nat} (h:i < 4):(VC v)[0+i]?=some (.int .i64 (v i)):=by
 rcases (show i=0∨i=1∨i=2∨i=3 by omega) with rfl | rfl | rfl | rfl <;> rfl
def rdX (k:Nat) (v:Nat→Int):NotD:=⟨k,v 0,v 1,v 2,[]⟩
theorem Aje {k i:Nat} {v:Nat→Int} (h:RdV k v i) (hi:4≤i) (hk:1≤k∧k≤5) (h3:0≤v 3∧v 3≤1024):Head (rdX k v) (v 3):=by
 have u0:=h.un 0 (by omega)
 have u1:=h.un 1 (by omega)
 have u2:=h.un 2 (by omega)
 have u3:=h.un 3 (by omega)
 simp only [uG,ite_z] at u0 u1 u2 u3
 exact ⟨hk,Classical.or_iff_not_imp_left.2 u0,Classical.or_iff_not_imp_left.2 u1,Classical.or_iff_not_imp_left.2 u2,Classical.or_iff_not_imp_left.2 u3,rfl,h.ink 0,h.ink 1,h.ink 2,h3⟩
theorem rd_x {s:List UInt8} {k i:Nat} {rest:List UInt8} {v:Nat→Int} (h:RdI s k rest v i) (hi:4≤i) {x:NotD} {sz:Int} (hh:Head x sz) (he:s++[10]=Di x sz):x=rdX k v∧sz=v 3:=by
 obtain ⟨h1,_,h2⟩:=h x sz hh he
 have e0:=h2 0 (by omega)
 have e1:=h2 1 (by omega)
 have e2:=h2 2 (by omega)
 have e3:=h2 3 (by omega)
 simp only [nS] at e0 e1 e2 e3
 refine ⟨?_,e3.symm⟩
 have h5:=hh.it
 cases x
 simp only [rdX,NotD.mk.injEq] at *
 exact ⟨h1,e0.symm,e1.symm,e2.symm,h5⟩
theorem Q6 {s:List UInt8} {k i:Nat} {rest:List UInt8} {v:Nat→Int} (h:RdI s k rest v i) (hi:4≤i) (hb:k=0∨v 3 < 0∨1024 < v 3∨Di (rdX k v) (v 3)≠s++[10]):∀ x sz,Head x sz→s++[10]≠Di x sz:=by
 intro x sz hh he
 obtain ⟨rfl,rfl⟩:=rd_x h hi hh he
 have h1:=hh.kd
 have h2:=hh.rs
 rcases hb with hb | hb | hb | hb
 ·simp only [rdX] at h1;omega
 ·omega
 ·omega
 ·exact hb he.symm
open Go Go.Y Go.Proofs
variable {w0 w:World} {G:A4} {L:List Res}
set_option linter.unusedSimpArgs false
set_option linter.unusedVariables false
theorem Hw {b:Bool} (h:(if b=true then (1:Int) else 0)=0):b=false:=by cases b;rfl;simp at h
theorem Oc {b:Bool} (h:¬ (if b=true then (1:Int) else 0)=0):b=true:=by cases b;simp at h;rfl
theorem Abo (M:Mem w0 G L w) {s:List UInt8} (hs:s.length≤9223372036854775807):Calls Tryz.prog 138 #[.string (str s)] w (Cl w0 G L fun v=>∃ (z:Int) (b:Bool),v=.tuple #[.int .i64 z,.int .i64 (if b=true then 1 else 0)]∧Aog s z b):=by
 refine Az (vs:=[_]) Tryz.func138 rfl (n:=40) rfl rfl<|Ab<|Ac<|Af rfl<|Af rfl<|Aa<|Ad<|Ab<|Ac<|Ae rfl<|Af rfl<|Af rfl<|Aa<|Ad<|Ab<|Ab<|fun a F=>Qd (fun a' w'=>∃ (bb:Bool),Fits 40 a' [(0,.string (str s)),(2,.int .i64 0),(3,.int .i64 0),(4,.string (str s)),(5,.int .i64 0),(17,.bool bb)]∧Mem w0 G (L) w'∧(bb=true↔s[0]?=some 45)) ?_ ?_
 ·skip
  revert a
  refine Ac<|Ae rfl<|Ap (fun a F=>Cq Bq.k (F.ev rfl)) rfl<|Dn rfl rfl<|Ae rfl<|?_
  rcases bE (decide (0 < (((s).length:Nat):Int))) with h1b | h3b
  ·skip
   have h1:=dT h1b
   refine g_t rfl h1b<|Ae rfl<|g_t rfl h1b<|?_
   obtain ⟨B2,hB2⟩:=Be (xs:=(s)) (i:=0) (by omega)
   have lB2:=Ox B2
   refine Ap (fun a F=>Cx (i:=0) Bq.k (F.ev rfl) (F.ev rfl) hB2) rfl<|g_t rfl h1b<|Dc rfl rfl<|Bi rfl h1b rfl<|Aa<|fun a F=>?_
   exact ⟨(decide (nb B2=45)),F.to ⟨rfl,rfl,rfl,rfl,rfl,rfl,trivial⟩,M,by rw [hB2];simp [nb_45]⟩
  ·skip
   have h3:=dF h3b
   refine g_f rfl h3b<|g_f rfl h3b<|g_f rfl h3b<|Bh rfl h3b rfl<|Aa<|fun a F=>?_
   exact ⟨false,F.to ⟨rfl,rfl,rfl,rfl,rfl,rfl,trivial⟩,M,by have h_:s=[]:=List.length_eq_zero_iff.1 (by omega);subst h_;simp⟩
 ·clear F M
  rintro a w ⟨bb,F,M,hbb⟩
  revert a
  refine Ad<|Av rfl ?_ ?_
  ·intro h4b
   have h4:(bb)=true:=h4b
   have hl1:=Bj (hbb.1 (by assumption))
   refine Ac<|Ae rfl<|Ap (fun a F=>I7 (a:=1) (b:=(s).length) (kb:=.i64) (zb:=0) Bq.k (F.ev rfl) ⟨(F.ev rfl),by omega⟩ rfl (by omega) (by omega)) rfl<|?_
   have hsl5:(s.take ((s).length)).drop 1=s.drop 1:=by rw [List.take_length]
   intro a F
   rw [hsl5] at F
   revert a
   refine Af rfl<|Af rfl<|Aa<|Ad<|Ab<|Ac<|Ae rfl<|Br Xr rfl rfl (Mn (s:=s.drop 1) M (by (first | omega | (rw [List.length_drop];omega))))<|?_;clear M;rintro _ w M ⟨u6,bu6,rfl,hpuu6⟩
   refine Ae rfl<|Ch rfl rfl<|Ch rfl rfl<|Af rfl<|Af rfl<|Aa<|Ad<|Ab<|Ac<|Ae rfl<|Ap (fun a F=>U5 T7.k ⟨_,by rw [C5 Eh.k]⟩ (F.ev rfl)) rfl<|Af rfl<|Aa<|Ad<|Ab<|Ab<|Ac<|Ae rfl<|Dc rfl rfl<|Aa<|Ad<|Bk rfl (decide_eq_true (by decide))<|Ac<|Ae rfl<|?_
   refine Ap (fun a F=>Air (F.ev rfl)) rfl<|Af rfl<|Aa<|Ad<|Ab<|Ab<|Ac<|Ae rfl<|Dc rfl rfl<|Ae rfl<|?_
   rcases bE (decide ((if bu6=true then (1:Int) else 0)=0)) with h7b | h8b
   ·skip
    have h7:=dT h7b
    refine g_f rfl h7b<|g_f rfl h7b<|g_f rfl h7b<|g_f rfl h7b<|Bi rfl h7b rfl<|Aa<|Ad<|Bk rfl rfl<|Ab<|Ac<|Af rfl<|Af rfl<|Aa<|Ad<|Aj<|Aw<|Fx rfl rfl rfl<|?_
    exact ⟨M,0,false,rfl,Q8 (fun y hy_ e_=>Adu hpuu6 (hbb.1 (by assumption)) hy_ e_) (by first | exact Or.inr (by assumption) | exact Or.inl (Hw (by assumption)))⟩
   ·skip
    have h8:=dF h8b
    refine g_t rfl h8b<|Ae rfl<|g_t rfl h8b<|Br Acv rfl rfl (Pp (z:=IntKind.i64.wrap (-(IntKind.i64.wrap ((u6:Nat):Int)))) M (Kr _))<|?_;clear M;rintro _ w M rfl
    refine g_t rfl h8b<|Ae rfl<|g_t rfl h8b<|Gw rfl rfl<|Bh rfl h8b rfl<|Aa<|Ad<|Av rfl ?_ ?_
    ·intro h9b
     have h9:=dF (Ag h9b)
     have h9c:(decide ((Lib.itoa (IntKind.i64.wrap (-(IntKind.i64.wrap ((u6:Nat):Int)))))=s))=false:=(Ag h9b)
     refine Ab<|Ac<|Af rfl<|Af rfl<|Aa<|Ad<|Aj<|Aw<|Fx rfl rfl rfl<|?_
     exact ⟨M,0,false,rfl,Q8 (fun y hy_ e_=>Adu hpuu6 (hbb.1 (by assumption)) hy_ e_) (by first | exact Or.inr (by assumption) | exact Or.inl (Hw (by assumption)))⟩
    ·intro h10b
     have h10:=dT (Ah h10b)
     have h10c:(decide ((Lib.itoa (IntKind.i64.wrap (-(IntKind.i64.wrap ((u6:Nat):Int)))))=s))=true:=(Ah h10b)
     refine Au<|Ad<|Ab<|Ac<|Ae rfl<|Af rfl<|Af rfl<|Aa<|Ad<|Aj<|Fx rfl rfl rfl<|?_
     exact ⟨M,_,true,rfl,Y1 (Kr _) (by assumption)⟩
  ·intro h11b
   have h11:(bb)=false:=h11b
   refine Au<|Ad<|Ab<|Ac<|Ae rfl<|Br Xr rfl rfl (Mn (s:=s) M (by (first | omega | (rw [List.length_drop];omega))))<|?_;clear M;rintro _ w M ⟨u12,bu12,rfl,hpuu12⟩
   refine Ae rfl<|Ch rfl rfl<|Ch rfl rfl<|Af rfl<|Af rfl<|Aa<|Ad<|Ab<|Ac<|Ae rfl<|Ap (fun a F=>U5 T7.k ⟨_,by rw [C5 Eh.k]⟩ (F.ev rfl)) rfl<|Af rfl<|Aa<|Ad<|Ab<|Ab<|Ac<|Ae rfl<|Dc rfl rfl<|Aa<|Ad<|D2 rfl (decide_eq_false (by decide))<|Au<|Ad<|?_
   refine Ab<|Ab<|Ac<|Ae rfl<|Dc rfl rfl<|Ae rfl<|?_
   rcases bE (decide ((if bu12=true then (1:Int) else 0)=0)) with h13b | h14b
   ·skip
    have h13:=dT h13b
    refine g_f rfl h13b<|g_f rfl h13b<|g_f rfl h13b<|g_f rfl h13b<|Bi rfl h13b rfl<|Aa<|Ad<|Bk rfl rfl<|Ab<|Ac<|Af rfl<|Af rfl<|Aa<|Ad<|Aj<|Aw<|Fx rfl rfl rfl<|?_
    exact ⟨M,0,false,rfl,Q8 (fun y hy_ e_=>Adt hpuu12 (fun h_=>absurd (hbb.2 h_) (by simp_all)) hy_ e_) (by first | exact Or.inr (by assumption) | exact Or.inl (Hw (by assumption)))⟩
   ·skip
    have h14:=dF h14b
    refine g_t rfl h14b<|Ae rfl<|g_t rfl h14b<|Br Acv rfl rfl (Pp (z:=IntKind.i64.wrap ((u12:Nat):Int)) M (Kr _))<|?_;clear M;rintro _ w M rfl
    refine g_t rfl h14b<|Ae rfl<|g_t rfl h14b<|Gw rfl rfl<|Bh rfl h14b rfl<|Aa<|Ad<|Av rfl ?_ ?_
    ·intro h15b
     have h15:=dF (Ag h15b)
     have h15c:(decide ((Lib.itoa (IntKind.i64.wrap ((u12:Nat):Int)))=s))=false:=(Ag h15b)
     refine Ab<|Ac<|Af rfl<|Af rfl<|Aa<|Ad<|Aj<|Aw<|Fx rfl rfl rfl<|?_
     exact ⟨M,0,false,rfl,Q8 (fun y hy_ e_=>Adt hpuu12 (fun h_=>absurd (hbb.2 h_) (by simp_all)) hy_ e_) (by first | exact Or.inr (by assumption) | exact Or.inl (Hw (by assumption)))⟩
    ·intro h16b
     have h16:=dT (Ah h16b)
     have h16c:(decide ((Lib.itoa (IntKind.i64.wrap ((u12:Nat):Int)))=s))=true:=(Ah h16b)
     refine Au<|Ad<|Ab<|Ac<|Ae rfl<|Af rfl<|Af rfl<|Aa<|Ad<|Aj<|Fx rfl rfl rfl<|?_
     exact ⟨M,_,true,rfl,Y1 (Kr _) (by assumption)⟩
theorem Yl (M:Mem w0 G L w) {s:List UInt8} (hs:s.length≤1048576):Calls Tryz.prog 91 #[.string (str s)] w (Cl w0 G L fun v=>∃ (x:NotD) (sz:Int) (b:Bool),v=.tuple #[.agg #[.int .u8 ((x.kind:Nat):Int),.int .i64 x.at_,.int .i64 x.count,.int .i64 x.to,.slice none 0 0],.int .i64 sz,.int .i64 (if b=true then 1 else 0)]∧((b=true∧Head x sz∧s++[10]=Di x sz)∨(b=false∧∀ y tz,Head y tz→s++[10]≠Di y tz))):=by
 refine Az (vs:=[_]) Tryz.func91 rfl (n:=100) rfl rfl<|Ab<|Ac<|Cz M Bf rfl rfl<|?_;clear M;intro b1 w M
 refine Af rfl<|Af rfl<|Aa<|Ad<|Ab<|Ac<|Ae rfl<|Br Nl rfl rfl (Ga (s:=s) (c:=(32:UInt8)) M (by omega))<|?_;clear M;rintro _ w M rfl
 have hclc3:=El (32:UInt8) s
 refine Ae rfl<|Ch rfl rfl<|Ch rfl rfl<|Ch rfl rfl<|Af rfl<|Af rfl<|Af rfl<|Aa<|Ad<|Ab<|Ac<|Cz M Bf rfl rfl<|?_;clear M;intro b4 w M
 refine Aa<|Ad<|Ab<|Ac<|Cz M C6 rfl rfl<|?_;clear M;intro b6 w M
 refine Aa<|Ad<|Ab<|Ab<|Ac<|Af rfl<|Aa<|Ad<|A3<|fun a F=>B8 (fun m a' w'=>∃ (k:Nat),∃ (kk:Nat),m=6 - k∧Fits 100 a' [(0,.string (str s)),(2,.pointer (some ⟨b1,0,none⟩)),(3,.int .i64 0),(4,.int .i64 0),(5,.string (str ((Lib.cut s [(32:UInt8)]).1))),(6,.string (str ((Lib.cut s [(32:UInt8)]).2.1))),(8,.pointer (some ⟨b4,0,none⟩)),(9,.pointer (some ⟨b6,0,none⟩)),(10,.int .u8 ((k:Nat):Int))]∧Mem w0 G (.blk b6 [.int .i64 0,.int .i64 0,.int .i64 0,.int .i64 0] 167::.blk b4 [.int .u8 ((kk:Nat):Int),.int .i64 0,.int .i64 0,.int .i64 0,.slice none 0 0] 65::.blk b1 [.int .u8 0,.int .i64 0,.int .i64 0,.int .i64 0,.slice none 0 0] 65::L) w'∧(1≤k∧k≤6)∧(KdI (Lib.cut s [32]).1 k kk)) _ ⟨1,0,rfl,F.to ⟨rfl,rfl,rfl,rfl,rfl,rfl,rfl,rfl,rfl,trivial⟩,M,by omega,Or.inl ⟨rfl,fun j h1 h2=>by omega⟩⟩ ?_
 clear F M
 rintro m a w ⟨k,kk,rfl,F,M,hk,hK⟩
 revert a
 refine Ab<|Ab<|Ac<|Ae rfl<|Df rfl rfl<|Aa<|Ad<|Av rfl ?_ ?_
 ·intro h8b
  have h8:=dT h8b
  refine Au<|Ad<|Ab<|A3<|Ab<|Ac<|Ae rfl<|fun a F=>?_
  refine Ef F M Cd.k Bq (ps:=[(0,.string (str ([]:List UInt8))),(1,.string (str ([105,110,115,101,114,116]:List UInt8))),(2,.string (str ([114,101,109,111,118,101]:List UInt8))),(3,.string (str ([109,111,118,101]:List UInt8))),(4,.string (str ([99,104,97,110,103,101]:List UInt8))),(5,.string (str ([114,101,115,101,116]:List UInt8)))]) (cs:=[[.string (str ([]:List UInt8))],[.string (str ([105,110,115,101,114,116]:List UInt8))],[.string (str ([114,101,109,111,118,101]:List UInt8))],[.string (str ([109,111,118,101]:List UInt8))],[.string (str ([99,104,97,110,103,101]:List UInt8))],[.string (str ([114,101,115,101,116]:List UInt8))]]) (fl:=[.string (str ([]:List UInt8)),.string (str ([105,110,115,101,114,116]:List UInt8)),.string (str ([114,101,109,111,118,101]:List UInt8)),.string (str ([109,111,118,101]:List UInt8)),.string (str ([99,104,97,110,103,101]:List UInt8)),.string (str ([114,101,115,101,116]:List UInt8))]) rfl rfl (by simp [Lh,Value.cells]) (by simp [ti9]) rfl (by simp [Value.oneCell']) (by decide) (by decide) rfl ?_;clear F M a;intro v9 w a M F
  obtain ⟨av9,cv9,rfl,hlev9,hcmv9,hlv9⟩:=M.row_shape (k:=0) rfl
  have En10:Els Dw 1 G [.string (str ([]:List UInt8)),.string (str ([105,110,115,101,114,116]:List UInt8)),.string (str ([114,101,109,111,118,101]:List UInt8)),.string (str ([109,111,118,101]:List UInt8)),.string (str ([99,104,97,110,103,101]:List UInt8)),.string (str ([114,101,115,101,116]:List UInt8))] Sz:=Kn Sz (by intro y hy;simp only [Sz,List.mem_cons,List.not_mem_nil,or_false] at hy;rcases hy with rfl | rfl | rfl | rfl | rfl | rfl <;> decide)
  revert a
  refine Ae rfl<|?_
  obtain ⟨be11,_,Ie11,hme11,_,Ae11,⟨rfl,hsle11⟩⟩:=M.atRow (k:=0) rfl (by decide) En10 (Adv (k:=k) (by omega))
  refine Fp Cd.k Bq Ie11 rfl rfl<|Aip Bq Ae11 0 rfl rfl (by omega) rfl<|F0 rfl rfl<|Aa<|Ad<|Av rfl ?_ ?_
  ·intro h12b
   have h12:=dT h12b
   refine Ac<|Ae rfl<|Bc Bf.k rfl rfl<|Fo Ew M 2 rfl rfl rfl rfl rfl rfl<|?_;clear M;intro w M
   refine Aa<|C0<|Ad<|Ac<|Ae rfl<|Ap (fun a F=>Fj (F.ev rfl) (F.ev rfl) (Zq (by omega) (by omega))) rfl<|Af rfl<|Aa<|Ad<|fun a F=>?_
   exact ⟨_,by omega,k+1,k,rfl,F.to ⟨rfl,rfl,rfl,rfl,rfl,rfl,rfl,rfl,rfl,trivial⟩,(M.weaken (.cons _ (.cons_cons _ (.cons_cons _ (.cons_cons _ (sR _)))))),by omega,(by first | exact Akn hK (by omega) (by assumption) | exact kd_no hK (by assumption))⟩
  ·intro h13b
   have h13:=dF h13b
   refine Au<|C0<|Ad<|Ac<|Ae rfl<|Ap (fun a F=>Fj (F.ev rfl) (F.ev rfl) (Zq (by omega) (by omega))) rfl<|Af rfl<|Aa<|Ad<|fun a F=>?_
   exact ⟨_,by omega,k+1,kk,rfl,F.to ⟨rfl,rfl,rfl,rfl,rfl,rfl,rfl,rfl,rfl,trivial⟩,(M.weaken (.cons _ (.cons_cons _ (.cons_cons _ (.cons_cons _ (sR _)))))),by omega,(by first | exact Akn hK (by omega) (by assumption) | exact kd_no hK (by assumption))⟩
 ·intro h14b
  have h14:=dF h14b
  refine B1<|Bx<|Bx<|Dj<|Ad<|Ab<|?_
  have hk5:=kd_le hK
  refine Ac<|Bc Bf.k rfl rfl<|Bl Ew M 1 rfl rfl rfl rfl<|Br ent93 rfl rfl (Rw (k:=kk) M)<|?_;clear M;rintro _ w M rfl
  refine Cz M C6 rfl rfl<|?_;clear M;intro b15 w M
  intro a F
  refine Ar F M C6 (k:=0) rfl rfl rfl (us:=[.int .i64 (uG kk 0),.int .i64 (uG kk 1),.int .i64 (uG kk 2),.int .i64 (uG kk 3)]) rfl rfl (by simp [Value.oneCell']) (by simp) ?_;clear F M a;intro w a M F
  change Mem w0 G (.blk b15 [.int .i64 (uG kk 0),.int .i64 (uG kk 1),.int .i64 (uG kk 2),.int .i64 (uG kk 3)] 167::_::_::_::L) _ at M
  revert a
  refine Aa<|Ad<|Ab<|Ab<|Ac<|Af rfl<|Aa<|Ad<|A3<|fun a F=>B8 (fun m a' w'=>∃ (i:Nat),∃ (rest:List UInt8),∃ (v:Nat→Int),m=4 - i∧Fits 100 a' [(0,.string (str s)),(2,.pointer (some ⟨b1,0,none⟩)),(3,.int .i64 0),(4,.int .i64 0),(8,.pointer (some ⟨b4,0,none⟩)),(9,.pointer (some ⟨b6,0,none⟩)),(11,.pointer (some ⟨b15,0,none⟩)),(6,.string (str rest)),(12,.int .i64 ((i:Nat):Int))]∧Mem w0 G (.blk b15 [.int .i64 (uG kk 0),.int .i64 (uG kk 1),.int .i64 (uG kk 2),.int .i64 (uG kk 3)] 167::.blk b6 (VC v) 167::.blk b4 [.int .u8 ((kk:Nat):Int),.int .i64 0,.int .i64 0,.int .i64 0,.slice none 0 0] 65::.blk b1 [.int .u8 0,.int .i64 0,.int .i64 0,.int .i64 0,.slice none 0 0] 65::L) w'∧(i≤4)∧(RdI s kk rest v i)∧(RdV kk v i)∧(rest.length≤s.length)) _ ⟨0,(Lib.cut s [(32:UInt8)]).2.1,(fun _=>0),rfl,F.to ⟨rfl,rfl,rfl,rfl,rfl,rfl,rfl,rfl,rfl,trivial⟩,M,by omega,Ajd hK (by omega),RdV.start _,by omega⟩ ?_
  clear F M
  rintro m a w ⟨i,rest,v,rfl,F,M,hi,hR,hV,hrl⟩
  revert a
  refine Ab<|Ab<|Ac<|Ae rfl<|Df rfl rfl<|Aa<|Ad<|Av rfl ?_ ?_
  ·intro h17b
   have h17:=dT h17b
   refine Au<|Ad<|Ab<|A3<|Ab<|Ab<|Ac<|Ae rfl<|Ap (fun a F=>Fi (j:=i) C6.k B7 rfl (F.ev rfl) (F.ev rfl) (by omega) (by omega)) rfl<|Ap (fun a F=>Aq (agf B7 rfl) (F.ev rfl) (M.cellL (k:=0) rfl (Aij (i:=i) (by omega)))) rfl<|Dc rfl rfl<|Aa<|Ad<|Av rfl ?_ ?_
   ·intro h18b
    have h18:=dT h18b
    refine B1<|Bx<|Dj<|Ad<|Ac<|Ae rfl<|B9 rfl rfl<|Af rfl<|Aa<|Ad<|fun a F=>?_
    exact ⟨_,by omega,i+1,rest,v,rfl,F.to ⟨rfl,rfl,rfl,rfl,rfl,rfl,rfl,rfl,rfl,trivial⟩,M,by omega,rd_skip hR (by omega) (by assumption) (hV.ze i (by omega)),hV.skip,hrl⟩
   ·intro h19b
    have h19:=dF h19b
    refine Au<|Ad<|Ab<|?_
    have hu1:uG kk i=1:=(u_01 kk i).resolve_left (by assumption)
    refine Ac<|Ae rfl<|Br Nl rfl rfl (Ga (s:=rest) (c:=(32:UInt8)) M (by omega))<|?_;clear M;rintro _ w M rfl
    have hclc20:=El (32:UInt8) rest
    refine Ae rfl<|Ch rfl rfl<|Ch rfl rfl<|Ch rfl rfl<|Af rfl<|Af rfl<|Af rfl<|Aa<|Ad<|Ab<|Ac<|Ae rfl<|Br ent138 rfl rfl (Abo (s:=((Lib.cut rest [(32:UInt8)]).1)) M (by omega))<|?_;clear M;rintro _ w M ⟨z21,bz21,rfl,hnz21⟩
    refine Ae rfl<|Ch rfl rfl<|Ch rfl rfl<|Af rfl<|Af rfl<|Aa<|Ad<|Ab<|Ab<|Ac<|Ae rfl<|Dc rfl rfl<|Aa<|Ad<|Av rfl ?_ ?_
    ·intro h22b
     have h22:=dT h22b
     refine Ab<|Ac<|Ap (fun a F=>Am Bf rfl (F.ev rfl) (cs:=[.int .u8 ((kk:Nat):Int),.int .i64 0,.int .i64 0,.int .i64 0,.slice none 0 0]) rfl (M.cellsL (k:=2) rfl rfl)) rfl<|fun a F=>?_
     refine Ar F M Bf (k:=3) rfl rfl rfl (us:=[.int .u8 ((kk:Nat):Int),.int .i64 0,.int .i64 0,.int .i64 0,.slice none 0 0]) rfl rfl (by simp [Value.oneCell']) (by simp) ?_;clear F M a;intro w a M F
     change Mem w0 G (.blk b15 [.int .i64 (uG kk 0),.int .i64 (uG kk 1),.int .i64 (uG kk 2),.int .i64 (uG kk 3)] 167::_::_::.blk b1 [.int .u8 ((kk:Nat):Int),.int .i64 0,.int .i64 0,.int .i64 0,.slice none 0 0] 65::L) _ at M
     revert a
     refine Af rfl<|Af rfl<|Aa<|Ad<|Aj<|Aw<|Bo<|Aw<|Aw<|Bo<|Aw<|fun a F=>Il F M (k:=3) rfl rfl Bf rfl rfl rfl rfl rfl ?_
     exact ⟨M.weaken (.cons _ (.cons _ (.cons _ (.cons _ (sR _))))),⟨kk,0,0,0,[]⟩,0,false,rfl,Or.inr ⟨rfl,rd_fail hR (by omega) hu1 hnz21 (Hw (by assumption))⟩⟩
    ·intro h23b
     have h23:=dF h23b
     refine Au<|Ad<|Ab<|Ac<|Ae rfl<|Ae rfl<|Ap (fun a F=>Fi (j:=i) C6.k B7 rfl (F.ev rfl) (F.ev rfl) (by omega) (by omega)) rfl<|fun a F=>?_
     refine Dm F M B7 rfl (k:=1) rfl rfl rfl rfl (vc_at (by omega)) ?_;clear F M a;intro w a M F
     rw [vc_set (by omega)] at M
     change Mem w0 G (.blk b15 [.int .i64 (uG kk 0),.int .i64 (uG kk 1),.int .i64 (uG kk 2),.int .i64 (uG kk 3)] 167::.blk b6 (VC (T6 v i z21)) 167::.blk b4 [.int .u8 ((kk:Nat):Int),.int .i64 0,.int .i64 0,.int .i64 0,.slice none 0 0] 65::.blk b1 [.int .u8 0,.int .i64 0,.int .i64 0,.int .i64 0,.slice none 0 0] 65::L) _ at M
     revert a
     refine Aa<|Ad<|Ac<|Ae rfl<|Af rfl<|Aa<|C0<|Ad<|Ac<|Ae rfl<|B9 rfl rfl<|Af rfl<|Aa<|Ad<|fun a F=>?_
     exact ⟨_,by omega,i+1,(Lib.cut rest [(32:UInt8)]).2.1,(T6 v i z21),rfl,F.to ⟨rfl,rfl,rfl,rfl,rfl,rfl,rfl,rfl,rfl,trivial⟩,M,by omega,rd_take hR (by omega) hu1 hnz21 (Oc (by assumption)),hV.take hnz21.1 hu1,by omega⟩
  ·intro h24b
   have h24:=dF h24b
   refine B1<|Bx<|Bx<|Dj<|Ad<|Ab<|fun a F=>Fw [(true,0),(true,1),(true,2),(true,3),(true,4),(true,5),(true,6),(false,7),(true,8),(false,9),(true,10),(false,11)] (Keep G [.blk b6 (VC v) 167]) rfl (by kernel_rfl) (fun c a d v w h=>by cases d <;> exact h) ((M.drew _).keep (Gle.refl _) (by simp)) ?_
   replace M:=M.drew (w.drawn+1)
   revert a
   refine l_r (fun a F w M=>Fi (j:=0) C6.k B7 rfl (F.ev rfl) (F.ev rfl) (by first | omega | rfl) (by decide)) rfl<|l_r (fun a F w M=>Aq (agf B7 rfl) (F.ev rfl) (M.cellL (k:=0) rfl rfl)) rfl<|l_r (fun a F w M=>Fi (j:=1) C6.k B7 rfl (F.ev rfl) (F.ev rfl) (by first | omega | rfl) (by decide)) rfl<|l_r (fun a F w M=>Aq (agf B7 rfl) (F.ev rfl) (M.cellL (k:=0) rfl rfl)) rfl<|l_r (fun a F w M=>Fi (j:=2) C6.k B7 rfl (F.ev rfl) (F.ev rfl) (by first | omega | rfl) (by decide)) rfl<|l_r (fun a F w M=>Aq (agf B7 rfl) (F.ev rfl) (M.cellL (k:=0) rfl rfl)) rfl<|l_r (fun a F w M=>Co Bf.k rfl F rfl) rfl<|l_a rfl<|Fo B7 M 2 rfl rfl rfl rfl rfl rfl<|?_;clear M;intro w M
   iterate 2 (refine Aa<|eK (C':=Keep G [.blk b6 (VC v) 167]) (M.keep (Gle.refl _) (by simp)) (fun w h=>h.mono (Gle.refl _) (by simp))<|l_r (fun a F w M=>Co Bf.k rfl F rfl) rfl<|l_a rfl<|Fo B7 M 2 rfl rfl rfl rfl rfl rfl<|?_;clear M;intro w M)
   refine Aa<|eK (C':=Keep G [.blk b6 (VC v) 167]) (M.keep (Gle.refl _) (by simp)) (fun w h=>h.mono (Gle.refl _) (by simp))<|Gx<|Ad<|Ab<|Ab<|Ac<|Bc Bf.k rfl rfl<|Bl Ew M 2 rfl rfl rfl rfl<|Dc rfl rfl<|Ae rfl<|?_
   rcases bE (decide (((kk:Nat):Int)=0)) with h25b | h26b
   ·skip
    have h25:=dT h25b
    refine g_f rfl h25b<|g_f rfl h25b<|g_f rfl h25b<|Bi rfl h25b rfl<|Ae rfl<|g_f rfl rfl<|g_f rfl rfl<|g_f rfl rfl<|Bi rfl rfl rfl<|Ae rfl<|g_f rfl rfl<|g_f rfl rfl<|g_f rfl rfl<|g_f rfl rfl<|g_f rfl rfl<|g_f rfl rfl<|g_f rfl rfl<|Bi rfl rfl rfl<|Aa<|Ad<|Bk rfl rfl<|Ab<|Ac<|Ap (fun a F=>Am Bf rfl (F.ev rfl) (cs:=[.int .u8 ((kk:Nat):Int),.int .i64 (v 0),.int .i64 (v 1),.int .i64 (v 2),.slice none 0 0]) rfl (M.cellsL (k:=2) rfl rfl)) rfl<|?_
    intro a F
    refine Ar F M Bf (k:=3) rfl rfl rfl (us:=[.int .u8 ((kk:Nat):Int),.int .i64 (v 0),.int .i64 (v 1),.int .i64 (v 2),.slice none 0 0]) rfl rfl (by simp [Value.oneCell']) (by simp) ?_;clear F M a;intro w a M F
    change Mem w0 G (.blk b15 [.int .i64 (uG kk 0),.int .i64 (uG kk 1),.int .i64 (uG kk 2),.int .i64 (uG kk 3)] 167::_::.blk b4 [.int .u8 ((kk:Nat):Int),.int .i64 (v 0),.int .i64 (v 1),.int .i64 (v 2),.slice none 0 0] 65::.blk b1 [.int .u8 ((kk:Nat):Int),.int .i64 (v 0),.int .i64 (v 1),.int .i64 (v 2),.slice none 0 0] 65::L) _ at M
    revert a
    refine Af rfl<|Af rfl<|Aa<|Ad<|Aj<|Aw<|fun a F=>Il F M (k:=3) rfl rfl Bf rfl rfl rfl rfl rfl ?_
    exact ⟨M.weaken (.cons _ (.cons _ (.cons _ (.cons _ (sR _))))),rdX kk v,0,false,rfl,Or.inr ⟨rfl,Q6 hR (by omega) (by first | exact Or.inl (by omega) | exact Or.inr (Or.inl (by omega)) | exact Or.inr (Or.inr (Or.inl (by omega))) | exact Or.inr (Or.inr (Or.inr (by assumption))))⟩⟩
   ·skip
    have h26:=dF h26b
    refine g_t rfl h26b<|Ap (fun a F=>Fi (j:=3) C6.k B7 rfl (F.ev rfl) (F.ev rfl) (by first | omega | rfl) (by decide)) rfl<|g_t rfl h26b<|Bl B7 M 1 rfl rfl rfl rfl<|g_t rfl h26b<|Df rfl rfl<|Bh rfl h26b rfl<|Ae rfl<|?_
    rcases bE (decide (v 3 < 0)) with h27b | h28b
    ·skip
     have h27:=dT h27b
     refine g_f rfl h27b<|g_f rfl h27b<|g_f rfl h27b<|Bi rfl h27b rfl<|Ae rfl<|g_f rfl rfl<|g_f rfl rfl<|g_f rfl rfl<|g_f rfl rfl<|g_f rfl rfl<|g_f rfl rfl<|g_f rfl rfl<|Bi rfl rfl rfl<|Aa<|Ad<|Bk rfl rfl<|Ab<|Ac<|Ap (fun a F=>Am Bf rfl (F.ev rfl) (cs:=[.int .u8 ((kk:Nat):Int),.int .i64 (v 0),.int .i64 (v 1),.int .i64 (v 2),.slice none 0 0]) rfl (M.cellsL (k:=2) rfl rfl)) rfl<|fun a F=>?_
     refine Ar F M Bf (k:=3) rfl rfl rfl (us:=[.int .u8 ((kk:Nat):Int),.int .i64 (v 0),.int .i64 (v 1),.int .i64 (v 2),.slice none 0 0]) rfl rfl (by simp [Value.oneCell']) (by simp) ?_;clear F M a;intro w a M F
     change Mem w0 G (.blk b15 [.int .i64 (uG kk 0),.int .i64 (uG kk 1),.int .i64 (uG kk 2),.int .i64 (uG kk 3)] 167::_::.blk b4 [.int .u8 ((kk:Nat):Int),.int .i64 (v 0),.int .i64 (v 1),.int .i64 (v 2),.slice none 0 0] 65::.blk b1 [.int .u8 ((kk:Nat):Int),.int .i64 (v 0),.int .i64 (v 1),.int .i64 (v 2),.slice none 0 0] 65::L) _ at M
     revert a
     refine Af rfl<|Af rfl<|Aa<|Ad<|Aj<|Aw<|fun a F=>Il F M (k:=3) rfl rfl Bf rfl rfl rfl rfl rfl ?_
     exact ⟨M.weaken (.cons _ (.cons _ (.cons _ (.cons _ (sR _))))),rdX kk v,0,false,rfl,Or.inr ⟨rfl,Q6 hR (by omega) (by first | exact Or.inl (by omega) | exact Or.inr (Or.inl (by omega)) | exact Or.inr (Or.inr (Or.inl (by omega))) | exact Or.inr (Or.inr (Or.inr (by assumption))))⟩⟩
    ·skip
     have h28:=dF h28b
     refine g_t rfl h28b<|Ap (fun a F=>Fi (j:=3) C6.k B7 rfl (F.ev rfl) (F.ev rfl) (by first | omega | rfl) (by decide)) rfl<|g_t rfl h28b<|Bl B7 M 1 rfl rfl rfl rfl<|g_t rfl h28b<|Dn rfl rfl<|Bh rfl h28b rfl<|Ae rfl<|?_
     rcases bE (decide (1024 < v 3)) with h29b | h30b
     ·skip
      have h29:=dT h29b
      refine g_f rfl h29b<|g_f rfl h29b<|g_f rfl h29b<|g_f rfl h29b<|g_f rfl h29b<|g_f rfl h29b<|g_f rfl h29b<|Bi rfl h29b rfl<|Aa<|Ad<|Bk rfl rfl<|Ab<|Ac<|Ap (fun a F=>Am Bf rfl (F.ev rfl) (cs:=[.int .u8 ((kk:Nat):Int),.int .i64 (v 0),.int .i64 (v 1),.int .i64 (v 2),.slice none 0 0]) rfl (M.cellsL (k:=2) rfl rfl)) rfl<|fun a F=>?_
      refine Ar F M Bf (k:=3) rfl rfl rfl (us:=[.int .u8 ((kk:Nat):Int),.int .i64 (v 0),.int .i64 (v 1),.int .i64 (v 2),.slice none 0 0]) rfl rfl (by simp [Value.oneCell']) (by simp) ?_;clear F M a;intro w a M F
      change Mem w0 G (.blk b15 [.int .i64 (uG kk 0),.int .i64 (uG kk 1),.int .i64 (uG kk 2),.int .i64 (uG kk 3)] 167::_::.blk b4 [.int .u8 ((kk:Nat):Int),.int .i64 (v 0),.int .i64 (v 1),.int .i64 (v 2),.slice none 0 0] 65::.blk b1 [.int .u8 ((kk:Nat):Int),.int .i64 (v 0),.int .i64 (v 1),.int .i64 (v 2),.slice none 0 0] 65::L) _ at M
      revert a
      refine Af rfl<|Af rfl<|Aa<|Ad<|Aj<|Aw<|fun a F=>Il F M (k:=3) rfl rfl Bf rfl rfl rfl rfl rfl ?_
      exact ⟨M.weaken (.cons _ (.cons _ (.cons _ (.cons _ (sR _))))),rdX kk v,0,false,rfl,Or.inr ⟨rfl,Q6 hR (by omega) (by first | exact Or.inl (by omega) | exact Or.inr (Or.inl (by omega)) | exact Or.inr (Or.inr (Or.inl (by omega))) | exact Or.inr (Or.inr (Or.inr (by assumption))))⟩⟩
     ·skip
      have h30:=dF h30b
      refine g_t rfl h30b<|Ap (fun a F=>Am Bf rfl (F.ev rfl) (cs:=[.int .u8 ((kk:Nat):Int),.int .i64 (v 0),.int .i64 (v 1),.int .i64 (v 2),.slice none 0 0]) rfl (M.cellsL (k:=2) rfl rfl)) rfl<|g_t rfl h30b<|Ap (fun a F=>Fi (j:=3) C6.k B7 rfl (F.ev rfl) (F.ev rfl) (by first | omega | rfl) (by decide)) rfl<|g_t rfl h30b<|Bl B7 M 1 rfl rfl rfl rfl<|g_t rfl h30b<|Br ent81 rfl rfl (Ym (x:=rdX kk v) (sz:=v 3) M ⟨by show kk < 256;omega,hV.ink 0,hV.ink 1,hV.ink 2,Nat.zero_le _⟩ Ay.nil (hV.ink 3) (by show kk≤5;omega))<|?_;clear M;rintro _ w M rfl
      refine g_t rfl h30b<|Ae rfl<|g_t rfl h30b<|Ap (fun a F=>Bv (F.ev rfl) (F.ev rfl) (by (simp only [List.length_append,List.length_cons,List.length_nil];omega))) rfl<|g_t rfl h30b<|Gw rfl rfl<|Bh rfl h30b rfl<|Aa<|Ad<|Av rfl ?_ ?_
      ·intro h31b
       have h31:=dF (Ag h31b)
       have h31c:(decide ((Di (rdX kk v) (v 3))=(s++([10]:List UInt8))))=false:=(Ag h31b)
       refine Ab<|Ac<|Ap (fun a F=>Am Bf rfl (F.ev rfl) (cs:=[.int .u8 ((kk:Nat):Int),.int .i64 (v 0),.int .i64 (v 1),.int .i64 (v 2),.slice none 0 0]) rfl (M.cellsL (k:=2) rfl rfl)) rfl<|fun a F=>?_
       refine Ar F M Bf (k:=3) rfl rfl rfl (us:=[.int .u8 ((kk:Nat):Int),.int .i64 (v 0),.int .i64 (v 1),.int .i64 (v 2),.slice none 0 0]) rfl rfl (by simp [Value.oneCell']) (by simp) ?_;clear F M a;intro w a M F
       change Mem w0 G (.blk b15 [.int .i64 (uG kk 0),.int .i64 (uG kk 1),.int .i64 (uG kk 2),.int .i64 (uG kk 3)] 167::_::.blk b4 [.int .u8 ((kk:Nat):Int),.int .i64 (v 0),.int .i64 (v 1),.int .i64 (v 2),.slice none 0 0] 65::.blk b1 [.int .u8 ((kk:Nat):Int),.int .i64 (v 0),.int .i64 (v 1),.int .i64 (v 2),.slice none 0 0] 65::L) _ at M
       revert a
       refine Af rfl<|Af rfl<|Aa<|Ad<|Aj<|Aw<|fun a F=>Il F M (k:=3) rfl rfl Bf rfl rfl rfl rfl rfl ?_
       exact ⟨M.weaken (.cons _ (.cons _ (.cons _ (.cons _ (sR _))))),rdX kk v,0,false,rfl,Or.inr ⟨rfl,Q6 hR (by omega) (by first | exact Or.inl (by omega) | exact Or.inr (Or.inl (by omega)) | exact Or.inr (Or.inr (Or.inl (by omega))) | exact Or.inr (Or.inr (Or.inr (by assumption))))⟩⟩
      ·intro h32b
       have h32:=dT (Ah h32b)
       have h32c:(decide ((Di (rdX kk v) (v 3))=(s++([10]:List UInt8))))=true:=(Ah h32b)
       refine Au<|Ad<|Ab<|fun a F=>Fw [(true,0),(true,1),(true,2),(false,3),(true,4),(true,5)] (Keep G [.blk b6 (VC v) 167,.blk b4 [.int .u8 ((kk:Nat):Int),.int .i64 (v 0),.int .i64 (v 1),.int .i64 (v 2),.slice none 0 0] 65]) rfl (by kernel_rfl) (fun c a d v w h=>by cases d <;> exact h) ((M.drew _).keep (Gle.refl _) (by simp)) ?_
       replace M:=M.drew (w.drawn+1)
       revert a
       refine l_r (fun a F w M=>Am Bf rfl (F.ev rfl) (cs:=[.int .u8 ((kk:Nat):Int),.int .i64 (v 0),.int .i64 (v 1),.int .i64 (v 2),.slice none 0 0]) rfl (M.cellsL (k:=1) rfl rfl)) rfl<|l_r (fun a F w M=>Fi (j:=3) C6.k B7 rfl (F.ev rfl) (F.ev rfl) (by first | omega | rfl) (by decide)) rfl<|l_r (fun a F w M=>Aq (agf B7 rfl) (F.ev rfl) (M.cellL (k:=0) rfl rfl)) rfl<|l_a rfl<|fun a F=>?_
       refine Ar F M Bf (k:=3) rfl rfl rfl (us:=[.int .u8 ((kk:Nat):Int),.int .i64 (v 0),.int .i64 (v 1),.int .i64 (v 2),.slice none 0 0]) rfl rfl (by simp [Value.oneCell']) (by simp) ?_;clear F M a;intro w a M F
       change Mem w0 G (.blk b15 [.int .i64 (uG kk 0),.int .i64 (uG kk 1),.int .i64 (uG kk 2),.int .i64 (uG kk 3)] 167::_::.blk b4 [.int .u8 ((kk:Nat):Int),.int .i64 (v 0),.int .i64 (v 1),.int .i64 (v 2),.slice none 0 0] 65::.blk b1 [.int .u8 ((kk:Nat):Int),.int .i64 (v 0),.int .i64 (v 1),.int .i64 (v 2),.slice none 0 0] 65::L) _ at M
       revert a
       refine Aa<|eK (C':=Keep G [.blk b6 (VC v) 167,.blk b4 [.int .u8 ((kk:Nat):Int),.int .i64 (v 0),.int .i64 (v 1),.int .i64 (v 2),.slice none 0 0] 65]) (M.keep (Gle.refl _) (by simp)) (fun w h=>h.mono (Gle.refl _) (by simp))<|l_r (fun a F w M=>Gm F rfl) rfl<|l_r (fun a F w M=>Gm F rfl) rfl<|Gx<|Ad<|Aj<|fun a F=>Il F M (k:=3) rfl rfl Bf rfl rfl rfl rfl rfl ?_
       exact ⟨M.weaken (.cons _ (.cons _ (.cons _ (.cons _ (sR _))))),rdX kk v,v 3,true,rfl,Or.inl ⟨rfl,Aje hV (by omega) (by omega) (by omega),Eq.symm (by assumption)⟩⟩
open Go Go.Y Go.RowKit
set_option linter.unusedSimpArgs false
set_option linter.unusedVariables false
/-- A notice, or one whose items are still being read: the value of their slice. -/
def L0:Rd (NotD × Option Value):=fun G cs y=>match y.2 with
 | none=>Fb G cs y.1
 | some v=>cs=[.int .u8 ((y.1.kind:Nat):Int),.int .i64 y.1.at_,.int .i64 y.1.count,.int .i64 y.1.to,v]
theorem Iv:I9 L0:=by
 rintro G G' cs ⟨x,v⟩ h hr
 cases v with
 | none=>exact Bm _ _ _ _ h hr
 | some v=>exact hr
theorem Y3 {G:A4} {x:NotD} {v v':Value}:∀ ch:List Value,ch.length=5→L0 G ch (x,some v)→L0 G (ch.set 4 v') (x,some v'):=by
 intro ch _ h
 have h:ch=_:=h
 subst h;rfl
def Oe (xs:List NotD):List (NotD × Option Value):=xs.map fun y=>(y,none)
theorem Mm (xs:List NotD):(Oe xs).length=xs.length:=List.length_map _
theorem Us {G:A4}:∀ {xs:List NotD} {cs:List Value},Els Fb 5 G cs xs→Els L0 5 G cs (Oe xs)
 | [],_,h=>h
 | x::xs,cs,⟨c1,r,h1,h2,h3,h4⟩=>⟨c1,r,h1,h2,h3,Us h4⟩
/-- The last notice is given its items. -/
theorem Vd {G:A4} {x:NotD} {v:Value} {ys:List ItemD} {a:Option Addr} {c:Nat} (hv:v=.slice a ys.length c) (S:Ay Cn 4 G (.slice a ys.length c) ys) (hx:x.kind < 256∧A2 .i64 x.at_∧A2 .i64 x.count∧A2 .i64 x.to) (hl:ys.length≤9223372036854775807) :
  ∀ {xs:List NotD} {cs:List Value},Els L0 5 G cs (Oe xs++[(x,some v)])→Els Fb 5 G cs (xs++[{ x with items:=ys }])
 | [],cs,⟨c1,r,h1,h2,h3,h4⟩=>by
  have h3:c1=_:=h3
  subst h3 hv
  exact ⟨_,r,h1,h2,⟨a,c,rfl,hx.1,hx.2.1,hx.2.2.1,hx.2.2.2,hl,S⟩,h4⟩
 | y::xs,cs,⟨c1,r,h1,h2,h3,h4⟩=>⟨c1,r,h1,h2,h3,Vd hv S hx hl h4⟩
theorem Alb {x:NotD} {sz:Int} (h:Head x sz):x.kind < 256∧A2 .i64 x.at_∧A2 .i64 x.count∧A2 .i64 x.to:=⟨by have:=h.kd;omega,h.ra,h.rc,h.rt⟩
/-- Between two notices. -/
structure RpA (s c:List UInt8) (G:A4) (no:Nat) (cso:List Value) (line:Nat) (xs:List NotD):Prop where
 els:Els Fb 5 G cso xs
 len:no=xs.length
 few:xs.length≤32
 at_:line=nlN xs
 suf:line+c.length≤s.length
 go:∀ r,PR xs c r→PR [] s r
/-- Within a notice. -/
structure RpB (s c:List UInt8) (G:A4) (vi:Value) (ni:Nat) (csi:List Value) (no:Nat) (cso:List Value) (left line:Nat) (xs:List NotD) (x:NotD) (sz:Int) (ys:List ItemD):Prop where
 els:Els L0 5 G cso (Oe xs++[(x,some vi)])
 its:Els Cn 4 G csi ys
 nit:ni=ys.length
 len:no=xs.length+1
 few:xs.length < 32
 hd:Head x sz
 ok:okI ys
 lf:((left:Nat):Int)=sz - ys.length
 pos:0 < left
 at_:line=nlN xs+1+ys.length
 suf:line+c.length≤s.length
 go:∀ r,PR xs (Di x sz++(C1 ys++c)) r→PR [] s r
theorem RpA.mono {s c:List UInt8} {G G':A4} {no line:Nat} {cso:List Value} {xs:List NotD} (h:RpA s c G no cso line xs) (hG:Gle G G'):RpA s c G' no cso line xs:={ h with els:=h.els.mono Bm hG }
theorem RpB.mono {s c:List UInt8} {G G':A4} {vi:Value} {ni no left line:Nat} {csi cso:List Value} {xs:List NotD} {x:NotD} {sz:Int} {ys:List ItemD} (h:RpB s c G vi ni csi no cso left line xs x sz ys) (hG:Gle G G'):RpB s c G' vi ni csi no cso left line xs x sz ys:={ h with els:=h.els.mono Iv hG,its:=h.its.mono A0 hG }
def RpS (s c:List UInt8) (G:A4) (vi:Value) (ni:Nat) (csi:List Value) (no:Nat) (cso:List Value) (left line:Nat):Prop :=
 (left=0∧∃ xs,RpA s c G no cso line xs)∨∃ xs x sz ys,RpB s c G vi ni csi no cso left line xs x sz ys
theorem RpS.mono {s c:List UInt8} {G G':A4} {vi:Value} {ni no left line:Nat} {csi cso:List Value} (h:RpS s c G vi ni csi no cso left line) (hG:Gle G G'):RpS s c G' vi ni csi no cso left line:=by
 rcases h with ⟨h1,xs,h⟩ | ⟨xs,x,sz,ys,h⟩
 ·exact Or.inl ⟨h1,xs,h.mono hG⟩
 ·exact Or.inr ⟨xs,x,sz,ys,h.mono hG⟩
theorem Aiu {s:List UInt8} {G:A4} {vi:Value}:RpS s s G vi 0 [] 0 [] 0 0 :=
 Or.inl ⟨rfl,[],⟨rfl,rfl,by decide,rfl,by omega,fun r h=>h⟩⟩
/-- A line is taken. -/
theorem Gu {c:List UInt8} (h:(Lib.cut c [10]).2.2=true):(Lib.cut c [10]).1.length+1+(Lib.cut c [10]).2.1.length=c.length:=by
 have h1:=congrArg List.length (Mf h)
 simp only [List.length_append,List.length_cons] at h1
 omega
theorem Agh {c:List UInt8} (hq:(Lib.cut c [10]).2.2=false):¬ H0 c:=by
 rintro ⟨x,sz,r,_,rfl⟩
 rw [Mb] at hq;cases hq
theorem head10 {c:List UInt8} {x:NotD} {sz:Int} (hq:(Lib.cut c [10]).2.2=true) (he:(Lib.cut c [10]).1++[10]=Di x sz):c=Di x sz++(Lib.cut c [10]).2.1:=by
 rw [← he,List.append_assoc]
 exact Mf hq
theorem Ajx {c:List UInt8} (h:∀ y tz,Head y tz→(Lib.cut c [10]).1++[10]≠Di y tz):¬ H0 c:=by
 rintro ⟨x,sz,r,hh,rfl⟩
 rw [Mb] at h
 exact h x sz hh rfl
theorem Vk {c:List UInt8} (hq:(Lib.cut c [10]).2.2=false):¬ Mk c:=by
 rintro ⟨y,r,hy,rfl⟩
 rw [Ma hy.1] at hq;cases hq
theorem Akt {c:List UInt8} {y:ItemD} (hq:(Lib.cut c [10]).2.2=true) (h:Q3 ((Lib.cut c [10]).1++[10]) y):(ItemOk 8 y∧y.key < 18446744073709551616∧y.typ < 256)∧c=C1 [y]++(Lib.cut c [10]).2.1:=by
 refine ⟨⟨h.1,h.2.1,Adq h.one⟩,?_⟩
 rw [Uv,h.2.2,List.append_assoc]
 exact Mf hq
theorem Y5 {c:List UInt8} (h:∀ y,¬ Q3 ((Lib.cut c [10]).1++[10]) y):¬ Mk c:=by
 rintro ⟨y,r,hy,rfl⟩
 rw [Ma hy.1] at h
 exact h y ⟨hy.1,hy.2.1,rfl⟩
section
variable {s c:List UInt8} {G:A4} {vi:Value} {ni no left line:Nat} {csi cso:List Value} {xs:List NotD} {x:NotD} {sz:Int} {ys:List ItemD}
theorem RpA.bad (h:RpA s c G no cso line xs) (hc:c≠[]) (hn:¬ H0 c):PR [] s ([],line+1,5):=h.go _ (by rw [h.at_];exact PR.nohead hc hn)
theorem RpA.full (h:RpA s c G no cso line xs) (hn:H0 c) (hl:xs.length=32):PR [] s ([],line+1,3):=h.go _ (by rw [h.at_];exact PR.full hn hl)
theorem RpA.fin (h:RpA s c G no cso line xs) (hc:c=[]):PR [] s (xs,0,0):=h.go _ (by rw [hc];exact PR.done)
theorem RpB.bad (h:RpB s c G vi ni csi no cso left line xs x sz ys) (hn:¬ Mk c):PR [] s ([],line+1,5) :=
 h.go _ (by rw [h.at_];exact PR.bad h.hd (by have:=h.few;omega) rfl h.ok (by have:=h.lf;have:=h.pos;omega) hn)
theorem RpA.one (h:RpA s c G no cso line xs) {x:NotD} {c':List UInt8} (hh:Head x 0) (hl:xs.length≠32) (hc:c=Di x 0++c') {cs1:List Value} (e1:Els Fb 5 G cs1 [x]) (hlen:line+1+c'.length≤s.length):RpA s c' G (no+1) (cso++cs1) (line+1) (xs++[x]) where
 els:=Els.append h.els e1
 len:=by rw [List.length_append,h.len];rfl
 few:=by have:=h.few;rw [List.length_append,List.length_singleton];omega
 at_:=by rw [Ow,h.at_,hh.it];rfl
 suf:=hlen
 go:=fun r hr=>h.go r (by
  have hx:({ x with items:=[] }:NotD)=x:=by have h1:=hh.it;cases x;simp only at h1;subst h1;rfl
  refine PR.step (ys:=[]) (r:=c') hh hl ?_ (fun y hy=>by cases hy) rfl ?_
  ·rw [hc];rfl
  ·rw [hx];exact hr)
theorem RpA.first (h:RpA s c G no cso line xs) {x:NotD} {sz:Int} {left:Nat} {c':List UInt8} (hh:Head x sz) (hl:xs.length≠32) (hc:c=Di x sz++c') {cs1:List Value} (e1:cs1=[.int .u8 ((x.kind:Nat):Int),.int .i64 x.at_,.int .i64 x.count,.int .i64 x.to,vi]) (hlf:((left:Nat):Int)=sz) (hp:0 < left) (hlen:line+1+c'.length≤s.length) :
  RpB s c' G vi 0 [] (no+1) (cso++cs1) left (line+1) xs x sz [] where
 els:=Els.append (Us h.els) ⟨cs1,[],by simp,by rw [e1];rfl,e1,rfl⟩
 its:=rfl
 nit:=rfl
 len:=by rw [h.len]
 few:=by have:=h.few;omega
 hd:=hh
 ok:=fun y hy=>by cases hy
 lf:=by simp only [List.length_nil];omega
 pos:=hp
 at_:=by rw [h.at_];rfl
 suf:=hlen
 go:=fun r hr=>h.go r (by rw [hc];exact hr)
theorem RpB.go1 (h:RpB s c G vi ni csi no cso left line xs x sz ys) {y:ItemD} {c':List UInt8} (hc:c=C1 [y]++c'):∀ r,PR xs (Di x sz++(C1 (ys++[y])++c')) r→PR [] s r:=fun r hr=>h.go r (by
 rw [hc,← List.append_assoc (C1 ys),← Ph];exact hr)
theorem RpB.ok1 (h:RpB s c G vi ni csi no cso left line xs x sz ys) {y:ItemD} (hy:ItemOk 8 y∧y.key < 18446744073709551616∧y.typ < 256):okI (ys++[y]):=by
 intro z hz
 rcases List.mem_append.1 hz with hz | hz
 ·exact h.ok z hz
 ·rw [List.mem_singleton.1 hz];exact hy
theorem RpB.more (h:RpB s c G vi ni csi no cso left line xs x sz ys) {y:ItemD} {c':List UInt8} {vi':Value} {ni':Nat} {csi' cso':List Value} (hc:c=C1 [y]++c') (hy:ItemOk 8 y∧y.key < 18446744073709551616∧y.typ < 256) (e1:Els Cn 4 G csi' (ys++[y])) (hn:ni' = ys.length+1)
  (e2:Els L0 5 G cso' (Oe xs++[(x,some vi')])) (hl:1 < left) (hlen:line+1+c'.length≤s.length):RpB s c' G vi' ni' csi' no cso' (left - 1) (line+1) xs x sz (ys++[y]) where
 els:=e2
 its:=e1
 nit:=by rw [hn,List.length_append];rfl
 len:=h.len
 few:=h.few
 hd:=h.hd
 ok:=h.ok1 hy
 lf:=by have:=h.lf;rw [List.length_append,List.length_singleton];omega
 pos:=by omega
 at_:=by rw [h.at_,List.length_append];rfl
 suf:=hlen
 go:=h.go1 hc
theorem RpB.last (h:RpB s c G vi ni csi no cso left line xs x sz ys) {G':A4} {y:ItemD} {c':List UInt8} {a:Option Addr} {cc:Nat} {cso':List Value} (hc:c=C1 [y]++c') (hy:ItemOk 8 y∧y.key < 18446744073709551616∧y.typ < 256)
  (S:Ay Cn 4 G' (.slice a (ys++[y]).length cc) (ys++[y])) (e2:Els L0 5 G' cso' (Oe xs++[(x,some (.slice a (ys++[y]).length cc))])) (hl:left=1) (hlen:line+1+c'.length≤s.length):RpA s c' G' no cso' (line+1) (xs++[{ x with items:=ys++[y] }]) where
 els:=Vd rfl S (Alb h.hd) (by have:=S.bound;omega) e2
 len:=by rw [h.len,List.length_append];rfl
 few:=by have:=h.few;rw [List.length_append,List.length_singleton];omega
 at_:=by rw [Ow,h.at_];show _=_+(1+(ys++[y]).length);rw [List.length_append,List.length_singleton];omega
 suf:=hlen
 go:=fun r hr=>h.go1 hc r (PR.step h.hd (by have:=h.few;omega) rfl (h.ok1 hy) (by have:=h.lf;rw [List.length_append,List.length_singleton];omega) hr)
end
end Go.Proofs.YtmmhmcplegpenaaGreatDoor
