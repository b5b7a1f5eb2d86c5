/- Notices: their lines and texts. · The walks, part LQ. · The walks, part LR. · The walks, part LS. · The walks, part LT. · Notices: what a text stands for. · More layings of library functions (strconv.Atoi): began as written by lay-shelf.mjs. · The walks, part LU. · The walks, part LV. -/
import Derived.Test.YtmmhmcplegpenaaGreatDoorJ12
import Derived.Lib.ItoaMem
import Derived.Test.YtmmhmcplegpenaaGreatDoorJ13
import Derived.Lib.AtoiAll
import Derived.Shelf.Strconv.AtoiAll
import Derived.Test.YtmmhmcplegpenaaGreatDoorJ1
set_option linter.unusedSimpArgs false
set_option linter.unusedVariables false
namespace Go.Proofs.YtmmhmcplegpenaaGreatDoor
open Go Go.Y Go.RowKit
def fm {α:Type} (l:List (Bool × α)):List α:=(l.filter (·.1)).map (·.2)
section
variable {ρ:Operand→Value} {P:Program} {d:Option Tmp} {t:TypeId} {p:String} {af:Array Edge} {g:Option (Nat × Bool)} {w:World}
end
theorem R9 {α:Type} {l:List (Bool × α)} {i:Nat} {x:Bool × α} (h:l[i]?=some x):fm (l.take (i+1))=fm (l.take i)++(if x.1=true then [x.2] else []):=by
 unfold fm;rw [List.take_add_one,h];simp only [Option.toList_some,List.filter_append,List.map_append]
 congr 1
 by_cases hx:x.1=true
 ·simp [hx]
 simp [hx]
theorem Adv {α:Type} (l:List (Bool × α)):(fm l).length≤l.length:=by
 unfold fm;rw [List.length_map];exact List.length_filter_le _ _
def He (k b b2:Nat):List (Bool × (Nat × Nat)):=[(decide (uAt k),(b,1)),(decide (uCo k),(b,2)),(decide (uTo k),(b,3)),(decide (uIt k),(b2,0))]
def nuK (x:NotD) (sz:Int):List (Bool × Int):=[(decide (uAt x.kind),x.at_),(decide (uCo x.kind),x.count),(decide (uTo x.kind),x.to),(decide (uIt x.kind),sz)]
def Akw:Rd (Nat × Nat):=fun _ cs p=>cs=[.pointer (some ⟨p.1,p.2,none⟩)]
theorem K6:Jo Akw:=fun _ _ _ _ _ h=>h
def rdUP:Rd (Bool × (Nat × Nat)):=fun _ cs p=>cs=[.bool p.1,.pointer (some ⟨p.2.1,p.2.2,none⟩)]
theorem Ail:Jo rdUP:=fun _ _ _ _ _ h=>h
theorem els_ups {G:A4} {a b c d:Bool} {b1 b2 b3 b4 o1 o2 o3 o4:Nat}:Els rdUP 2 G [.bool a,.pointer (some ⟨b1,o1,none⟩),.bool b,.pointer (some ⟨b2,o2,none⟩),.bool c,.pointer (some ⟨b3,o3,none⟩),.bool d,.pointer (some ⟨b4,o4,none⟩)] [(a,(b1,o1)),(b,(b2,o2)),(c,(b3,o3)),(d,(b4,o4))] :=
 ⟨[.bool a,.pointer (some ⟨b1,o1,none⟩)],_,rfl,rfl,rfl,[.bool b,.pointer (some ⟨b2,o2,none⟩)],_,rfl,rfl,rfl,[.bool c,.pointer (some ⟨b3,o3,none⟩)],_,rfl,rfl,rfl,[.bool d,.pointer (some ⟨b4,o4,none⟩)],[],rfl,rfl,rfl,rfl⟩
theorem els_pt {G:A4} {p:Nat × Nat}:Els Akw 1 G [.pointer (some ⟨p.1,p.2,none⟩)] [p]:=⟨[.pointer (some ⟨p.1,p.2,none⟩)],[],rfl,rfl,rfl,rfl⟩
theorem fld_get {x:NotD} {b b2 i:Nat} {sz:Int} {p:Nat × Nat} (h:(fm (He x.kind b b2))[i]?=some p) :
  ∃ z,(fm (nuK x sz))[i]?=some z∧((p=(b,1)∧z=x.at_)∨(p=(b,2)∧z=x.count)∨(p=(b,3)∧z=x.to)∨(p=(b2,0)∧z=sz)):=by
 unfold He fm at h;unfold nuK fm
 rcases bE (decide (uAt x.kind)) with h1 | h1 <;> rcases bE (decide (uCo x.kind)) with h2 | h2 <;>
 rcases bE (decide (uTo x.kind)) with h3 | h3 <;> rcases bE (decide (uIt x.kind)) with h4 | h4 <;> rw [h1,h2,h3,h4] at h ⊢ <;>
 simp only [List.filter_cons,List.filter_nil,if_true,if_false,Bool.false_eq_true,List.map_cons,List.map_nil] at h ⊢ <;>
 rcases i with _ | _ | _ | _ | i <;> simp only [List.getElem?_cons_zero,List.getElem?_cons_succ,List.getElem?_nil,Option.some.injEq,reduceCtorEq] at h <;>
 first | contradiction | (subst h;exact ⟨_,rfl,by simp⟩)
theorem Sa {x:NotD} {b b2:Nat} {sz:Int}:(fm (He x.kind b b2)).length=(fm (nuK x sz)).length:=by
 unfold He nuK fm
 rcases bE (decide (uAt x.kind)) with h1 | h1 <;> rcases bE (decide (uCo x.kind)) with h2 | h2 <;>
 rcases bE (decide (uTo x.kind)) with h3 | h3 <;> rcases bE (decide (uIt x.kind)) with h4 | h4 <;> rw [h1,h2,h3,h4] <;> rfl
def Ct (zs:List Int):List UInt8:=zs.flatMap fun z=>32::Lib.itoa z
theorem Abq {zs:List Int} {i:Nat} {z:Int} (h:zs[i]?=some z):Ct (zs.take (i+1))=Ct (zs.take i)++(32::Lib.itoa z):=by
 unfold Ct;rw [List.take_add_one,h];simp
def Fq (x:NotD) (sz:Int):List UInt8:=C1 x.kind++Ct (fm (nuK x sz))++[10]
def Z1 (x:NotD):List UInt8:=Fq x ((x.items.length:Nat):Int)++Dg x.items
def E1 (l:List NotD):List UInt8:=l.flatMap Z1
theorem Adk {l:List NotD} {i:Nat} {x:NotD} (h:l[i]?=some x):E1 (l.take (i+1))=E1 (l.take i)++Z1 x:=by
 unfold E1;rw [List.take_add_one,h];simp
def Jl (x:NotD):Int:=if E4 x≠0 then E4 x else Ki x.items
def Rr (l:List NotD) (i:Nat):Int:=match l[i]? with
 | some x=>Jl x
 | none=>0
theorem Ady {l:List NotD} {i:Nat} {x:NotD} (h:l[i]?=some x):Rr l i=Jl x:=by unfold Rr;rw [h]
def H0 (l:List NotD):Int:=if 32 < l.length then 3 else if Cc (Rr l) l.length≠0 then Cc (Rr l) l.length else if 1048576 < (E1 l).length then 3 else 0
def Kw (l:List NotD):List UInt8:=if H0 l=0 then E1 l else []
section
variable {l:List NotD} {i:Nat} {x:NotD}
theorem nt_3 (h:32 < l.length):H0 l=3∧Kw l=[]:=by
 have h1:H0 l=3:=by unfold H0;rw [if_pos h]
 exact ⟨h1,by unfold Kw;rw [if_neg (by omega)]⟩
theorem nt_e (h:¬ 32 < l.length) (hS:Cc (Rr l) i=0) (hx:l[i]?=some x) (he:Jl x≠0):H0 l=Jl x∧Kw l=[]:=by
 have h0:=J8 hS (Bj hx) (by rw [Ady hx];exact he);rw [Ady hx] at h0;have h1:H0 l=Jl x:=by unfold H0;rw [if_neg h,if_pos (by rw [h0];exact he),h0]
 exact ⟨h1,by unfold Kw;rw [if_neg (by rw [h1];exact he)]⟩
theorem Alh (h:¬ 32 < l.length) (hS:Cc (Rr l) i=0) (hi:i=l.length) (hl:1048576 < (E1 (l.take i)).length):H0 l=3∧Kw l=[]:=by
 subst hi;rw [List.take_length] at hl;have h1:H0 l=3:=by unfold H0;rw [if_neg h,if_neg (not_not_intro hS),if_pos hl]
 exact ⟨h1,by unfold Kw;rw [if_neg (by omega)]⟩
theorem nt_0 (h:¬ 32 < l.length) (hS:Cc (Rr l) i=0) (hi:i=l.length) (hl:¬ 1048576 < (E1 (l.take i)).length):H0 l=0∧Kw l=E1 (l.take i):=by
 subst hi;rw [List.take_length] at hl ⊢;have h1:H0 l=0:=by unfold H0;rw [if_neg h,if_neg (not_not_intro hS),if_neg hl]
 exact ⟨h1,by unfold Kw;rw [if_pos h1]⟩
end
theorem Vl {l:List ItemD} (h:Ki l=0):(l.length≤1024∧Lb l)∧L3 l=Dg l:=by
 by_cases h1:1024 < l.length
 ·rw [(Sl h1).1] at h;cases h
 by_cases h2:Lb l
 ·exact ⟨⟨by omega,h2⟩,(Xh (by omega) h2).2⟩
 rw [(Sm (by omega) h2).1] at h;cases h
theorem Amr {x:NotD} (h:E4 x≠0):Jl x=E4 x:=by unfold Jl;rw [if_pos h]
theorem Agk {x:NotD} (h:E4 x=0):Jl x=Ki x.items:=by unfold Jl;rw [if_neg (not_not_intro h)]
theorem Abp {k:List UInt8} {zs:List Int} {i:Nat} {z:Int} (h:zs[i]?=some z):k++Ct (zs.take i)++([32]++Lib.itoa z)=k++Ct (zs.take (i+1)):=by
 rw [Abq h];simp only [List.append_assoc,List.cons_append,List.nil_append]
theorem Ali {l:List NotD} {i:Nat} {x:NotD} (h:l[i]?=some x) {zs:List Int} {j:Nat} (hz:zs=fm (nuK x ((x.items.length:Nat):Int))) (hj:zs.length≤j) {t:List UInt8} (ht:t=Dg x.items) :
  E1 (l.take i)++C1 x.kind++Ct (zs.take j)++([10]++t)=E1 (l.take (i+1)):=by
 subst hz ht;rw [List.take_of_length_le hj,Adk h];simp only [Z1,Fq,List.append_assoc,List.cons_append,List.nil_append]
theorem V8 (k:Nat):(C1 k).length≤6:=by unfold C1;split <;> simp
theorem Aal {z:Int} (h:Bb .i64 z):(Lib.itoa z).length≤21:=by
 obtain ⟨h1,h2⟩:=h;have h1:-9223372036854775808≤z:=h1;have h2:z≤9223372036854775807:=h2;unfold Lib.itoa
 split
 ·have:=Ed z.natAbs (by omega);simp only [List.length_cons,List.length_append,List.length_nil];omega
 have:=Ed z.toNat (by omega)
 omega
theorem P1:∀ {zs:List Int},(∀ z∈zs,Bb .i64 z)→(Ct zs).length≤22 * zs.length
 | [],_=>by simp [Ct]
 | z::zs,h=>by
  have h1:=Aal (h z (by simp));have h2:=P1 (zs:=zs) fun y hy=>h y (by simp [hy]);simp only [Ct,List.flatMap_cons,List.length_append,List.length_cons] at h2 ⊢
  omega
theorem X7 {x:NotD} {sz:Int} (h1:Bb .i64 x.at_) (h2:Bb .i64 x.count) (h3:Bb .i64 x.to) (h4:Bb .i64 sz):∀ z∈fm (nuK x sz),Bb .i64 z:=by
 intro z hz;unfold fm nuK at hz;simp only [List.mem_map,List.mem_filter,List.mem_cons,List.not_mem_nil,or_false] at hz;obtain ⟨⟨b,y⟩,⟨hy | hy | hy | hy,_⟩,rfl⟩:=hz <;> (simp only [Prod.mk.injEq] at hy;obtain ⟨_,rfl⟩:=hy;assumption)
open Go Go.Y Go.Proofs
variable {w0 w:World} {G:A4} {L:List Res}
theorem Aar (M:Mem w0 G L w) (HG:Globs 0 1 2 3 G) {z:Int} (hz:Bb .i64 z):Calls Tryz.prog 133 #[.int .i64 z] w (Cs w0 G L fun v=>v=.string (str (Lib.itoa z))):=by
 refine Ay (vs:=[_]) Tryz.func133 rfl (n:=5) rfl rfl<|Ac<|Ab rfl<|Ac<|Aa rfl<|Bs Aoh rfl rfl (Aas (n:=z) M HG (by first | assumption | exact ⟨by decide,by decide⟩ | exact wrap_ink _ _ | exact C0 (by omega) (by omega)))<|?_;clear M;rintro _ w M rfl
 refine Ab rfl<|Ae<|Ad rfl rfl<|?_
 exact ⟨M,rfl⟩
theorem T4 (M:Mem w0 G L w) (HG:Globs 0 1 2 3 G) {z:Int} (hz:Bb .i64 z):Calls Tryz.prog 83 #[.int .i64 z] w (Cs w0 G L fun v=>v=.string (str (Lib.itoa z))):=by
 refine Ay (vs:=[_]) Tryz.func83 rfl (n:=5) rfl rfl<|Ac<|Ab rfl<|Ac<|Aa rfl<|Bs Aoo rfl rfl (Aar (z:=z) M HG hz)<|?_;clear M;rintro _ w M rfl
 refine Ab rfl<|Ae<|Ad rfl rfl<|?_
 exact ⟨M,rfl⟩
theorem Ajr {w0 w:World} {G:A4} {L:List Res} {b n c:Nat} {ad:Option Addr} {l:List UInt8} {p:Value} (M:Mem w0 G (.blk b [p,.slice ad n c] 101::.row (.slice ad n c) n (bc l) 5 1::L) w) (hn:n=l.length) :
  Calls Tryz.prog 84 #[.pointer (some ⟨b,0,none⟩)] w (Cs w0 G (.blk b [p,.slice ad n c] 101::.row (.slice ad n c) n (bc l) 5 1::L) fun v=>v=.int .i64 ((l.length:Nat):Int)):=by
 refine Ay (vs:=[_]) Tryz.func84 rfl (n:=8) rfl rfl<|Ac<|Ab rfl<|Ac<|Aa rfl<|Fi rfl<|A0 Hr.k rfl rfl<|Bg K1 M 0 rfl rfl rfl rfl<|B8 K1.k rfl<|Ab rfl<|Ae<|Ad rfl rfl<|?_
 exact ⟨M,by rw [hn]⟩
theorem V3 (M:Mem w0 G L w) {k b b2:Nat}:Calls Tryz.prog 82 #[.agg #[.string (str (C1 k)),.bool (decide (uAt k)),.bool (decide (uCo k)),.bool (decide (uTo k)),.bool (decide (uIt k)),.func (.func (Ff k)) #[] #[]],.pointer (some ⟨b,0,none⟩),.pointer (some ⟨b2,0,none⟩)] w (Ret w0 G L fun G' v=>∃ (a:Option Addr) (cc:Nat),v=.slice a (fm (He k b b2)).length cc∧Au Akw 1 G' (.slice a (fm (He k b b2)).length cc) (fm (He k b b2))):=by
 refine Ay (vs:=[_,_,_]) Tryz.func82 rfl (n:=47) rfl rfl<|Ac<|Cz M rfl rfl rfl<|?_;clear M;intro b1 w M
 refine Ab rfl<|Ac<|Ab rfl<|Ag<|Ag<|fun a F=>Gh [(true,0),(true,1),(true,2),(true,3),(true,4),(true,5),(true,6),(true,7),(true,8),(true,9),(true,10),(true,11),(true,12),(true,13),(true,14),(true,15),(true,16),(true,17),(true,18),(true,19),(true,20),(true,21),(true,24),(false,22),(true,23)] (Keep G [.blk b1 [.string (str (C1 k)),.bool (decide (uAt k)),.bool (decide (uCo k)),.bool (decide (uTo k)),.bool (decide (uIt k)),.func (.func (Ff k)) #[] #[]] 138]) rfl (by kernel_rfl) (fun c a d v w h=>by cases d <;> exact h) (Bo (M.drew _)) ?_
 replace M:=M.drew (w.drawn+1);revert a;refine l_r (fun a F w M=>Ce Cl.k rfl F rfl) rfl<|l_r (fun a F w M=>Al (agf Io rfl) (F.ev rfl) (M.cellL (k:=0) rfl rfl)) rfl<|l_r (fun a F w M=>B1 F rfl) rfl<|l_r (fun a F w M=>Ea (F.ev rfl)) rfl<|l_r (fun a F w M=>Ce Bm.k rfl F rfl) rfl<|l_r (fun a F w M=>A3 (cs:=[.bool (decide (uAt k)),.pointer (some ⟨b,0+1,none⟩)]) (ps:=[(0,.bool (decide (uAt k))),(1,.pointer (some ⟨b,0+1,none⟩))]) Hz.k rfl Hz (F.evp rfl) rfl) rfl<|l_r (fun a F w M=>Ce Cl.k rfl F rfl) rfl<|l_r (fun a F w M=>Al (agf Io rfl) (F.ev rfl) (M.cellL (k:=0) rfl rfl)) rfl<|l_r (fun a F w M=>B1 F rfl) rfl<|l_r (fun a F w M=>Ea (F.ev rfl)) rfl<|l_r (fun a F w M=>Ce Bm.k rfl F rfl) rfl<|l_r (fun a F w M=>A3 (cs:=[.bool (decide (uCo k)),.pointer (some ⟨b,0+2,none⟩)]) (ps:=[(0,.bool (decide (uCo k))),(1,.pointer (some ⟨b,0+2,none⟩))]) Hz.k rfl Hz (F.evp rfl) rfl) rfl<|l_r (fun a F w M=>Ce Cl.k rfl F rfl) rfl<|l_r (fun a F w M=>Al (agf Io rfl) (F.ev rfl) (M.cellL (k:=0) rfl rfl)) rfl<|l_r (fun a F w M=>B1 F rfl) rfl<|l_r (fun a F w M=>Ea (F.ev rfl)) rfl<|l_r (fun a F w M=>Ce Bm.k rfl F rfl) rfl<|l_r (fun a F w M=>A3 (cs:=[.bool (decide (uTo k)),.pointer (some ⟨b,0+3,none⟩)]) (ps:=[(0,.bool (decide (uTo k))),(1,.pointer (some ⟨b,0+3,none⟩))]) Hz.k rfl Hz (F.evp rfl) rfl) rfl<|l_r (fun a F w M=>Ce Cl.k rfl F rfl) rfl<|l_r (fun a F w M=>Al (agf Io rfl) (F.ev rfl) (M.cellL (k:=0) rfl rfl)) rfl<|l_r (fun a F w M=>B1 F rfl) rfl<|l_r (fun a F w M=>A3 (cs:=[.bool (decide (uIt k)),.pointer (some ⟨b2,0,none⟩)]) (ps:=[(0,.bool (decide (uIt k))),(1,.pointer (some ⟨b2,0,none⟩))]) Hz.k rfl Hz (F.evp rfl) rfl) rfl<|l_r (fun a F w M=>B1 F rfl) rfl<|l_a rfl<|?_
 intro a F;refine F3 F M Aby.k Hz (ps:=[(0,.agg #[.bool (decide (uAt k)),.pointer (some ⟨b,0+1,none⟩)]),(1,.agg #[.bool (decide (uCo k)),.pointer (some ⟨b,0+2,none⟩)]),(2,.agg #[.bool (decide (uTo k)),.pointer (some ⟨b,0+3,none⟩)]),(3,.agg #[.bool (decide (uIt k)),.pointer (some ⟨b2,0,none⟩)])]) (cs:=[[.bool (decide (uAt k)),.pointer (some ⟨b,0+1,none⟩)],[.bool (decide (uCo k)),.pointer (some ⟨b,0+2,none⟩)],[.bool (decide (uTo k)),.pointer (some ⟨b,0+3,none⟩)],[.bool (decide (uIt k)),.pointer (some ⟨b2,0,none⟩)]]) (fl:=[.bool (decide (uAt k)),.pointer (some ⟨b,0+1,none⟩),.bool (decide (uCo k)),.pointer (some ⟨b,0+2,none⟩),.bool (decide (uTo k)),.pointer (some ⟨b,0+3,none⟩),.bool (decide (uIt k)),.pointer (some ⟨b2,0,none⟩)]) rfl rfl (by simp [N0,Value.cells]) (by simp [ti215]) rfl (by simp [Value.oneCell']) (by decide) (by decide) rfl ?_;clear F M a;intro v2 w a M F;obtain ⟨av2,cv2,rfl,hlev2,hcmv2,hlv2⟩:=M.row_shape (k:=0) rfl;revert a;refine eQ (Bo M)<|?_
 have Eu:Els rdUP 2 G [.bool (decide (uAt k)),.pointer (some ⟨b,0+1,none⟩),.bool (decide (uCo k)),.pointer (some ⟨b,0+2,none⟩),.bool (decide (uTo k)),.pointer (some ⟨b,0+3,none⟩),.bool (decide (uIt k)),.pointer (some ⟨b2,0,none⟩)] (He k b b2):=els_ups;refine l_r (fun a F w M=>D8 Aby.k (F.ev rfl)) rfl<|Hq<|Ax<|?_
 have M:=M.nilrow 150 1;change Mem w0 G (.row (.slice none 0 0) 0 ([]) 150 1::.row (.slice av2 4 (cv2)) 4 ([.bool (decide (uAt k)),.pointer (some ⟨b,0+1,none⟩),.bool (decide (uCo k)),.pointer (some ⟨b,0+2,none⟩),.bool (decide (uTo k)),.pointer (some ⟨b,0+3,none⟩),.bool (decide (uIt k)),.pointer (some ⟨b2,0,none⟩)]) 215 2::.blk b1 [.string (str (C1 k)),.bool (decide (uAt k)),.bool (decide (uCo k)),.bool (decide (uTo k)),.bool (decide (uIt k)),.func (.func (Ff k)) #[] #[]] 138::L) _ at M;intro a F;refine Bz (fun m a' w'=>∃ (i:Nat),∃ (ar:Option Addr),∃ (nr:Nat),∃ (cr:Nat),∃ (csr:List Value),m=4 - i∧Fits 47 a' [(32,.slice av2 4 (cv2)),(33,.int .i64 ((4:Nat):Int)),(7,.slice ar nr cr),(34,.int .i64 ((i:Nat):Int))]∧Mem w0 G (.row (.slice ar nr cr) (nr) (csr) 150 1::.row (.slice av2 4 (cv2)) 4 ([.bool (decide (uAt k)),.pointer (some ⟨b,0+1,none⟩),.bool (decide (uCo k)),.pointer (some ⟨b,0+2,none⟩),.bool (decide (uTo k)),.pointer (some ⟨b,0+3,none⟩),.bool (decide (uIt k)),.pointer (some ⟨b2,0,none⟩)]) 215 2::.blk b1 [.string (str (C1 k)),.bool (decide (uAt k)),.bool (decide (uCo k)),.bool (decide (uTo k)),.bool (decide (uIt k)),.func (.func (Ff k)) #[] #[]] 138::L) w'∧(i≤4)∧(Els Akw 1 G csr (fm ((He k b b2).take i)))∧(nr≤i)) _ ⟨0,none,0,0,[],rfl,F.to ⟨rfl,rfl,rfl,rfl,trivial⟩,M,by omega,Els.nil,by omega⟩ ?_;clear F M;rintro m a w ⟨i,ar,nr,cr,csr,rfl,F,M,hi,Er,hnr⟩;revert a;refine Ac<|C2 rfl rfl<|Ag<|Ap rfl ?_ ?_
 ·intro h3b;have h3:=dT h3b;refine Aq<|Ag<|Ax<|Ac<|?_
  obtain ⟨Xe4,hXe4⟩:=A2 (xs:=(He k b b2)) (i:=i) (by (show i < 4;omega));obtain ⟨be4,_,Ie4,hme4,_,Ae4,rfl⟩:=M.atRow (k:=1) rfl (by decide) Eu hXe4;refine D0 Aby.k Hz Ie4 rfl rfl<|Ar (fun a F=>Af Hz rfl (F.ev rfl) (cs:=[.bool (Xe4.1),.pointer (some ⟨Xe4.2.1,Xe4.2.2,none⟩)]) rfl (Apl Ae4 0 (by omega) rfl)) rfl<|C9 M Hz rfl rfl<|?_;clear M;intro b5 w M
  intro a F;refine Cj F M Hz 0 ?_;clear F M a;intro w a M F;change Mem w0 G (.blk b5 [.bool (Xe4.1),.pointer (some ⟨Xe4.2.1,Xe4.2.2,none⟩)] 215::_::_::_::L) _ at M;revert a;refine Ac<|A0 Hz.k rfl rfl<|Bg Io M 0 rfl rfl rfl rfl<|Ap rfl ?_ ?_
  ·intro h7b;have h7:(Xe4.1)=true:=h7b;refine Az<|Aa rfl<|A0 Hz.k rfl rfl<|Bg N2 M 0 rfl rfl rfl rfl<|fun a F=>?_
   refine Bk F M N3.k N2 rfl rfl (cs:=[.pointer (some ⟨Xe4.2.1,Xe4.2.2,none⟩)]) rfl rfl (by simp [Value.oneCell']) (by decide) rfl ?_;clear F M a;intro v8 w a M F;obtain ⟨av8,cv8,rfl,hlev8,hcmv8,hlv8⟩:=M.row_shape (k:=0) rfl;have Eb9:Els Akw 1 G [.pointer (some ⟨Xe4.2.1,Xe4.2.2,none⟩)] [Xe4.2]:=els_pt;refine Ci F M (k:=2) (k2:=0) rfl rfl N3.k N2 rfl rfl (by decide) rfl rfl (by show _ * 8≤_;(try simp only [List.length_drop,List.length_take,List.length_append,List.length_cons,List.length_nil]);omega) (by (try simp only [List.length_drop,List.length_take,List.length_append,List.length_cons,List.length_nil]);omega) rfl ?_;clear F M a;intro v10 w a M F;have Ev10:=Els.append Er Eb9;obtain ⟨av10,cv10,rfl,hlev10,hcmv10,hlv10⟩:=M.row_shape (k:=2) rfl;revert a;refine Ab rfl<|Az<|Bx rfl rfl<|Aa rfl<|Bc<|Cm<|fun a F=>?_
   exact ⟨_,by omega,i+1,(av10),(nr+1),(cv10),csr++([.pointer (some ⟨Xe4.2.1,Xe4.2.2,none⟩)]),rfl,F.to ⟨rfl,rfl,rfl,rfl,trivial⟩,(M.weaken (cN (.cons _ (cC (.cons_cons _ (cC (sR _))))))),by omega,by have h_:=Ev10;first | (rw [R9 hXe4,if_pos (by assumption)];exact h_) | (rw [R9 hXe4,if_neg (by simp_all),List.append_nil];exact h_),by omega⟩
  intro h11b;have h11:(Xe4.1)=false:=h11b;refine Aq<|Az<|Bx rfl rfl<|Aa rfl<|Bc<|Cm<|fun a F=>?_
  exact ⟨_,by omega,i+1,(ar),(nr),(cr),csr,rfl,F.to ⟨rfl,rfl,rfl,rfl,trivial⟩,(M.weaken (cN (cC (.cons_cons _ (cC (sR _)))))),by omega,by have h_:=Er;first | (rw [R9 hXe4,if_pos (by assumption)];exact h_) | (rw [R9 hXe4,if_neg (by simp_all),List.append_nil];exact h_),by omega⟩
 intro h12b;have h12:=dF h12b;refine B5<|Bw<|Bw<|Dj<|Ag<|fun a F=>?_
 rw [List.take_of_length_le (show (He k b b2).length≤i by show 4≤i;omega)] at Er;obtain ⟨hnz13,Gz13,az13,cz13,hGz13,hez13,Sz13,M⟩:=M.freeze_row K6 (k:=0) rfl Er (by decide);clear hez13 az13 cz13;replace Eu:=Eu.mono Ail hGz13;rw [hnz13] at F Sz13;revert a;refine Az<|Aa rfl<|Ab rfl<|Ae<|Ad rfl rfl<|?_
 exact ⟨_,hGz13,M.weaken dS2,_,_,rfl,Sz13⟩
theorem Lk {w0 w:World} {G:A4} {L:List Res} (M:Mem w0 G L w) (HG:Globs 0 1 2 3 G) {an:Option Addr} {cn:Nat} {ns:List NotD} (SN:Au Gi 5 G (.slice an ns.length cn) ns):Calls Tryz.prog 32 #[.slice an ns.length cn] w (Ret w0 G L fun G' v=>v=.tuple #[.string (str (Kw ns)),.int .i64 (H0 ns)]):=by
 have bN:=SN.bound;refine Ay (vs:=[_]) Tryz.func32 rfl (n:=68) rfl rfl<|Ac<|Ab rfl<|Ab rfl<|Ag<|Ac<|Aa rfl<|B8 H2.k rfl<|Da rfl rfl<|Ap rfl ?_ ?_
 ·intro h1b;have h1:=dT h1b;refine Ac<|Ab rfl<|Ab rfl<|Ae<|D6 rfl rfl rfl<|?_
  exact ⟨_,(Gle.refl _),M,by rw [(nt_3 (by omega)).1,(nt_3 (by omega)).2];try rfl⟩
 intro h2b;have h2:=dF h2b;refine Aq<|Ac<|C9 M Hr rfl rfl<|?_;clear M;intro b3 w M
 refine Ag<|Ag<|?_
 change Mem w0 G (_::L) _ at M;have M:=(M.nilrow 5 1).perm (List.Perm.swap _ _ _);intro a F;rw [show ([]:List Value)=bc [] from rfl] at M;revert a;refine Az<|Aa rfl<|B8 H2.k rfl<|Aa rfl<|Ax<|?_
 have hz0:([]:List UInt8)=E1 (ns.take 0):=by simp [E1]
 intro a F;rw [hz0] at M;refine Bz (fun m a' w'=>∃ (i:Nat),∃ (am:Option Addr),∃ (nm:Nat),∃ (cm:Nat),∃ (pm:Value),m=ns.length - i∧∃ G5,Gle G G5∧Fits 68 a' [(4,.pointer (some ⟨b3,0,none⟩)),(17,.slice an ns.length cn),(18,.int .i64 ((ns.length:Nat):Int)),(19,.int .i64 ((i:Nat):Int))]∧Mem w0 G5 (.blk b3 [pm,.slice am nm cm] 101::.row (.slice am nm cm) (nm) (bc (E1 (ns.take i))) 5 1::L) w'∧(i≤ns.length)∧(Cc (Rr ns) i=0)∧((E1 (ns.take i)).length≤320000 * i)∧(pm=.pointer none∨pm=.pointer (some ⟨b3,0,none⟩))∧(nm=(E1 (ns.take i)).length)∧((E1 (ns.take i))=[]→am=none)) _ ⟨0,(none),(0),(0),(.pointer none),rfl,G,Gle.refl _,F.to ⟨rfl,rfl,rfl,rfl,trivial⟩,M,Nat.zero_le _,rfl,by simp [E1],(Or.inl rfl),rfl,(fun _=>rfl)⟩ ?_;clear F M;rintro m a w ⟨i,am,nm,cm,pm,rfl,G5,hG5,F,M,hi,hS,hlen,hpm,hnm,hnilm⟩;replace HG:=HG.mono hG5;replace SN:=SN.mono Bp hG5;revert a;refine Ac<|C2 rfl rfl<|Ag<|Ap rfl ?_ ?_
 ·intro h6b;have h6:=dT h6b;refine Aq<|Ag<|Ax<|Ac<|?_
  obtain ⟨Xe7,hXe7⟩:=A2 (xs:=ns) (i:=i) (by omega);obtain ⟨be7,oe7,_,Ie7,_,Ae7,hTe7⟩:=SN.at hXe7;obtain ⟨nae7,nce7,rfl,h1e7,h2e7,h3e7,h4e7,h5e7,SIe7⟩:=hTe7;have hNe7:Xe7.kind < 256∧Bb .i64 Xe7.at_∧Bb .i64 Xe7.count∧Bb .i64 Xe7.to∧Xe7.items.length≤9223372036854775807:=⟨h1e7,h2e7,h3e7,h4e7,h5e7⟩;refine D0 H2.k Bm Ie7 rfl rfl<|Ar (fun a F=>Af Bm rfl (F.ev rfl) (cs:=[.int .u8 ((Xe7.kind:Nat):Int),.int .i64 Xe7.at_,.int .i64 Xe7.count,.int .i64 Xe7.to,.slice nae7 Xe7.items.length nce7]) rfl (M.cellsA Ae7 0 (by omega) rfl)) rfl<|C9 M Bm rfl rfl<|?_;clear M;intro b8 w M
  intro a F;refine Cj F M Bm 0 ?_;clear F M a;intro w a M F;change Mem w0 G5 (.blk b8 [.int .u8 ((Xe7.kind:Nat):Int),.int .i64 Xe7.at_,.int .i64 Xe7.count,.int .i64 Xe7.to,.slice nae7 Xe7.items.length nce7] 65::_::_::L) _ at M;revert a;refine Ag<|Ac<|Ar (fun a F=>Af Bm rfl (F.ev rfl) (cs:=[.int .u8 ((Xe7.kind:Nat):Int),.int .i64 Xe7.at_,.int .i64 Xe7.count,.int .i64 Xe7.to,.slice nae7 Xe7.items.length nce7]) rfl (M.cellsL (k:=0) rfl rfl)) rfl<|Bs Aax rfl rfl (H4 (x:=Xe7) M hNe7 SIe7)<|?_;clear M;rintro _ w M rfl
  refine Ab rfl<|Ac<|Aa rfl<|Fh rfl rfl<|Ap rfl ?_ ?_
  ·intro h10b;have h10:=dF (Ah h10b);refine Ac<|Aa rfl<|Ab rfl<|Ab rfl<|Ae<|D6 rfl rfl rfl<|?_
   exact ⟨_,hG5,M.weaken dS3,by rw [(nt_e (by omega) hS hXe7 (by rw [Amr (by omega)];omega)).1,(nt_e (by omega) hS hXe7 (by rw [Amr (by omega)];omega)).2,Amr (show E4 Xe7≠0 by omega)];try rfl⟩
  intro h11b;have h11:=dT (Ai h11b);refine Aq<|Ag<|?_
  have hne:E4 Xe7=0:=by omega
  refine Az<|A0 Bm.k rfl rfl<|Bg B9 M 0 rfl rfl rfl rfl<|Bs ent11 rfl rfl (Ahd (xs:=Xe7.items) M HG SIe7)<|?_;clear M;rintro _ w M rfl
  refine Aa rfl<|Df rfl rfl<|Df rfl rfl<|Ab rfl<|Ab rfl<|Ag<|Ac<|Aa rfl<|Fh rfl rfl<|Ap rfl ?_ ?_
  ·intro h12b;have h12:=dF (Ah h12b);refine Ac<|Aa rfl<|Ab rfl<|Ab rfl<|Ae<|D6 rfl rfl rfl<|?_
   exact ⟨_,hG5,M.weaken dS3,by rw [(nt_e (by omega) hS hXe7 (by rw [Agk hne];omega)).1,(nt_e (by omega) hS hXe7 (by rw [Agk hne];omega)).2,Agk hne];try rfl⟩
  intro h13b;have h13:=dT (Ai h13b);refine Aq<|Ag<|?_
  have ht0:=Vl (l:=Xe7.items) (by omega);have htl:=Vm ht0.1.2 (Afv SIe7);intro a F;rw [← ht0.2] at htl;have hkk:=(Jv.1 hne).1;have hnk:=V8 Xe7.kind;have hnu:=X7 (x:=Xe7) (sz:=((Xe7.items.length:Nat):Int)) hNe7.2.1 hNe7.2.2.1 hNe7.2.2.2.1 (C0 (by omega) (by omega));have hfl4:=Adv (nuK Xe7 ((Xe7.items.length:Nat):Int));rw [show (nuK Xe7 ((Xe7.items.length:Nat):Int)).length=4 from rfl] at hfl4;refine Mb (fun a' w'=>∃ (b10k b11k:Nat),Fits 68 a' [(4,.pointer (some ⟨b3,0,none⟩)),(6,.pointer (some ⟨b8,0,none⟩)),(8,.string (str (L3 Xe7.items))),(17,.slice an ns.length cn),(18,.int .i64 ((ns.length:Nat):Int)),(19,.int .i64 ((i:Nat):Int)),(10,.pointer (some ⟨b10k,0,none⟩)),(11,.pointer (some ⟨b11k,0,none⟩))]∧Mem w0 G5 (.blk b11k [.int .i64 ((Xe7.items.length:Nat):Int)] 3::.blk b10k [.string (str (C1 Xe7.kind)),.bool (decide (uAt Xe7.kind)),.bool (decide (uCo Xe7.kind)),.bool (decide (uTo Xe7.kind)),.bool (decide (uIt Xe7.kind)),.func (.func (Ff Xe7.kind)) #[] #[]] 138::.blk b8 [.int .u8 ((Xe7.kind:Nat):Int),.int .i64 Xe7.at_,.int .i64 Xe7.count,.int .i64 Xe7.to,.slice nae7 Xe7.items.length nce7] 65::.blk b3 [pm,.slice am nm cm] 101::.row (.slice am nm cm) (nm) (bc (E1 (ns.take i))) 5 1::L) w') ?_ ?_
  ·skip
   have ht0:=Vl (l:=Xe7.items) (by omega);have htl:=Vm ht0.1.2 (Afv SIe7);rw [← ht0.2] at htl;have hkk:=(Jv.1 hne).1;have hnk:=V8 Xe7.kind;have hnu:=X7 (x:=Xe7) (sz:=((Xe7.items.length:Nat):Int)) hNe7.2.1 hNe7.2.2.1 hNe7.2.2.2.1 (C0 (by omega) (by omega));have hfl4:=Adv (nuK Xe7 ((Xe7.items.length:Nat):Int));rw [show (nuK Xe7 ((Xe7.items.length:Nat):Int)).length=4 from rfl] at hfl4;refine P2 (.run 1 (.run 2 (.run 4 (.run 5 (.run 6 (.act 0 (.run 3 (.act 7 (.act 8 (.act 9 (.act 10 .fin .no) .no) .no) (.act 8 (.act 7 (.act 9 (.act 10 .fin .no) .no) .no) .no))) (.act 7 (.act 0 (.run 3 (.act 8 (.act 9 (.act 10 .fin .no) .no) .no)) (.act 8 (.act 0 (.run 3 (.act 9 (.act 10 .fin .no) .no)) .no) .no)) (.act 8 (.act 0 (.run 3 (.act 7 (.act 9 (.act 10 .fin .no) .no) .no)) (.act 7 (.act 0 (.run 3 (.act 9 (.act 10 .fin .no) .no)) .no) .no)) .no)))))))) (Keep G5 [.blk b8 [.int .u8 ((Xe7.kind:Nat):Int),.int .i64 Xe7.at_,.int .i64 Xe7.count,.int .i64 Xe7.to,.slice nae7 Xe7.items.length nce7] 65]) rfl (by kernel_rfl) (fun c a d v w h=>by cases d <;> exact h) (Bo (M.drew _)) ?_;replace M:=M.drew (w.drawn+1);revert a;refine t_r (fun a F w M=>Ce Bm.k rfl F rfl) rfl<|t_r (fun a F w M=>Al (agf Fa rfl) (F.ev rfl) (M.cellL (k:=0) rfl rfl)) rfl<|t_r (fun a F w M=>Ce Bm.k rfl F rfl) rfl<|t_r (fun a F w M=>Al (agf B9 rfl) (F.ev rfl) (M.cellL (k:=0) rfl rfl)) rfl<|t_r (fun a F w M=>D8 B9.k (F.ev rfl)) rfl<|fun a F=>Cd ?_ rfl ?_
   ·skip
    revert a;refine Bs Pq rfl rfl (Gw M)<|?_;clear M;rintro _ w M rfl
    refine eQ (Bo M)<|t_r (fun a F w M=>Gs (j:=Xe7.kind) Hf.k Cl rfl (F.ev rfl) (F.ev rfl) rfl (by omega) (us:=[.string (str (C1 Xe7.kind)),.bool (decide (uAt Xe7.kind)),.bool (decide (uCo Xe7.kind)),.bool (decide (uTo Xe7.kind)),.bool (decide (uIt Xe7.kind)),.func (.func (Ff Xe7.kind)) #[] #[]]) (I7 (by omega))) rfl<|fun a F=>Cd ?_ rfl ?_
    ·skip
     revert a;refine C9 M Cl rfl rfl<|?_;clear M;intro b14 w M
     refine eQ (Bo M)<|fun a F=>Cd ?_ rfl Db
     revert a;refine C9 M Cg rfl rfl<|?_;clear M;intro b16 w M
     refine eQ (Bo M)<|fun a F=>Cd ?_ rfl Db
     refine Cj F M Cl 1 ?_;clear F M a;intro w a M F;change Mem w0 G5 (_::.blk b14 [.string (str (C1 Xe7.kind)),.bool (decide (uAt Xe7.kind)),.bool (decide (uCo Xe7.kind)),.bool (decide (uTo Xe7.kind)),.bool (decide (uIt Xe7.kind)),.func (.func (Ff Xe7.kind)) #[] #[]] 138::.blk b8 [.int .u8 ((Xe7.kind:Nat):Int),.int .i64 Xe7.at_,.int .i64 Xe7.count,.int .i64 Xe7.to,.slice nae7 Xe7.items.length nce7] 65::_::_::L) _ at M;revert a;refine eQ (Bo M)<|fun a F=>Cd ?_ rfl Db
     revert a;refine Gd Cg M 0 rfl rfl rfl rfl rfl rfl<|?_;clear M;intro w M
     refine eQ (Bo M)<|Ik<|fun a F=>?_
     exact ⟨b14,b16,F.to ⟨rfl,rfl,rfl,rfl,rfl,rfl,rfl,rfl,trivial⟩,M⟩
    refine Cd ?_ rfl ?_
    ·skip
     revert a;refine C9 M Cg rfl rfl<|?_;clear M;intro b18 w M
     refine eQ (Bo M)<|fun a F=>Cd ?_ rfl Db
     revert a;refine C9 M Cl rfl rfl<|?_;clear M;intro b20 w M
     refine eQ (Bo M)<|fun a F=>Cd ?_ rfl Db
     refine Cj F M Cl 0 ?_;clear F M a;intro w a M F;change Mem w0 G5 (.blk b20 [.string (str (C1 Xe7.kind)),.bool (decide (uAt Xe7.kind)),.bool (decide (uCo Xe7.kind)),.bool (decide (uTo Xe7.kind)),.bool (decide (uIt Xe7.kind)),.func (.func (Ff Xe7.kind)) #[] #[]] 138::_::.blk b8 [.int .u8 ((Xe7.kind:Nat):Int),.int .i64 Xe7.at_,.int .i64 Xe7.count,.int .i64 Xe7.to,.slice nae7 Xe7.items.length nce7] 65::_::_::L) _ at M;revert a;refine eQ (Bo M)<|fun a F=>Cd ?_ rfl Db
     revert a;refine Gd Cg M 1 rfl rfl rfl rfl rfl rfl<|?_;clear M;intro w M
     refine eQ (Bo M)<|Ik<|?_
     have M:=M.perm (List.Perm.swap _ _ _);intro a F
     exact ⟨b20,b18,F.to ⟨rfl,rfl,rfl,rfl,rfl,rfl,rfl,rfl,trivial⟩,M⟩
    exact Db
   refine Cd ?_ rfl ?_
   ·skip
    revert a;refine C9 M Cl rfl rfl<|?_;clear M;intro b22 w M
    refine eQ (Bo M)<|fun a F=>Cd ?_ rfl ?_
    ·skip
     revert a;refine Bs Pq rfl rfl (Gw M)<|?_;clear M;rintro _ w M rfl
     refine eQ (Bo M)<|t_r (fun a F w M=>Gs (j:=Xe7.kind) Hf.k Cl rfl (F.ev rfl) (F.ev rfl) rfl (by omega) (us:=[.string (str (C1 Xe7.kind)),.bool (decide (uAt Xe7.kind)),.bool (decide (uCo Xe7.kind)),.bool (decide (uTo Xe7.kind)),.bool (decide (uIt Xe7.kind)),.func (.func (Ff Xe7.kind)) #[] #[]]) (I7 (by omega))) rfl<|fun a F=>Cd ?_ rfl Db
     revert a;refine C9 M Cg rfl rfl<|?_;clear M;intro b24 w M
     refine eQ (Bo M)<|fun a F=>Cd ?_ rfl Db
     refine Cj F M Cl 1 ?_;clear F M a;intro w a M F;change Mem w0 G5 (_::.blk b22 [.string (str (C1 Xe7.kind)),.bool (decide (uAt Xe7.kind)),.bool (decide (uCo Xe7.kind)),.bool (decide (uTo Xe7.kind)),.bool (decide (uIt Xe7.kind)),.func (.func (Ff Xe7.kind)) #[] #[]] 138::.blk b8 [.int .u8 ((Xe7.kind:Nat):Int),.int .i64 Xe7.at_,.int .i64 Xe7.count,.int .i64 Xe7.to,.slice nae7 Xe7.items.length nce7] 65::_::_::L) _ at M;revert a;refine eQ (Bo M)<|fun a F=>Cd ?_ rfl Db
     revert a;refine Gd Cg M 0 rfl rfl rfl rfl rfl rfl<|?_;clear M;intro w M
     refine eQ (Bo M)<|Ik<|fun a F=>?_
     exact ⟨b22,b24,F.to ⟨rfl,rfl,rfl,rfl,rfl,rfl,rfl,rfl,trivial⟩,M⟩
    refine Cd ?_ rfl ?_
    ·skip
     revert a;refine C9 M Cg rfl rfl<|?_;clear M;intro b26 w M
     refine eQ (Bo M)<|fun a F=>Cd ?_ rfl Db
     revert a;refine Bs Pq rfl rfl (Gw M)<|?_;clear M;rintro _ w M rfl
     refine eQ (Bo M)<|t_r (fun a F w M=>Gs (j:=Xe7.kind) Hf.k Cl rfl (F.ev rfl) (F.ev rfl) rfl (by omega) (us:=[.string (str (C1 Xe7.kind)),.bool (decide (uAt Xe7.kind)),.bool (decide (uCo Xe7.kind)),.bool (decide (uTo Xe7.kind)),.bool (decide (uIt Xe7.kind)),.func (.func (Ff Xe7.kind)) #[] #[]]) (I7 (by omega))) rfl<|fun a F=>Cd ?_ rfl Db
     refine Cj F M Cl 1 ?_;clear F M a;intro w a M F;change Mem w0 G5 (_::.blk b22 [.string (str (C1 Xe7.kind)),.bool (decide (uAt Xe7.kind)),.bool (decide (uCo Xe7.kind)),.bool (decide (uTo Xe7.kind)),.bool (decide (uIt Xe7.kind)),.func (.func (Ff Xe7.kind)) #[] #[]] 138::.blk b8 [.int .u8 ((Xe7.kind:Nat):Int),.int .i64 Xe7.at_,.int .i64 Xe7.count,.int .i64 Xe7.to,.slice nae7 Xe7.items.length nce7] 65::_::_::L) _ at M;revert a;refine eQ (Bo M)<|fun a F=>Cd ?_ rfl Db
     revert a;refine Gd Cg M 0 rfl rfl rfl rfl rfl rfl<|?_;clear M;intro w M
     refine eQ (Bo M)<|Ik<|fun a F=>?_
     exact ⟨b22,b26,F.to ⟨rfl,rfl,rfl,rfl,rfl,rfl,rfl,rfl,trivial⟩,M⟩
    exact Db
   refine Cd ?_ rfl ?_
   ·skip
    revert a;refine C9 M Cg rfl rfl<|?_;clear M;intro b28 w M
    refine eQ (Bo M)<|fun a F=>Cd ?_ rfl ?_
    ·skip
     revert a;refine Bs Pq rfl rfl (Gw M)<|?_;clear M;rintro _ w M rfl
     refine eQ (Bo M)<|t_r (fun a F w M=>Gs (j:=Xe7.kind) Hf.k Cl rfl (F.ev rfl) (F.ev rfl) rfl (by omega) (us:=[.string (str (C1 Xe7.kind)),.bool (decide (uAt Xe7.kind)),.bool (decide (uCo Xe7.kind)),.bool (decide (uTo Xe7.kind)),.bool (decide (uIt Xe7.kind)),.func (.func (Ff Xe7.kind)) #[] #[]]) (I7 (by omega))) rfl<|fun a F=>Cd ?_ rfl Db
     revert a;refine C9 M Cl rfl rfl<|?_;clear M;intro b30 w M
     refine eQ (Bo M)<|fun a F=>Cd ?_ rfl Db
     refine Cj F M Cl 0 ?_;clear F M a;intro w a M F;change Mem w0 G5 (.blk b30 [.string (str (C1 Xe7.kind)),.bool (decide (uAt Xe7.kind)),.bool (decide (uCo Xe7.kind)),.bool (decide (uTo Xe7.kind)),.bool (decide (uIt Xe7.kind)),.func (.func (Ff Xe7.kind)) #[] #[]] 138::_::.blk b8 [.int .u8 ((Xe7.kind:Nat):Int),.int .i64 Xe7.at_,.int .i64 Xe7.count,.int .i64 Xe7.to,.slice nae7 Xe7.items.length nce7] 65::_::_::L) _ at M;revert a;refine eQ (Bo M)<|fun a F=>Cd ?_ rfl Db
     revert a;refine Gd Cg M 1 rfl rfl rfl rfl rfl rfl<|?_;clear M;intro w M
     refine eQ (Bo M)<|Ik<|?_
     have M:=M.perm (List.Perm.swap _ _ _);intro a F
     exact ⟨b30,b28,F.to ⟨rfl,rfl,rfl,rfl,rfl,rfl,rfl,rfl,trivial⟩,M⟩
    refine Cd ?_ rfl ?_
    ·skip
     revert a;refine C9 M Cl rfl rfl<|?_;clear M;intro b32 w M
     refine eQ (Bo M)<|fun a F=>Cd ?_ rfl Db
     revert a;refine Bs Pq rfl rfl (Gw M)<|?_;clear M;rintro _ w M rfl
     refine eQ (Bo M)<|t_r (fun a F w M=>Gs (j:=Xe7.kind) Hf.k Cl rfl (F.ev rfl) (F.ev rfl) rfl (by omega) (us:=[.string (str (C1 Xe7.kind)),.bool (decide (uAt Xe7.kind)),.bool (decide (uCo Xe7.kind)),.bool (decide (uTo Xe7.kind)),.bool (decide (uIt Xe7.kind)),.func (.func (Ff Xe7.kind)) #[] #[]]) (I7 (by omega))) rfl<|fun a F=>Cd ?_ rfl Db
     refine Cj F M Cl 0 ?_;clear F M a;intro w a M F;change Mem w0 G5 (.blk b32 [.string (str (C1 Xe7.kind)),.bool (decide (uAt Xe7.kind)),.bool (decide (uCo Xe7.kind)),.bool (decide (uTo Xe7.kind)),.bool (decide (uIt Xe7.kind)),.func (.func (Ff Xe7.kind)) #[] #[]] 138::_::.blk b8 [.int .u8 ((Xe7.kind:Nat):Int),.int .i64 Xe7.at_,.int .i64 Xe7.count,.int .i64 Xe7.to,.slice nae7 Xe7.items.length nce7] 65::_::_::L) _ at M;revert a;refine eQ (Bo M)<|fun a F=>Cd ?_ rfl Db
     revert a;refine Gd Cg M 1 rfl rfl rfl rfl rfl rfl<|?_;clear M;intro w M
     refine eQ (Bo M)<|Ik<|?_
     have M:=M.perm (List.Perm.swap _ _ _);intro a F
     exact ⟨b32,b28,F.to ⟨rfl,rfl,rfl,rfl,rfl,rfl,rfl,rfl,trivial⟩,M⟩
    exact Db
   exact Db
  clear F M;rintro a w ⟨b10k,b11k,F,M⟩;revert a;refine Ac<|A0 Cl.k rfl rfl<|Bg Bq M 1 rfl rfl rfl rfl<|?_
  replace M:=M.perm (Ao _ 4 _ rfl);replace M:=M.perm (Ao _ 4 _ rfl);change Mem w0 G5 (_::_::_::_::.blk b8 [.int .u8 ((Xe7.kind:Nat):Int),.int .i64 Xe7.at_,.int .i64 Xe7.count,.int .i64 Xe7.to,.slice nae7 Xe7.items.length nce7] 65::L) _ at M;refine P6 Agn rfl rfl (M0 (s:=(C1 Xe7.kind)) hpm M hnm hnilm (by (first | omega | (simp only [List.length_append,List.length_cons,List.length_nil];omega))))<|?_;clear M;rintro _ _ w M ⟨rfl,au34,nu34,cu34,rfl,hnu34,hnilu34⟩
  refine Ag<|Ac<|Ar (fun a F=>Af Cl rfl (F.ev rfl) (cs:=[.string (str (C1 Xe7.kind)),.bool (decide (uAt Xe7.kind)),.bool (decide (uCo Xe7.kind)),.bool (decide (uTo Xe7.kind)),.bool (decide (uIt Xe7.kind)),.func (.func (Ff Xe7.kind)) #[] #[]]) rfl (M.cellsL (k:=3) rfl rfl)) rfl<|Ge ent82 rfl rfl (V3 (k:=Xe7.kind) (b:=b8) (b2:=b11k) M)<|?_;clear M;rintro _ Gq35 w hGq35 M ⟨aq35,cq35,rfl,Sq35⟩
  replace HG:=HG.mono hGq35;replace SN:=SN.mono Bp hGq35;replace Ae7:=Ae7.mono hGq35;replace SIe7:=SIe7.mono Aw hGq35;refine B8 N3.k rfl<|Aa rfl<|Ax<|?_
  have hz2:(E1 (ns.take i))++(C1 Xe7.kind)=E1 (ns.take i)++C1 Xe7.kind++Ct ((fm (nuK Xe7 ((Xe7.items.length:Nat):Int))).take 0):=by simp [Ct]
  intro a F;rw [hz2] at M hnu34 hnilu34;have hfe:=Sa (x:=Xe7) (b:=b8) (b2:=b11k) (sz:=((Xe7.items.length:Nat):Int));refine Bz (fun m a' w'=>∃ (j:Nat),∃ (ak:Option Addr),∃ (nk:Nat),∃ (ck:Nat),∃ (pk:Value),m=(fm (He Xe7.kind b8 b11k)).length - j∧Fits 68 a' [(4,.pointer (some ⟨b3,0,none⟩)),(6,.pointer (some ⟨b8,0,none⟩)),(8,.string (str (L3 Xe7.items))),(10,.pointer (some ⟨b10k,0,none⟩)),(11,.pointer (some ⟨b11k,0,none⟩)),(17,.slice an ns.length cn),(18,.int .i64 ((ns.length:Nat):Int)),(19,.int .i64 ((i:Nat):Int)),(48,.slice aq35 ((fm (He Xe7.kind b8 b11k)).length) (cq35)),(49,.int .i64 ((((fm (He Xe7.kind b8 b11k)).length:Nat):Int))),(50,.int .i64 ((j:Nat):Int))]∧Mem w0 Gq35 (.blk b3 [pk,.slice ak nk ck] 101::.row (.slice ak nk ck) (nk) (bc (E1 (ns.take i)++C1 Xe7.kind++Ct ((fm (nuK Xe7 ((Xe7.items.length:Nat):Int))).take j))) 5 1::.blk b11k [.int .i64 ((Xe7.items.length:Nat):Int)] 3::.blk b10k [.string (str (C1 Xe7.kind)),.bool (decide (uAt Xe7.kind)),.bool (decide (uCo Xe7.kind)),.bool (decide (uTo Xe7.kind)),.bool (decide (uIt Xe7.kind)),.func (.func (Ff Xe7.kind)) #[] #[]] 138::.blk b8 [.int .u8 ((Xe7.kind:Nat):Int),.int .i64 Xe7.at_,.int .i64 Xe7.count,.int .i64 Xe7.to,.slice nae7 Xe7.items.length nce7] 65::L) w'∧(j≤(fm (He Xe7.kind b8 b11k)).length)∧(pk=.pointer none∨pk=.pointer (some ⟨b3,0,none⟩))∧(nk=(E1 (ns.take i)++C1 Xe7.kind++Ct ((fm (nuK Xe7 ((Xe7.items.length:Nat):Int))).take j)).length)∧((E1 (ns.take i)++C1 Xe7.kind++Ct ((fm (nuK Xe7 ((Xe7.items.length:Nat):Int))).take j))=[]→ak=none)) _ ⟨0,(au34),(nu34),(cu34),(.pointer (some ⟨b3,0,none⟩)),rfl,F.to ⟨rfl,rfl,rfl,rfl,rfl,rfl,rfl,rfl,rfl,rfl,rfl,trivial⟩,M,Nat.zero_le _,(Or.inr rfl),hnu34,hnilu34⟩ ?_
  clear F M;rintro m a w ⟨j,ak,nk,ck,pk,rfl,F,M,hj,hpk,hnk,hnilk⟩;revert a;refine Ac<|C2 rfl rfl<|Ag<|Ap rfl ?_ ?_
  ·intro h36b;have h36:=dT h36b;refine Aq<|Ag<|Ax<|Ac<|?_
   obtain ⟨Xe37,hXe37⟩:=A2 (xs:=(fm (He Xe7.kind b8 b11k))) (i:=j) (by omega);obtain ⟨be37,oe37,_,Ie37,_,Ae37,rfl⟩:=Sq35.at hXe37;refine D0 N3.k N2 Ie37 rfl rfl<|Dq N2 M Ae37 0 rfl rfl (by omega) rfl<|Ab rfl<|Bc<|Cm<|?_
   obtain ⟨z,hz,hpz⟩:=fld_get (sz:=((Xe7.items.length:Nat):Int)) hXe37;have hzi:=hnu z (List.mem_of_getElem? hz);have hzl:=Aal hzi;have hwl:=P1 (zs:=(fm (nuK Xe7 ((Xe7.items.length:Nat):Int))).take j) fun y hy=>hnu y (List.mem_of_mem_take hy);have hwt:((fm (nuK Xe7 ((Xe7.items.length:Nat):Int))).take j).length≤(fm (nuK Xe7 ((Xe7.items.length:Nat):Int))).length:=List.length_take_le' _ _;have hpc:w.cell? ⟨Xe37.1,Xe37.2,none⟩=some (.int .i64 z):=by rcases hpz with ⟨h8_,rfl⟩ | ⟨h8_,rfl⟩ | ⟨h8_,rfl⟩ | ⟨h8_,rfl⟩ <;> rw [h8_];exact M.cellL (k:=4) rfl rfl;exact M.cellL (k:=4) rfl rfl;exact M.cellL (k:=4) rfl rfl;exact M.cellL (k:=2) rfl rfl
   refine Az<|Aa rfl<|Fi rfl<|Ar (fun a F=>Al (agf Cg rfl) (F.ev rfl) hpc) rfl<|Bs Agl rfl rfl (T4 (z:=z) M HG hzi)<|?_;clear M;rintro _ w M rfl
   refine Ar (fun a F=>Dx (F.ev rfl) (F.ev rfl) (by (first | omega | (simp only [List.length_append,List.length_cons,List.length_nil];omega)))) rfl<|?_
   replace M:=M.perm (Ao _ 1 _ rfl);replace M:=M.perm (Ao _ 1 _ rfl);change Mem w0 Gq35 (_::_::_::_::.blk b8 [.int .u8 ((Xe7.kind:Nat):Int),.int .i64 Xe7.at_,.int .i64 Xe7.count,.int .i64 Xe7.to,.slice nae7 Xe7.items.length nce7] 65::L) _ at M;refine P6 Agn rfl rfl (M0 (s:=(([32]:List UInt8)++(Lib.itoa z))) hpk M hnk hnilk (by (first | omega | (simp only [List.length_append,List.length_cons,List.length_nil];omega))))<|?_;clear M;rintro _ _ w M ⟨rfl,au38,nu38,cu38,rfl,hnu38,hnilu38⟩
   refine Az<|Bx rfl rfl<|Aa rfl<|Bc<|Cm<|?_
   have hsn:(E1 (ns.take i)++C1 Xe7.kind++Ct ((fm (nuK Xe7 ((Xe7.items.length:Nat):Int))).take j))++(([32]:List UInt8)++(Lib.itoa z))=E1 (ns.take i)++C1 Xe7.kind++Ct ((fm (nuK Xe7 ((Xe7.items.length:Nat):Int))).take (j+1)):=Abp hz;intro a F;rw [hsn] at M hnu38 hnilu38
   exact ⟨_,by omega,j+1,(au38),(nu38),(cu38),(.pointer (some ⟨b3,0,none⟩)),rfl,F.to ⟨rfl,rfl,rfl,rfl,rfl,rfl,rfl,rfl,rfl,rfl,rfl,trivial⟩,M,by omega,(Or.inr rfl),hnu38,hnilu38⟩
  intro h39b;have h39:=dF h39b;refine B5<|Bw<|Bw<|Dj<|Cm<|?_
  have hfl:(fm (He Xe7.kind b8 b11k)).length≤j:=by omega
  have hwl:=P1 (zs:=(fm (nuK Xe7 ((Xe7.items.length:Nat):Int))).take j) fun y hy=>hnu y (List.mem_of_mem_take hy);have hwt:((fm (nuK Xe7 ((Xe7.items.length:Nat):Int))).take j).length≤(fm (nuK Xe7 ((Xe7.items.length:Nat):Int))).length:=List.length_take_le' _ _;refine Az<|Aa rfl<|Ar (fun a F=>Dx (F.ev rfl) (F.ev rfl) (by (first | omega | (simp only [List.length_append,List.length_cons,List.length_nil];omega)))) rfl<|?_
  replace M:=M.perm (Ao _ 1 _ rfl);replace M:=M.perm (Ao _ 1 _ rfl);change Mem w0 Gq35 (_::_::_::_::.blk b8 [.int .u8 ((Xe7.kind:Nat):Int),.int .i64 Xe7.at_,.int .i64 Xe7.count,.int .i64 Xe7.to,.slice nae7 Xe7.items.length nce7] 65::L) _ at M;refine P6 Agn rfl rfl (M0 (s:=(([10]:List UInt8)++(L3 Xe7.items))) hpk M hnk hnilk (by (first | omega | (simp only [List.length_append,List.length_cons,List.length_nil];omega))))<|?_;clear M;rintro _ _ w M ⟨rfl,au40,nu40,cu40,rfl,hnu40,hnilu40⟩
  refine Az<|Bx rfl rfl<|Aa rfl<|Bc<|Cm<|?_
  have hsn:(E1 (ns.take i)++C1 Xe7.kind++Ct ((fm (nuK Xe7 ((Xe7.items.length:Nat):Int))).take j))++(([10]:List UInt8)++(L3 Xe7.items))=E1 (ns.take (i+1)):=Ali hXe7 rfl (by have h9_:=Sa (x:=Xe7) (b:=0) (b2:=0) (sz:=((Xe7.items.length:Nat):Int));have h8_:=hfl;omega) ht0.2;intro a F;rw [hsn] at M hnu40 hnilu40
  exact ⟨_,by omega,i+1,(au40),(nu40),(cu40),(.pointer (some ⟨b3,0,none⟩)),rfl,Gq35,(hG5.trans hGq35),F.to ⟨rfl,rfl,rfl,rfl,trivial⟩,(M.weaken (cC (.cons_cons _ (cN (.cons _ (cN (sR _))))))),by omega,by rw [Gt hS,Ady hXe7,Agk hne];omega,by rw [← hsn];simp only [List.length_append,List.length_cons,List.length_nil];omega,(Or.inr rfl),hnu40,hnilu40⟩
 intro h41b;have h41:=dF h41b;refine B5<|Bw<|Bw<|Dj<|Ag<|Ac<|?_
 replace M:=M.perm (Ao _ 1 _ rfl);replace M:=M.perm (Ao _ 1 _ rfl);change Mem w0 G5 (_::_::L) _ at M;refine Bs ent84 rfl rfl (Ajr M hnm)<|?_;clear M;rintro _ w M rfl
 refine Da rfl rfl<|Ap rfl ?_ ?_
 ·intro h42b;have h42:=dT h42b;refine Ac<|Ab rfl<|Ab rfl<|Ae<|D6 rfl rfl rfl<|?_
  exact ⟨_,hG5,M.weaken dS2,by rw [(Alh (by omega) hS (by omega) (by omega)).1,(Alh (by omega) hS (by omega) (by omega)).2];try rfl⟩
 intro h43b;have h43:=dF h43b;refine Aq<|Ac<|?_
 replace M:=M.perm (Ao _ 1 _ rfl);replace M:=M.perm (Ao _ 1 _ rfl);change Mem w0 G5 (_::_::L) _ at M;refine Bs ent43 rfl rfl (W5 M hnm hnilm)<|?_;clear M;rintro _ w M rfl
 refine Ab rfl<|Ab rfl<|Ae<|D6 rfl rfl rfl<|?_
 exact ⟨_,hG5,M,by rw [(nt_0 (by omega) hS (by omega) (by omega)).1,(nt_0 (by omega) hS (by omega) (by omega)).2];try rfl⟩
section
variable {P:Program} {w:World} {ρ:Operand→Value} {dd:Option Tmp} {g:Option (Nat × Bool)} {t:TypeId} {p:String} {af:Array Edge}
theorem U3 {ta et:TypeId} {i:TI} {x:Operand} {n b:Nat} (ha:tk P ta=.array n et) (ht:TOK P et i) (hx:ρ x=.pointer (some ⟨b,0,none⟩)) :
  (execOp ρ ⟨dd,.slice ta x none none none,t,p,af,g⟩).run P w=.ok (.value (.slice (some ⟨b,0,none⟩) n n)) w:=by
 simp [execOp,Instr.sliceAt,Cu (Gb ha),hx,Instr.sureAddr,Instr.sliceBounds,Instr.sliceBound,ht.sizeOf,add_plain]
theorem Zi {ta et:TypeId} {i:TI} {x y:Operand} {m b o:Nat} {k:IntKind} {z:Int} {j:Nat} (ha:tk P ta=.array m et) (ht:TOK P et i) (hx:ρ x=.pointer (some ⟨b,o,none⟩)) (hy:ρ y=.int k z) (hz:z=(j:Int)) (hj:j < m) :
  (execOp ρ ⟨dd,.indexAddr ta x y,t,p,af,g⟩).run P w=.ok (.value (.pointer (some ⟨b,o+j * i.size,none⟩))) w:=by
 subst hz;have c1:(0:Int)≤(j:Int):=by omega
 have c2:(j:Int) < (m:Int):=by omega
 simp [execOp,Instr.indexAt,hx,hy,asIntOf,Cu (Gb ha),hj,ht.sizeOf,add_plain,Instr.sureAddr]
end
def kfn (k:Nat):Value:=if k=0 then .nilFunc else .func (.func (Ff k)) #[] #[]
theorem Tz {k:Nat} (h:k < 6):(Il.drop (0+k * 6)).take 6=[.string (str (C1 k)),.bool (decide (uAt k)),.bool (decide (uCo k)),.bool (decide (uTo k)),.bool (decide (uIt k)),kfn k]:=by
 rcases (show k=0∨k=1∨k=2∨k=3∨k=4∨k=5 by omega) with rfl | rfl | rfl | rfl | rfl | rfl <;> rfl
def B7 (s:List UInt8):List (List UInt8):=Lib.split s [32]
def H9 (r:List (List UInt8)):List UInt8:=r.flatMap fun s=>32::s
theorem Q2:∀ (k:Nat) (s:List UInt8) (p:List UInt8),p∈Lib.splitK [32] 0 k s→p.length≤s.length
 | 0,s,p,h=>by simp only [Lib.splitK,List.mem_singleton] at h;subst h;exact Nat.le_refl _
 | k+1,s,p,h=>by
  unfold Lib.splitK at h
  split at h
  ·simp only [List.mem_singleton] at h;subst h;exact Nat.le_refl _
  ·rcases List.mem_cons.1 h with rfl | h
   ·simp only [List.length_take];omega
   ·have:=Q2 k _ p h;simp only [List.length_drop] at this;omega
theorem So {s p:List UInt8} (h:p∈B7 s):p.length≤s.length:=Q2 _ _ _ h
theorem Y9 {d r:List UInt8} (k:Nat) (h:(32:UInt8) ∉ d):Lib.splitK [32] 0 (k+1) (d++32::r)=d::Lib.splitK [32] 0 k r:=by
 have h1:Lib.index (d++32::r) [32]=((d.length:Nat):Int):=by rw [K9,Yd h,if_pos (by simp)]
 rw [Lib.splitK,h1,if_neg (by rw [beq_iff_eq];omega)]
 congr 1
 ·simp
 congr 1;simp
theorem Ma {s:List UInt8} {r:List (List UInt8)}:H9 (s::r)=32::(s++H9 r):=by simp [H9]
theorem Nu:∀ (d:List UInt8) (r:List (List UInt8)),(∀ s∈d::r,(32:UInt8) ∉ s)→Lib.splitK [32] 0 r.length (d++H9 r)=d::r
 | d,[],_=>by simp [H9,Lib.splitK]
 | d,y::r,h=>by
  rw [Ma,List.length_cons,Y9 _ (h d (by simp)),Nu y r (fun s hs=>h s (by simp [hs]))]
theorem Rv:∀ (d:List UInt8) (r:List (List UInt8)),(∀ s∈d::r,(32:UInt8) ∉ s)→(d++H9 r).count 32=r.length
 | d,[],h=>by simpa [H9] using List.count_eq_zero.2 (h d (by simp))
 | d,y::r,h=>by
  rw [Ma,List.count_append,List.count_cons_self,Rv y r (fun s hs=>h s (by simp [hs])),List.count_eq_zero.2 (h d (by simp)),List.length_cons]
  omega
theorem Xm {d:List UInt8} {r:List (List UInt8)} (h:∀ s∈d::r,(32:UInt8) ∉ s):B7 (d++H9 r)=d::r:=by
 unfold B7 Lib.split;rw [Lib.count_one,Rv d r h,Nu d r h]
theorem O5:∀ (k:Nat) (s:List UInt8),∃ d r,Lib.splitK [32] 0 k s=d::r∧s=d++H9 r
 | 0,s=>⟨s,[],rfl,by simp [H9]⟩
 | k+1,s=>by
  unfold Lib.splitK
  by_cases hi:ix 32 s < s.length
  ·have h1:Lib.index s [32]=((ix 32 s:Nat):Int):=by rw [K9,if_pos hi]
   rw [h1,if_neg (by rw [beq_iff_eq];omega)];obtain ⟨d,r,e1,e2⟩:=O5 k (s.drop (((ix 32 s:Nat):Int).toNat+([32]:List UInt8).length));refine ⟨_,_,rfl,?_⟩;rw [e1,Ma,← e2];have h2:=Ama 32 s hi;have h3:s.drop (ix 32 s)=32::s.drop (ix 32 s+1):=by
    rw [List.drop_eq_getElem_cons hi]
    congr 1
    rw [List.getElem?_eq_getElem hi] at h2
    exact Option.some.inj h2
   have h4:s=s.take (ix 32 s)++32::s.drop (ix 32 s+1):=by rw [← h3,List.take_append_drop]
   simpa using h4
  ·have h1:Lib.index s [32] = -1:=by rw [K9,if_neg hi]
   rw [h1]
   exact ⟨s,[],by simp,by simp [H9]⟩
theorem Q0 (s:List UInt8):∃ d r,B7 s=d::r∧s=d++H9 r:=O5 _ s
theorem Y0 (zs:List Int):Ct zs=H9 (zs.map Lib.itoa):=by unfold Ct H9;rw [List.flatMap_map]
theorem Aak {c:UInt8} {z:Int} (h:¬ Rl c) (h2:c≠45):c ∉ Lib.itoa z:=by
 unfold Lib.itoa
 split
 ·intro h3
  rcases List.mem_cons.1 h3 with h3 | h3
  ·exact h2 h3
  exact Nk h h3
 exact Nk h
theorem V7 {k:Nat} {c:UInt8} (h:c=10∨c=32):c ∉ C1 k:=by
 unfold C1
 split <;> rcases h with rfl | rfl <;> decide
theorem Yz {zs:List Int}:(10:UInt8) ∉ Ct zs:=by
 unfold Ct;simp only [List.mem_flatMap,not_exists,not_and,List.mem_cons,not_or]
 exact fun z _=>⟨by decide,Aak (by decide) (by decide)⟩
theorem Ua {x:NotD} {sz:Int} {r:List UInt8}:Lib.cut (Fq x sz++r) [10]=(C1 x.kind++Ct (fm (nuK x sz)),r,true):=by
 have:Fq x sz++r=(C1 x.kind++Ct (fm (nuK x sz)))++10::r:=by unfold Fq;simp
 rw [this,Lz];intro h
 rcases List.mem_append.1 h with h | h
 ·exact V7 (Or.inl rfl) h
 exact Yz h
theorem Oo {k:Nat} {zs:List Int}:B7 (C1 k++Ct zs)=C1 k::zs.map Lib.itoa:=by
 rw [Y0,Xm];intro s hs
 rcases List.mem_cons.1 hs with rfl | hs
 ·exact V7 (Or.inr rfl)
 obtain ⟨z,_,rfl⟩:=List.mem_map.1 hs
 exact Aak (by decide) (by decide)
theorem Qf {j k:Nat} (hj:1≤j∧j≤5) (hk:1≤k∧k≤5) (h:C1 j=C1 k):j=k:=by
 rcases (show j=1∨j=2∨j=3∨j=4∨j=5 by omega) with rfl | rfl | rfl | rfl | rfl <;>
 rcases (show k=1∨k=2∨k=3∨k=4∨k=5 by omega) with rfl | rfl | rfl | rfl | rfl <;> first | rfl | (exact absurd h (by decide))
theorem Zs:∀ (l:List UInt8) (acc:Nat),(∀ c∈l,Rl c)→P3 l acc≤18446744073709551615→Lib.parseUint10 acc l=.ok (P3 l acc)
 | [],acc,_,_=>rfl
 | c::r,acc,hd,hv=>by
  have hc:48≤c.toNat∧c.toNat≤57:=hd c (by simp);simp only [P3] at hv ⊢;have:=Xb r (10 * acc+(c.toNat - 48));unfold Lib.parseUint10;rw [if_pos hc,if_neg (by omega),if_neg (by omega),Nat.mul_comm acc 10]
  exact Zs r _ (fun x hx=>hd x (by simp [hx])) hv
theorem Afn {u:Nat} (h:u≤18446744073709551615):Lib.parseMag (Lib.decDigits u)=.ok u:=by
 unfold Lib.parseMag;rw [if_neg (Aeh u),Zs _ 0 (Sc u) (by rw [Kh];exact h),Kh]
theorem Qk {z:Int} (h:Bb .i64 z):Lib.atoiAll (Lib.itoa z)=.ok z:=by
 obtain ⟨h1,h2⟩:=h;have h1:-9223372036854775808≤z:=h1;have h2:z≤9223372036854775807:=h2
 rcases Int.lt_or_le z 0 with h0 | h0
 ·obtain ⟨u,hu⟩:=Int.eq_ofNat_of_zero_le (show 0≤-z by omega);have hz:z = -(u:Int):=by omega
  subst hz;rw [Lib.itoa_neg u (by omega)];unfold Lib.atoiAll;simp only [show (45:UInt8).toNat=45 from rfl,or_true,if_true,Afn (show u≤18446744073709551615 by omega),not_true_eq_false,false_and,if_false,true_and];rw [if_neg (by omega)]
 ·obtain ⟨u,rfl⟩:=Int.eq_ofNat_of_zero_le h0;rw [Lib.itoa_nonneg]
  cases hd:Lib.decDigits u with
  | nil=>exact absurd hd (Aeh u)
  | cons c r =>
   have hc:=Sc u c (by rw [hd];simp);have hc':48≤c.toNat∧c.toNat≤57:=hc;unfold Lib.atoiAll;simp only [show ¬ (c.toNat=43∨c.toNat=45) by omega,if_false,← hd];rw [Afn (show u≤18446744073709551615 by omega)];simp only [show ¬ c.toNat=45 by omega,not_false_eq_true,true_and,false_and,if_false];rw [if_neg (by omega)]
theorem Amb {z y:Int} (hz:Bb .i64 z) (hy:Bb .i64 y) (h:Lib.itoa z=Lib.itoa y):z=y:=by
 have h1:=Qk hz;rw [h,Qk hy] at h1
 exact (Lib.NumEnd.ok.inj h1).symm
structure Head (x:NotD) (sz:Int):Prop where
 kd:1≤x.kind∧x.kind≤5
 fa:uAt x.kind∨x.at_=0
 fc:uCo x.kind∨x.count=0
 ft:uTo x.kind∨x.to=0
 fi:uIt x.kind∨sz=0
 it:x.items=[]
 ra:Bb .i64 x.at_
 rc:Bb .i64 x.count
 rt:Bb .i64 x.to
 rs:0≤sz∧sz≤1024
structure FlH (x:NotD) (sz:Int):Prop where
 kd:1≤x.kind∧x.kind≤5
 fa:uAt x.kind∨x.at_=0
 fc:uCo x.kind∨x.count=0
 ft:uTo x.kind∨x.to=0
 fi:uIt x.kind∨sz=0
 it:x.items=[]
 ra:Bb .i64 x.at_
 rc:Bb .i64 x.count
 rt:Bb .i64 x.to
 rz:Bb .i64 sz
theorem Head.fl {x:NotD} {sz:Int} (h:Head x sz):FlH x sz:=⟨h.kd,h.fa,h.fc,h.ft,h.fi,h.it,h.ra,h.rc,h.rt,C0 (by have:=h.rs;omega) (by have:=h.rs;omega)⟩
theorem FlH.head {x:NotD} {sz:Int} (h:FlH x sz) (h2:0≤sz∧sz≤1024):Head x sz:=⟨h.kd,h.fa,h.fc,h.ft,h.fi,h.it,h.ra,h.rc,h.rt,h2⟩
theorem FlH.ink {x:NotD} {sz:Int} (h:FlH x sz):∀ z∈fm (nuK x sz),Bb .i64 z:=X7 h.ra h.rc h.rt h.rz
theorem Head.ink {x:NotD} {sz:Int} (h:Head x sz):∀ z∈fm (nuK x sz),Bb .i64 z:=X7 h.ra h.rc h.rt (C0 (by have:=h.rs;omega) (by have:=h.rs;omega))
def Jg (c:List UInt8):Prop:=∃ x sz r,Head x sz∧c=Fq x sz++r
theorem Ll:∀ {a b:List Int},(∀ z∈a,Bb .i64 z)→(∀ z∈b,Bb .i64 z)→a.map Lib.itoa=b.map Lib.itoa→a=b
 | [],[],_,_,_=>rfl
 | [],y::b,_,_,h=>by cases h
 | z::a,[],_,_,h=>by cases h
 | z::a,y::b,h1,h2,h=>by
  simp only [List.map_cons,List.cons.injEq] at h;rw [Amb (h1 z (by simp)) (h2 y (by simp)) h.1,Ll (fun q hq=>h1 q (by simp [hq])) (fun q hq=>h2 q (by simp [hq])) h.2]
theorem fm_cons {α:Type} {b:Bool} {v:α} {l:List (Bool × α)}:fm ((b,v)::l)=(if b=true then [v] else [])++fm l:=by
 unfold fm;cases b <;> simp
theorem Alg {x y:NotD} {sz tz:Int} (hk:x.kind=y.kind) (hx:FlH x sz) (hy:FlH y tz) (h:fm (nuK x sz)=fm (nuK y tz)):x=y∧sz=tz:=by
 have key:∀ (b:Bool) (a c:Int) (l r:List Int),l.length=r.length→(if b=true then [a] else [])++l=(if b=true then [c] else [])++r→l=r∧(b=true→a=c):=by
  intro b a c l r hl h
  cases b
  ·exact ⟨by simpa using h,fun h=>by cases h⟩
  simp only [if_true,List.cons_append,List.nil_append,List.cons.injEq] at h;exact ⟨h.2,fun _=>h.1⟩
 have lens:∀ (b:Bool) (a c:Int) (l r:List Int),l.length=r.length→((if b=true then [a] else [])++l).length=((if b=true then [c] else [])++r).length:=by
  intro b a c l r hl;cases b <;> simp [hl]
 unfold nuK at h;rw [hk] at h;simp only [fm_cons] at h;have e0:(fm ([]:List (Bool × Int))).length=(fm ([]:List (Bool × Int))).length:=rfl;have e1:=lens (decide (uIt y.kind)) sz tz _ _ e0;have e2:=lens (decide (uTo y.kind)) x.to y.to _ _ e1;have e3:=lens (decide (uCo y.kind)) x.count y.count _ _ e2;obtain ⟨h1,g1⟩:=key _ _ _ _ _ e3 h;obtain ⟨h2,g2⟩:=key _ _ _ _ _ e2 h1;obtain ⟨h3,g3⟩:=key _ _ _ _ _ e1 h2;obtain ⟨_,g4⟩:=key _ _ _ _ _ e0 h3;have pick:∀ {u v:Prop} {a c:Int} [Decidable v],(u↔v)→(u∨a=0)→(v∨c=0)→(decide v=true→a=c)→a=c:=by
  intro u v a c _ huv ha hc hg
  by_cases hv:v
  ·exact hg (decide_eq_true hv)
  rw [ha.resolve_left (fun h=>hv (huv.1 h)),hc.resolve_left hv]
 have i1:x.at_=y.at_:=pick (by rw [hk]) hx.fa hy.fa g1;have i2:x.count=y.count:=pick (by rw [hk]) hx.fc hy.fc g2;have i3:x.to=y.to:=pick (by rw [hk]) hx.ft hy.ft g3;have i4:sz=tz:=pick (by rw [hk]) hx.fi hy.fi g4;refine ⟨?_,i4⟩;have i5:x.items=y.items:=by rw [hx.it,hy.it]
 clear hx hy key lens pick e1 e2 e3 h1 h2 h3 h g1 g2 g3 g4
 cases x;cases y
 simp only [NotD.mk.injEq] at *
 exact ⟨hk,i1,i2,i3,i5⟩
theorem Ng {x y:NotD} {sz tz:Int} {r q:List UInt8} (hx:Head x sz) (hy:Head y tz) (h:Fq x sz++r=Fq y tz++q):x=y∧sz=tz∧r=q:=by
 have h1:Lib.cut (Fq x sz++r) [10]=Lib.cut (Fq y tz++q) [10]:=by rw [h]
 rw [Ua,Ua] at h1;simp only [Prod.mk.injEq,and_true] at h1;have h2:B7 (C1 x.kind++Ct (fm (nuK x sz)))=B7 (C1 y.kind++Ct (fm (nuK y tz))):=by rw [h1.1]
 rw [Oo,Oo,List.cons.injEq] at h2;have hk:=Qf hx.kd hy.kd h2.1;obtain ⟨e1,e2⟩:=Alg hk hx.fl hy.fl (Ll hx.ink hy.ink h2.2)
 exact ⟨e1,e2,h1.2⟩
def okI (ys:List ItemD):Prop:=∀ y∈ys,ItemOk 8 y∧y.key < 18446744073709551616∧y.typ < 256
def Qx (c:List UInt8):Prop:=∃ y r,(ItemOk 8 y∧y.key < 18446744073709551616∧y.typ < 256)∧c=Ep y++10::r
theorem T6 {y:ItemD} {r:List UInt8} (h:ItemOk 8 y):Lib.cut (Ep y++10::r) [10]=(Ep y,r,true):=Lz (Ty h)
theorem P5 {a b:List ItemD}:Dg (a++b)=Dg a++Dg b:=by unfold Dg;simp
theorem Ahe {y:ItemD}:Dg [y]=Ep y++[10]:=by unfold Dg;simp
theorem Oi:∀ {a b:List ItemD} {r q:List UInt8},okI a→okI b→a.length=b.length→Dg a++r=Dg b++q→a=b∧r=q
 | [],[],r,q,_,_,_,h=>⟨rfl,by simpa [Dg] using h⟩
 | [],y::b,_,_,_,_,h,_=>by cases h
 | x::a,[],_,_,_,_,h,_=>by cases h
 | x::a,y::b,r,q,h1,h2,h3,h=>by
  have e1:Dg (x::a)++r=Ep x++10::(Dg a++r):=by unfold Dg;simp
  have e2:Dg (y::b)++q=Ep y++10::(Dg b++q):=by unfold Dg;simp
  rw [e1,e2] at h;have hx:=h1 x (by simp);have hy:=h2 y (by simp);have h4:Lib.cut (Ep x++10::(Dg a++r)) [10]=Lib.cut (Ep y++10::(Dg b++q)) [10]:=by rw [h]
  rw [T6 hx.1,T6 hy.1] at h4;simp only [Prod.mk.injEq,and_true] at h4;have e:=Wh hx.1 hy.1 hx.2.1 hy.2.1 h4.1;obtain ⟨e3,e4⟩:=Oi (fun z hz=>h1 z (by simp [hz])) (fun z hz=>h2 z (by simp [hz])) (by simpa using h3) h4.2
  exact ⟨by rw [e,e3],e4⟩
theorem Nf {a b:List ItemD} {r q:List UInt8} (ha:okI a) (hb:okI b) (hl:a.length < b.length) (h:Dg a++r=Dg b++q):Qx r:=by
 have h1:b=b.take a.length++b.drop a.length:=(List.take_append_drop _ _).symm;rw [h1,P5,List.append_assoc] at h;obtain ⟨_,h2⟩:=Oi ha (fun y hy=>hb y (List.mem_of_mem_take hy)) (by rw [List.length_take];omega) h
 cases hd:b.drop a.length with
 | nil=>have:=congrArg List.length hd;simp only [List.length_drop,List.length_nil] at this;omega
 | cons y t =>
  rw [hd] at h2;refine ⟨y,Dg t++q,hb y (List.mem_of_mem_drop (by rw [hd];simp)),?_⟩;rw [h2];unfold Dg;simp
def nlN (xs:List NotD):Nat:=(xs.map fun x=>1+x.items.length).sum
theorem Tu {xs:List NotD} {x:NotD}:nlN (xs++[x])=nlN xs+(1+x.items.length):=by unfold nlN;simp
inductive PR:List NotD→List UInt8→List NotD × Nat × Int→Prop
 | done {xs}:PR xs [] (xs,0,0)
 | nohead {xs c}:c≠[]→¬ Jg c→PR xs c ([],nlN xs+1,5)
 | full {xs c}:Jg c→xs.length=32→PR xs c ([],nlN xs+1,3)
 | bad {xs c x sz ys r}:Head x sz→xs.length≠32→c=Fq x sz++(Dg ys++r)→okI ys→((ys.length:Nat):Int) < sz→¬ Qx r→PR xs c ([],nlN xs+1+ys.length+1,5)
 | step {xs c x sz ys r q}:Head x sz→xs.length≠32→c=Fq x sz++(Dg ys++r)→okI ys→((ys.length:Nat):Int)=sz→PR (xs++[{ x with items:=ys }]) r q→PR xs c q
theorem Pj {x:NotD} {sz:Int} {r:List UInt8}:Fq x sz++r≠[]:=by unfold Fq;simp
theorem Agc {c:List UInt8} (h:Jg c):c≠[]:=by
 obtain ⟨x,sz,r,_,rfl⟩:=h;exact Pj
theorem PR.uniq {xs:List NotD} {c:List UInt8} {a b:List NotD × Nat × Int} (h1:PR xs c a):PR xs c b→a=b:=by
 induction h1 with
 | done =>
  intro h2
  cases h2 with
  | done=>rfl
  | nohead h _=>exact absurd rfl h
  | full h _=>exact absurd rfl (Agc h)
  | bad _ _ h=>exact absurd h.symm Pj
  | step _ _ h=>exact absurd h.symm Pj
 | nohead h hn =>
  intro h2
  cases h2 with
  | done=>exact absurd rfl h
  | nohead=>rfl
  | full h3 _=>exact absurd h3 hn
  | bad h3 _ h4=>exact absurd ⟨_,_,_,h3,h4⟩ hn
  | step h3 _ h4=>exact absurd ⟨_,_,_,h3,h4⟩ hn
 | full h hl =>
  intro h2
  cases h2 with
  | done=>exact absurd rfl (Agc h)
  | nohead _ h3=>exact absurd h h3
  | full=>rfl
  | bad _ h3=>exact absurd hl h3
  | step _ h3=>exact absurd hl h3
 | @bad xs c x sz ys r hh hl hc hok hlt hn =>
  intro h2
  cases h2 with
  | done=>exact absurd hc.symm Pj
  | nohead _ h3=>exact absurd ⟨_,_,_,hh,hc⟩ h3
  | full _ h3=>exact absurd h3 hl
  | @bad _ _ y tz zs q hh2 _ hc2 hok2 hlt2 hn2 =>
   rw [hc] at hc2;obtain ⟨_,rfl,h4⟩:=Ng hh hh2 hc2
   rcases Nat.lt_trichotomy ys.length zs.length with h5 | h5 | h5
   ·exact absurd (Nf hok hok2 h5 h4) hn
   ·rw [h5]
   ·exact absurd (Nf hok2 hok h5 h4.symm) hn2
  | @step _ _ y tz zs q _ hh2 _ hc2 hok2 he2 _ =>
   rw [hc] at hc2;obtain ⟨_,rfl,h4⟩:=Ng hh hh2 hc2
   exact absurd (Nf hok hok2 (by omega) h4) hn
 | @step xs c x sz ys r q hh hl hc hok he _ ih =>
  intro h2
  cases h2 with
  | done=>exact absurd hc.symm Pj
  | nohead _ h3=>exact absurd ⟨_,_,_,hh,hc⟩ h3
  | full _ h3=>exact absurd h3 hl
  | @bad _ _ y tz zs q2 hh2 _ hc2 hok2 hlt2 hn2 =>
   rw [hc] at hc2;obtain ⟨_,rfl,h4⟩:=Ng hh hh2 hc2
   exact absurd (Nf hok2 hok (by omega) h4.symm) hn2
  | @step _ _ y tz zs q2 _ hh2 _ hc2 hok2 he2 hp =>
   rw [hc] at hc2;obtain ⟨rfl,rfl,h4⟩:=Ng hh hh2 hc2;obtain ⟨rfl,rfl⟩:=Oi hok hok2 (by omega) h4
   exact ih hp
theorem Abc {c:UInt8} {s:List UInt8} (h:(Lib.cut s [c]).2.2=true):s=(Lib.cut s [c]).1++c::(Lib.cut s [c]).2.1:=by
 rw [Oq] at h ⊢
 by_cases hi:ix c s < s.length
 ·simp only [if_pos hi];have h2:=Ama c s hi;have h3:s.drop (ix c s)=c::s.drop (ix c s+1):=by
   rw [List.drop_eq_getElem_cons hi]
   congr 1
   rw [List.getElem?_eq_getElem hi] at h2
   exact Option.some.inj h2
  rw [← h3,List.take_append_drop]
 rw [if_neg hi] at h;cases h
theorem Abl {s:List UInt8} {z:Int} (h:Lib.atoiAll s=.ok z):Bb .i64 z:=by
 unfold Lib.atoiAll at h
 split at h
 ·cases h
 simp only at h
 split at h
 ·cases h
 ·cases h
 split at h
 ·cases h
 split at h
 ·cases h
 rename_i h1 h2
 have h3:=Lib.NumEnd.ok.inj h;subst h3
 split
 ·rename_i h4;exact C0 (by omega) (by omega)
 rename_i h4;exact C0 (by omega) (by omega)
theorem Agd {c:List UInt8} {W:List UInt8} {wr:List (List UInt8)} (hw:B7 (Lib.cut c [10]).1=W::wr) (h:Jg c) :
  (Lib.cut c [10]).2.2=true∧∃ x sz,Head x sz∧W=C1 x.kind∧wr=(fm (nuK x sz)).map Lib.itoa:=by
 obtain ⟨x,sz,r,hh,rfl⟩:=h;rw [Ua] at hw ⊢;rw [Oo,List.cons.injEq] at hw
 exact ⟨rfl,x,sz,hh,hw.1.symm,hw.2.symm⟩
def Apw (z:Int) (W:List UInt8):Prop:=(z = -1∧∀ j,j < 6→C1 j≠W)∨∃ k:Nat,k < 6∧z=((k:Nat):Int)∧C1 k=W∧∀ j,j < k→C1 j≠W
theorem kind_z {z:Int} {k:Nat} (h:Apw z (C1 k)) (hk:1≤k∧k≤5):z=((k:Nat):Int):=by
 rcases h with ⟨_,h⟩ | ⟨j,h1,h2,h3,h4⟩
 ·exact absurd rfl (h k (by omega))
 rcases Nat.eq_zero_or_pos j with h0 | h0
 ·subst h0
  rcases (show k=1∨k=2∨k=3∨k=4∨k=5 by omega) with rfl | rfl | rfl | rfl | rfl <;> exact absurd h3 (by decide)
 rw [h2,Qf ⟨h0,by omega⟩ hk h3]
theorem Tq {c W:List UInt8} {wr:List (List UInt8)} {z:Int} (hw:B7 (Lib.cut c [10]).1=W::wr) (hz:Apw z W) (h:(Lib.cut c [10]).2.2=false∨z < 1):¬ Jg c:=by
 intro hh;obtain ⟨h1,x,sz,h2,rfl,_⟩:=Agd hw hh;have:=kind_z hz h2.kd
 rcases h with h | h
 ·rw [h] at h1;cases h1
 have:=h2.kd;omega
theorem Tp {c W:List UInt8} {wr:List (List UInt8)} {k:Nat} (hw:B7 (Lib.cut c [10]).1=W::wr) (hk:1≤k∧k≤5) (hW:C1 k=W) (h:Jg c):∃ x sz,Head x sz∧x.kind=k∧wr=(fm (nuK x sz)).map Lib.itoa:=by
 obtain ⟨h1,x,sz,h2,h3,h4⟩:=Agd hw h
 exact ⟨x,sz,h2,Qf h2.kd hk (by rw [hW,h3]),h4⟩
theorem Z4 {c W:List UInt8} {wr:List (List UInt8)} {k b b2:Nat} (hw:B7 (Lib.cut c [10]).1=W::wr) (hk:1≤k∧k≤5) (hW:C1 k=W) (hl:¬ wr.length=(fm (He k b b2)).length):¬ Jg c:=by
 intro h;obtain ⟨x,sz,h1,rfl,h2⟩:=Tp hw hk hW h
 exact hl (by rw [h2,List.length_map,Sa])
theorem Z3 {c W w:List UInt8} {wr:List (List UInt8)} {k i:Nat} {z:Int} {b:Bool} (hw:B7 (Lib.cut c [10]).1=W::wr) (hk:1≤k∧k≤5) (hW:C1 k=W) (hi:wr[i]?=some w)
  (ha:(Lib.atoiAll w=.ok z∧b=true)∨((∀ x,Lib.atoiAll w≠.ok x)∧b=false)) (hb:b=false∨Lib.itoa z≠w):¬ Jg c:=by
 intro h;obtain ⟨x,sz,h1,rfl,h2⟩:=Tp hw hk hW h;rw [h2,List.getElem?_map] at hi
 cases hy:(fm (nuK x sz))[i]? with
 | none=>rw [hy] at hi;cases hi
 | some y =>
  rw [hy] at hi;simp only [Option.map_some,Option.some.injEq] at hi;have h3:=Qk (h1.ink y (List.mem_of_getElem? hy));rw [hi] at h3
  rcases ha with ⟨h4,h5⟩ | ⟨h4,h5⟩
  ·rw [h3] at h4;have h6:=Lib.NumEnd.ok.inj h4;subst h6
   rcases hb with hb | hb
   ·rw [h5] at hb;cases hb
   ·exact hb hi
  ·exact h4 _ h3
def Wd (wr:List (List UInt8)) (x:NotD) (sz:Int) (i:Nat):Prop:=∀ j z,j < i→(fm (nuK x sz))[j]?=some z→wr[j]?=some (Lib.itoa z)
theorem wd_all {wr:List (List UInt8)} {x:NotD} {sz:Int} {i:Nat} (h:Wd wr x sz i) (hl:wr.length=(fm (nuK x sz)).length) (hi:(fm (nuK x sz)).length≤i):wr=(fm (nuK x sz)).map Lib.itoa:=by
 apply List.ext_getElem?
 intro j;rw [List.getElem?_map]
 cases hz:(fm (nuK x sz))[j]? with
 | none =>
  rw [List.getElem?_eq_none_iff] at hz;rw [List.getElem?_eq_none_iff.2 (by omega)];rfl
 | some z=>rw [h j z (by have:=Bj hz;omega) hz];rfl
theorem Z2 {c W:List UInt8} {wr:List (List UInt8)} {x:NotD} {sz:Int} (hw:B7 (Lib.cut c [10]).1=W::wr) (hf:FlH x sz) (hW:C1 x.kind=W) (hwr:wr=(fm (nuK x sz)).map Lib.itoa) (hs:sz < 0∨1024 < sz):¬ Jg c:=by
 intro h;obtain ⟨y,tz,h1,h2,h3⟩:=Tp hw hf.kd hW h;obtain ⟨_,h4⟩:=Alg h2.symm hf h1.fl (Ll hf.ink h1.ink (by rw [← hwr,h3]));have:=h1.rs
 omega
theorem head_of {c W:List UInt8} {wr:List (List UInt8)} {x:NotD} {sz:Int} (hw:B7 (Lib.cut c [10]).1=W::wr) (hW:C1 x.kind=W) (hwr:wr=(fm (nuK x sz)).map Lib.itoa) (hc:(Lib.cut c [10]).2.2=true):c=Fq x sz++(Lib.cut c [10]).2.1:=by
 obtain ⟨d,r,h1,h2⟩:=Q0 (Lib.cut c [10]).1;rw [hw] at h1;simp only [List.cons.injEq] at h1;obtain ⟨rfl,rfl⟩:=h1;have h3:=Abc hc;rw [h2,← hW,hwr,← Y0] at h3
 conv=>lhs;rw [h3]
 unfold Fq;simp
def Mm (x:NotD) (sz:Int) (o:Nat) (v:Int):NotD × Int:=match o with
 | 1=>({ x with at_:=v },sz)
 | 2=>({ x with count:=v },sz)
 | 3=>({ x with to:=v },sz)
 | _=>(x,v)
theorem Afd {x:NotD} {b b2 i:Nat} {sz v:Int} {p:Nat × Nat} (h:(fm (He x.kind b b2))[i]?=some p) :
  fm (nuK (Mm x sz p.2 v).1 (Mm x sz p.2 v).2)=(fm (nuK x sz)).set i v∧((p=(b,1)∧uAt x.kind)∨(p=(b,2)∧uCo x.kind)∨(p=(b,3)∧uTo x.kind)∨(p=(b2,0)∧uIt x.kind)):=by
 unfold He fm at h;unfold nuK fm;have q1:=fun h=>(decide_eq_true_iff (p:=uAt x.kind)).1 h;have q2:=fun h=>(decide_eq_true_iff (p:=uCo x.kind)).1 h;have q3:=fun h=>(decide_eq_true_iff (p:=uTo x.kind)).1 h;have q4:=fun h=>(decide_eq_true_iff (p:=uIt x.kind)).1 h
 rcases bE (decide (uAt x.kind)) with h1 | h1 <;> rcases bE (decide (uCo x.kind)) with h2 | h2 <;>
 rcases bE (decide (uTo x.kind)) with h3 | h3 <;> rcases bE (decide (uIt x.kind)) with h4 | h4 <;> rw [h1,h2,h3,h4] at h <;>
 simp only [List.filter_cons,List.filter_nil,if_true,if_false,Bool.false_eq_true,List.map_cons,List.map_nil] at h <;>
 rcases i with _ | _ | _ | _ | i <;> simp only [List.getElem?_cons_zero,List.getElem?_cons_succ,List.getElem?_nil,Option.some.injEq,reduceCtorEq] at h <;>
 first | contradiction | (subst h;simp only [Mm,h1,h2,h3,h4,List.filter_cons,List.filter_nil,if_true,if_false,Bool.false_eq_true,List.map_cons,List.map_nil,List.set_cons_zero,List.set_cons_succ,true_and];simp_all)
theorem put_ok {x:NotD} {b b2 i:Nat} {sz v:Int} {p:Nat × Nat} {wr:List (List UInt8)} (h:(fm (He x.kind b b2))[i]?=some p) (hf:FlH x sz) (hw:Wd wr x sz i) (hv:Bb .i64 v) (hi:wr[i]?=some (Lib.itoa v)) :
  (Mm x sz p.2 v).1.kind=x.kind∧FlH (Mm x sz p.2 v).1 (Mm x sz p.2 v).2∧Wd wr (Mm x sz p.2 v).1 (Mm x sz p.2 v).2 (i+1):=by
 obtain ⟨h1,h2⟩:=Afd (sz:=sz) (v:=v) h;have h3:(Mm x sz p.2 v).1.kind=x.kind:=by unfold Mm;split <;> rfl
 refine ⟨h3,?_,?_⟩
 ·rcases h2 with ⟨rfl,hu⟩ | ⟨rfl,hu⟩ | ⟨rfl,hu⟩ | ⟨rfl,hu⟩
  ·exact ⟨hf.kd,Or.inl hu,hf.fc,hf.ft,hf.fi,hf.it,hv,hf.rc,hf.rt,hf.rz⟩
  ·exact ⟨hf.kd,hf.fa,Or.inl hu,hf.ft,hf.fi,hf.it,hf.ra,hv,hf.rt,hf.rz⟩
  ·exact ⟨hf.kd,hf.fa,hf.fc,Or.inl hu,hf.fi,hf.it,hf.ra,hf.rc,hv,hf.rz⟩
  exact ⟨hf.kd,hf.fa,hf.fc,hf.ft,Or.inl hu,hf.it,hf.ra,hf.rc,hf.rt,hv⟩
 intro j z hj hz;rw [h1] at hz
 rcases Nat.lt_succ_iff_lt_or_eq.1 hj with h4 | h4
 ·rw [List.getElem?_set_ne (by omega)] at hz;exact hw j z h4 hz
 subst h4;have h5:=Bj hz;rw [List.length_set] at h5;rw [List.getElem?_set_self h5] at hz;rw [← Option.some.inj hz];exact hi
theorem T5 {s:List UInt8} (hs:(10:UInt8) ∉ s):(∃ y,Rd8 s y∧(s.length≤1048575→Ej (s++[10])=([y],0,0)))∨((∀ y,¬ Rd8 s y)∧(Ej (s++[10])).2.2≠0):=by
 have hc:Lib.cut (s++[10]) [10]=(s,[],true):=Lz hs;have hne:¬ (s++[10])=[]:=by simp
 by_cases hy:∃ y,Rd8 s y
 ·obtain ⟨y,hy⟩:=hy;refine Or.inl ⟨y,hy,fun hl=>?_⟩;have hl2:¬ 1048576 < (s++[10]).length:=by simp only [List.length_append,List.length_cons,List.length_nil];omega
  unfold Ej;rw [if_neg hl2];have h2:pGo ((s++[10]).length+1) [] (s++[10])=pGo (s++[10]).length ([]++[y]) []:=by
   conv=>lhs;unfold pGo
   rw [if_neg hne,hc];simp only [if_true,Oj hy]
   rfl
  have h9:(s++([10]:List UInt8)).length=s.length+1:=by simp
  rw [h2,h9];unfold pGo;rw [if_pos rfl];rfl
 refine Or.inr ⟨fun y h=>hy ⟨y,h⟩,?_⟩;unfold Ej
 split
 ·decide
 unfold pGo;rw [if_neg hne,hc];simp only [if_true,Wl (fun y h=>hy ⟨y,h⟩)]
 decide
theorem cut_not {c:UInt8} {s:List UInt8}:c ∉ (Lib.cut s [c]).1:=by
 rw [Oq]
 by_cases hi:ix c s < s.length
 ·rw [if_pos hi];intro h;obtain ⟨j,hj⟩:=List.mem_iff_getElem?.1 h;have h1:=Bj hj;rw [List.length_take] at h1;rw [List.getElem?_take,if_pos (by omega)] at hj
  exact Alz c s j c (by omega) hj rfl
 rw [if_neg hi];intro h;obtain ⟨j,hj⟩:=List.mem_iff_getElem?.1 h
 exact Alz c s j c (by have:=Bj hj;have:=ix_le c s;simp only at *;omega) hj rfl
theorem Ye {c:List UInt8} (hl:c.length≤1048576) (h:(Lib.cut c [10]).2.2=false∨(Ej ((Lib.cut c [10]).1++[10])).2.2≠0∨(Ej ((Lib.cut c [10]).1++[10])).1.length≠1):¬ Qx c:=by
 rintro ⟨y,r,hy,rfl⟩;rw [T6 hy.1] at h;simp only at h
 rcases h with h | h
 ·cases h
 rcases T5 (Ty hy.1) with ⟨y2,h1,h2⟩ | ⟨h1,_⟩
 ·simp only [List.length_append,List.length_cons] at hl;rw [h2 (by omega)] at h
  rcases h with h | h <;> exact h rfl
 exact h1 y ⟨hy.1,hy.2.1,rfl⟩
theorem rd8_typ {s:List UInt8} {y:ItemD} (h:Rd8 s y):y.typ < 256:=by
 have:=h.1;unfold ItemOk at this
 omega
theorem Amc {c:List UInt8} (hc:(Lib.cut c [10]).2.2=true) (h:(Ej ((Lib.cut c [10]).1++[10])).2.2=0) (h1:(Ej ((Lib.cut c [10]).1++[10])).1.length=1) (hl:c.length≤1048576) :
  ∃ y,(Ej ((Lib.cut c [10]).1++[10])).1=[y]∧(ItemOk 8 y∧y.key < 18446744073709551616∧y.typ < 256)∧c=Dg [y]++(Lib.cut c [10]).2.1:=by
 have hcc:=Abc hc
 rcases T5 (cut_not (c:=10) (s:=c)) with ⟨y,h2,h3⟩ | ⟨_,h2⟩
 ·have hlen:=congrArg List.length hcc;simp only [List.length_append,List.length_cons] at hlen;refine ⟨y,by rw [h3 (by omega)],⟨h2.1,h2.2.1,rd8_typ h2⟩,?_⟩;rw [Ahe,h2.2.2]
  simpa using hcc
 exact absurd h h2
theorem kfn_pos {k:Nat} (h:1≤k):kfn k=.func (.func (Ff k)) #[] #[]:=by unfold kfn;rw [if_neg (by omega)]
theorem fl_zero {k:Nat} (hk:1≤k∧k≤5):FlH ⟨k,0,0,0,[]⟩ 0:=⟨hk,Or.inr rfl,Or.inr rfl,Or.inr rfl,Or.inr rfl,rfl,(C0 (n:=0) (by decide) (by decide)),(C0 (n:=0) (by decide) (by decide)),(C0 (n:=0) (by decide) (by decide)),(C0 (n:=0) (by decide) (by decide))⟩
theorem ok_of {s:List UInt8} {z:Int} {b:Bool} (h:(Lib.atoiAll s=.ok z∧b=true)∨((∀ x,Lib.atoiAll s≠.ok x)∧b=false)) (hb:b=true):Lib.atoiAll s=.ok z:=by
 rcases h with h | ⟨_,h⟩
 ·exact h.1
 rw [h] at hb;cases hb
theorem Ais {z:Int} {W:List UInt8} (h:Apw z W) (hz:¬ z < 1):∃ k:Nat,(1≤k∧k≤5)∧z=((k:Nat):Int)∧C1 k=W:=by
 rcases h with ⟨h1,_⟩ | ⟨k,h1,h2,h3,_⟩
 ·omega
 exact ⟨k,⟨by omega,by omega⟩,h2,h3⟩
end Go.Proofs.YtmmhmcplegpenaaGreatDoor
namespace Go.Proofs
open Go.Shelf
def Tryz.laysC172_ren:Go.Shelf.Ren:=⟨fun | 172=>136 | 244=>167 | 245=>147 | 247=>195 | 279=>177 | 280=>178 | 281=>179 | 282=>180 | 287=>146 | 316=>206 | 171=>83 | 205=>207 | 321=>175 | 322=>176 | 243=>133 | 246=>166 | 283=>170 | 284=>171 | 285=>172 | 286=>173 | 129=>198 | 317=>197 | 318=>199 | 319=>200 | 320=>201 | 337=>222 | 338=>223 | n=>n,fun | 9=>9 | 3=>3 | 75=>103 | 76=>104 | 4=>4 | 5=>5 | 167=>250 | 37=>32 | 0=>0 | 85=>265 | 2=>2 | 168=>253 | 53=>23 | 175=>178 | 46=>252 | 210=>277 | 127=>174 | 145=>296 | 143=>294 | 21=>21 | 171=>244 | 173=>247 | 212=>269 | 51=>270 | 20=>20 | 213=>271 | 232=>307 | 233=>308 | 80=>107 | n=>n,fun | 15=>2 | 16=>3 | 17=>0 | 18=>4 | 19=>5 | n=>n⟩
theorem Tryz.laysC172:Go.Proofs.LaysC.n172 Tryz.prog Tryz.laysC172_ren:={
 mixed:=by kernel_rfl
 f129:=Tryz.func198.trans (congrArg some (by kernel_rfl))
 f171:=Tryz.func83.trans (congrArg some (by kernel_rfl))
 f172:=Tryz.func136.trans (congrArg some (by kernel_rfl))
 f205:=Tryz.func207.trans (congrArg some (by kernel_rfl))
 f243:=Tryz.func133.trans (congrArg some (by kernel_rfl))
 f244:=Tryz.func167.trans (congrArg some (by kernel_rfl))
 f245:=Tryz.func147.trans (congrArg some (by kernel_rfl))
 f246:=Tryz.func166.trans (congrArg some (by kernel_rfl))
 f247:=Tryz.func195.trans (congrArg some (by kernel_rfl))
 f279:=Tryz.func177.trans (congrArg some (by kernel_rfl))
 f280:=Tryz.func178.trans (congrArg some (by kernel_rfl))
 f281:=Tryz.func179.trans (congrArg some (by kernel_rfl))
 f282:=Tryz.func180.trans (congrArg some (by kernel_rfl))
 f283:=Tryz.func170.trans (congrArg some (by kernel_rfl))
 f284:=Tryz.func171.trans (congrArg some (by kernel_rfl))
 f285:=Tryz.func172.trans (congrArg some (by kernel_rfl))
 f286:=Tryz.func173.trans (congrArg some (by kernel_rfl))
 f287:=Tryz.func146.trans (congrArg some (by kernel_rfl))
 f316:=Tryz.func206.trans (congrArg some (by kernel_rfl))
 f317:=Tryz.func197.trans (congrArg some (by kernel_rfl))
 f318:=Tryz.func199.trans (congrArg some (by kernel_rfl))
 f319:=Tryz.func200.trans (congrArg some (by kernel_rfl))
 f320:=Tryz.func201.trans (congrArg some (by kernel_rfl))
 f321:=Tryz.func175.trans (congrArg some (by kernel_rfl))
 f322:=Tryz.func176.trans (congrArg some (by kernel_rfl))
 f337:=Tryz.func222.trans (congrArg some (by kernel_rfl))
 f338:=Tryz.func223.trans (congrArg some (by kernel_rfl))
 t0:=Tryz.underlying0
 a0:=Tryz.isAgg0
 z0:=Tryz.sizeOf0
 v0:=Tryz.zeroValue0
 t2:=Tryz.underlying2
 a2:=Tryz.isAgg2
 z2:=Tryz.sizeOf2
 v2:=Tryz.zeroValue2
 t3:=Tryz.underlying3
 a3:=Tryz.isAgg3
 z3:=Tryz.sizeOf3
 v3:=Tryz.zeroValue3
 t4:=Tryz.underlying4
 a4:=Tryz.isAgg4
 z4:=Tryz.sizeOf4
 v4:=Tryz.zeroValue4
 t5:=Tryz.underlying5
 a5:=Tryz.isAgg5
 z5:=Tryz.sizeOf5
 v5:=Tryz.zeroValue5
 t9:=Tryz.underlying9
 a9:=Tryz.isAgg9
 z9:=Tryz.sizeOf9
 v9:=Tryz.zeroValue9
 t20:=Tryz.underlying20
 a20:=Tryz.isAgg20
 z20:=Tryz.sizeOf20
 v20:=Tryz.zeroValue20
 t21:=Tryz.underlying21
 a21:=Tryz.isAgg21
 z21:=Tryz.sizeOf21
 v21:=Tryz.zeroValue21
 t37:=Tryz.underlying32
 a37:=Tryz.isAgg32
 z37:=Tryz.sizeOf32
 v37:=Tryz.zeroValue32
 t46:=Tryz.underlying252
 a46:=Tryz.isAgg252
 z46:=Tryz.sizeOf252
 v46:=Tryz.zeroValue252
 t51:=Tryz.underlying270
 a51:=Tryz.isAgg270
 z51:=Tryz.sizeOf270
 v51:=Tryz.zeroValue270
 t53:=Tryz.underlying23
 a53:=Tryz.isAgg23
 z53:=Tryz.sizeOf23
 v53:=Tryz.zeroValue23
 t75:=Tryz.underlying103
 a75:=Tryz.isAgg103
 z75:=Tryz.sizeOf103
 v75:=Tryz.zeroValue103
 t76:=Tryz.underlying104
 a76:=Tryz.isAgg104
 z76:=Tryz.sizeOf104
 v76:=Tryz.zeroValue104
 t85:=Tryz.underlying265
 a85:=Tryz.isAgg265
 z85:=Tryz.sizeOf265
 v85:=Tryz.zeroValue265
 t127:=Tryz.underlying174
 a127:=Tryz.isAgg174
 z127:=Tryz.sizeOf174
 v127:=Tryz.zeroValue174
 t143:=Tryz.underlying294
 a143:=Tryz.isAgg294
 z143:=Tryz.sizeOf294
 v143:=Tryz.zeroValue294
 t145:=Tryz.underlying296
 a145:=Tryz.isAgg296
 z145:=Tryz.sizeOf296
 v145:=Tryz.zeroValue296
 t167:=Tryz.underlying250
 a167:=Tryz.isAgg250
 z167:=Tryz.sizeOf250
 v167:=Tryz.zeroValue250
 t168:=Tryz.underlying253
 a168:=Tryz.isAgg253
 z168:=Tryz.sizeOf253
 v168:=Tryz.zeroValue253
 t171:=Tryz.underlying244
 a171:=Tryz.isAgg244
 z171:=Tryz.sizeOf244
 v171:=Tryz.zeroValue244
 t173:=Tryz.underlying247
 a173:=Tryz.isAgg247
 z173:=Tryz.sizeOf247
 v173:=Tryz.zeroValue247
 t175:=Tryz.underlying178
 a175:=Tryz.isAgg178
 z175:=Tryz.sizeOf178
 v175:=Tryz.zeroValue178
 t210:=Tryz.underlying277
 a210:=Tryz.isAgg277
 z210:=Tryz.sizeOf277
 v210:=Tryz.zeroValue277
 t212:=Tryz.underlying269
 a212:=Tryz.isAgg269
 z212:=Tryz.sizeOf269
 v212:=Tryz.zeroValue269
 t213:=Tryz.underlying271
 a213:=Tryz.isAgg271
 z213:=Tryz.sizeOf271
 t232:=Tryz.underlying307
 a232:=Tryz.isAgg307
 z232:=Tryz.sizeOf307
 v232:=Tryz.zeroValue307
 t233:=Tryz.underlying308
 a233:=Tryz.isAgg308
 z233:=Tryz.sizeOf308
 v233:=Tryz.zeroValue308
 g15:=by kernel_rfl
 g16:=by kernel_rfl
 g17:=by kernel_rfl
 g18:=by kernel_rfl
 g19:=by kernel_rfl
 t80:=Tryz.underlying107
 a80:=Tryz.isAgg107
 z80:=Tryz.sizeOf107
 v80:=Tryz.zeroValue107
 i0:=by kernel_rfl
 i2:=by kernel_rfl
 i3:=by kernel_rfl
 i4:=by kernel_rfl
 i5:=by kernel_rfl
 i9:=by kernel_rfl
 i20:=by kernel_rfl
 i21:=by kernel_rfl
 i37:=by kernel_rfl
 i46:=by kernel_rfl
 i51:=by kernel_rfl
 i53:=by kernel_rfl
 i75:=by kernel_rfl
 i76:=by kernel_rfl
 i80:=by kernel_rfl
 i85:=by kernel_rfl
 i127:=by kernel_rfl
 i143:=by kernel_rfl
 i145:=by kernel_rfl
 i167:=by kernel_rfl
 i168:=by kernel_rfl
 i171:=by kernel_rfl
 i173:=by kernel_rfl
 i175:=by kernel_rfl
 i210:=by kernel_rfl
 i212:=by kernel_rfl
 i232:=by kernel_rfl
 i233:=by kernel_rfl
 m15:=by kernel_rfl
 m16:=by kernel_rfl
 m17:=by kernel_rfl
 m18:=by kernel_rfl
 m19:=by kernel_rfl
 c0:=by kernel_rfl
 c2:=by kernel_rfl
 c3:=by kernel_rfl
 c4:=by kernel_rfl
 c5:=by kernel_rfl
 c9:=by kernel_rfl
 c20:=by kernel_rfl
 c21:=by kernel_rfl
 c37:=by kernel_rfl
 c46:=by kernel_rfl
 c51:=by kernel_rfl
 c53:=by kernel_rfl
 c75:=by kernel_rfl
 c76:=by kernel_rfl
 c80:=by kernel_rfl
 c85:=by kernel_rfl
 c127:=by kernel_rfl
 c143:=by kernel_rfl
 c145:=by kernel_rfl
 c167:=by kernel_rfl
 c168:=by kernel_rfl
 c171:=by kernel_rfl
 c173:=by kernel_rfl
 c175:=by kernel_rfl
 c210:=by kernel_rfl
 c212:=by kernel_rfl
 c213:=by kernel_rfl
 c232:=by kernel_rfl
 c233:=by kernel_rfl }
end Go.Proofs
namespace Go.Proofs.YtmmhmcplegpenaaGreatDoor
open Go Go.Y Go.Proofs
variable {w0 w:World} {G:A4} {L:List Res}
theorem V5 {w0 w:World} {G:A4} {L:List Res} {b l:Nat} {c:List UInt8} (M:Mem w0 G (.blk b [.string (str c),.int .i64 ((l:Nat):Int)] 155::L) w) (HG:Globs 0 1 2 3 G) (hc:c.length≤1048576) (hl:l≤9000000) :
  Calls Tryz.prog 86 #[.pointer (some ⟨b,0,none⟩)] w (Cs w0 G (.blk b [.string (str ((Lib.cut c [10]).2.1)),.int .i64 ((((l+1):Nat):Int))] 155::L) fun v=>v=.tuple #[.string (str (Lib.cut c [10]).1),.bool (Lib.cut c [10]).2.2]):=by
 refine Ay (vs:=[_]) Tryz.func86 rfl (n:=29) rfl rfl<|Ac<|Ab rfl<|Ab rfl<|Ac<|Aa rfl<|Fi rfl<|A0 Ku.k rfl rfl<|Bg Cg M 0 rfl rfl rfl rfl<|Bx rfl rfl<|Fi rfl<|A0 Ku.k rfl rfl<|Gd Cg M 0 rfl rfl rfl rfl rfl rfl<|?_;clear M;intro w M
 refine Ac<|Aa rfl<|Fi rfl<|A0 Ku.k rfl rfl<|Bg Bq M 0 rfl rfl rfl rfl<|Bs Um rfl rfl (Mw (s:=c) (sep:=([10]:List UInt8)) M HG (by omega))<|?_;clear M;rintro _ w M rfl
 have hclc1:=I9 10 c;refine Aa rfl<|Df rfl rfl<|Df rfl rfl<|Df rfl rfl<|Ab rfl<|Ab rfl<|Ab rfl<|Ac<|Aa rfl<|Aa rfl<|Fi rfl<|A0 Ku.k rfl rfl<|Gd Bq M 0 rfl rfl rfl rfl rfl rfl<|?_;clear M;intro w M
 refine Ac<|Aa rfl<|Aa rfl<|Ab rfl<|Ab rfl<|Ae<|D6 rfl rfl rfl<|?_
 exact ⟨M,rfl⟩
theorem Aju (M:Mem w0 G L w) (HG:Globs 0 1 2 3 G) {s:List UInt8} (hs:s.length≤281474976710656) :
  Calls Tryz.prog 136 #[.string (str s)] w (Cs w0 G L fun v=>∃ (z:Int) (er:Value),v=.tuple #[.int .i64 z,er]∧(er=.nilIface∨∃ te pe,er=.iface te pe)∧((Lib.atoiAll s=.ok z∧Ef er=true)∨((∀ x,Lib.atoiAll s≠.ok x)∧Ef er=false))):=by
 have hd:(str s).data.toList=s:=Fl s
 cases h:Lib.atoiAll s with
 | ok u =>
  refine (Any.strconv_Atoi_ok Tryz.laysC172 (str s) (by rw [Cx];omega) u (by rw [hd];exact h) w).mono ?_;rintro e w' ⟨rfl,hw⟩;refine ⟨?_,u,_,rfl,Or.inl rfl,Or.inl ⟨rfl,rfl⟩⟩
  rcases hw with rfl | ⟨t,rfl⟩
  ·exact M
  ·exact M.bytesWorld _ _
 | range =>
  obtain ⟨ev,h1,h2⟩:=HG.rng;refine (Any.strconv_Atoi_range Tryz.laysC172 (str s) (by rw [Cx];omega) (by rw [hd];exact h) ev w (M.cell h1) h2).mono ?_;rintro e w' ⟨N,rfl,_,_,hb⟩
  exact ⟨M.below' hb,_,_,rfl,Or.inr ⟨_,_,rfl⟩,Or.inr ⟨(fun x hx=>by cases hx),rfl⟩⟩
 | _ =>
  obtain ⟨ev,h1,h2⟩:=HG.syn;refine (Any.strconv_Atoi_syntax Tryz.laysC172 (str s) (by rw [Cx];omega) (by rw [hd];exact h) ev w (M.cell h1) h2).mono ?_;rintro e w' ⟨N,rfl,_,_,hb⟩
  exact ⟨M.below' hb,_,_,rfl,Or.inr ⟨_,_,rfl⟩,Or.inr ⟨(fun x hx=>by cases hx),rfl⟩⟩
theorem Vn (s:List UInt8):(Lib.splitB (str [32]) 0 (Lib.countB (str s) (str [32])) (str s)).map Value.string=(B7 s).map (fun x=>Value.string (str x)):=by
 have h:=Lib.splitB_data (str [32]) 0 (Lib.countB (str s) (str [32])) (str s);rw [Fl,Fl] at h;have h2:Lib.countB (str s) (str [32])=Lib.count s [32]:=by
  show Lib.count (str s).data.toList (str [32]).data.toList=_
  rw [Fl,Fl]
 rw [h2] at h ⊢
 show _=(Lib.splitK [32] 0 (Lib.count s [32]) s).map _
 rw [← h,List.map_map]
 exact List.map_congr_left fun x _=>rfl
theorem Y8 (M:Mem w0 G L w) (HG:Globs 0 1 2 3 G) {s:List UInt8} (hs:s.length < 4294967281) :
  Calls Tryz.prog 102 #[.string (str s),.string (str [32])] w (Ret w0 G L fun G' v=>∃ a:Option Addr,v=.slice a (B7 s).length (B7 s).length∧Au D3 1 G' (.slice a (B7 s).length (B7 s).length) (B7 s)):=by
 obtain ⟨m,hm⟩:=HG.max;refine (Any.strings_Split Tryz.lays146 (by kernel_rfl) (str s) (str [32]) m w (by rw [Cx];exact hs) (M.cell hm) (by rw [Cx];decide)).mono ?_;rintro e w' ⟨rfl,rfl⟩;have hl:(B7 s).length=Lib.countB (str s) (str [32])+1:=by
  have h1:=Lib.splitB_all (str [32]) (by rw [Cx];decide) 0 _ (str s) rfl;rw [← h1,← List.length_map (f:=Value.string),Vn,List.length_map]
 rw [Vn,← hl];have hcb:=Lib.countB_le (str [32]) (by rw [Cx];decide) (str s).size (str s) (Nat.le_refl _);rw [Cx] at hcb;have hle:(B7 s).length≤4294967281:=by omega
 have M1:=M.newrow (t:=Tryz.lays146_ren.t 9) (sz:=1) (n:=(B7 s).length) (c:=(B7 s).length) (cs:=(B7 s).map fun x=>Value.string (str x)) (spare:=[])
  (by intro u hu;obtain ⟨x,_,rfl⟩:=List.mem_map.1 hu;rfl) (by simp) (by simp) (Nat.le_refl _) (by unfold maxLen;omega)
 rw [List.append_nil] at M1;obtain ⟨_,G',a,c,hG,he,S,M2⟩:=M1.freeze_row Bi (k:=0) rfl (Pr (B7 s) (fun x hx=>by have:=So hx;omega)) (by decide)
 exact ⟨G',hG,M2,_,rfl,S⟩
theorem n1_spec {w0 w:World} {G:A4} {L:List Res} {b6:Nat} {nm:List UInt8} {k1 k2 k3 k4:Bool} {fv:Value} (hfv:Value.oneCell' fv=true) {aw:Option Addr} {cw:Nat} {ws:List (List UInt8)} (S:Au D3 1 G (.slice aw ws.length cw) ws) (M:Mem w0 G (.blk b6 [.slice aw ws.length cw] 24::L) w) {W:List UInt8} (hW:ws[0]?=some W) :
  Calls Tryz.prog 135 #[.agg #[.string (str nm),.bool k1,.bool k2,.bool k3,.bool k4,fv],.pointer (some ⟨b6,0,none⟩)] w (Cs w0 G (.blk b6 [.slice aw ws.length cw] 24::L) fun v=>v=.bool (decide (nm=W))):=by
 refine Ay (vs:=[_,_]) Tryz.func135 rfl (n:=10) rfl rfl<|Ac<|Cz M rfl rfl rfl<|?_;clear M;intro b1 w M
 refine Ab rfl<|Ag<|fun a F=>Gh [(true,0),(true,1),(true,2),(true,3),(true,4),(true,5),(true,6)] (Keep G [.blk b1 [.string (str nm),.bool k1,.bool k2,.bool k3,.bool k4,fv] 138,.blk b6 [.slice aw ws.length cw] 24]) rfl (by kernel_rfl) (fun c a d v w h=>by cases d <;> exact h) (Bo (M.drew _)) ?_
 replace M:=M.drew (w.drawn+1);revert a;refine l_r (fun a F w M=>Ce Cl.k rfl F rfl) rfl<|l_r (fun a F w M=>Al (agf Bq rfl) (F.ev rfl) (M.cellL (k:=0) rfl rfl)) rfl<|l_r (fun a F w M=>Al (agf Cw rfl) (F.ev rfl) (M.cellL (k:=1) rfl rfl)) rfl<|?_
 obtain ⟨be2,oe2,_,Ie2,_,Ae2,⟨rfl,hsle2⟩⟩:=S.at hW;refine l_r (fun a F w M=>Bt Cw.k Bq (F.ev rfl) (F.ev rfl) (by omega) Ie2) rfl<|l_r (fun a F w M=>Al (agf Bq rfl) (F.ev rfl) (M.cellA Ae2 0 (by omega) rfl)) rfl<|l_r (fun a F w M=>K3 (F.ev rfl) (F.ev rfl)) rfl<|l_r (fun a F w M=>G8 F rfl) rfl<|Hq<|?_
 generalize ({ w with drawn:=w.drawn+1 }:World)=w at M ⊢
 refine Ae<|Ad rfl rfl<|?_
 exact ⟨M.weaken (cN (cC (sR _))),rfl⟩
theorem Qm {w0 w:World} {G:A4} {L:List Res} {b7 b6:Nat} {aw:Option Addr} {cw:Nat} {ws:List (List UInt8)} (S:Au D3 1 G (.slice aw ws.length cw) ws) (M:Mem w0 G (.blk b7 Il 139::.blk b6 [.slice aw ws.length cw] 24::L) w) {W:List UInt8} (hW:ws[0]?=some W) :
  Calls Tryz.prog 134 #[.slice (some ⟨b7,0,none⟩) 6 6,.func (.func 135) #[] #[.pointer (some ⟨b6,0,none⟩)]] w (Cs w0 G (.blk b7 Il 139::.blk b6 [.slice aw ws.length cw] 24::L) fun v=>∃ z:Int,v=.int .i64 z∧((z = -1∧∀ j,j < 6→C1 j≠W)∨∃ k:Nat,k < 6∧z=((k:Nat):Int)∧C1 k=W∧∀ j,j < k→C1 j≠W)):=by
 refine Ay (vs:=[_,_]) Tryz.func134 rfl (n:=19) rfl rfl<|Ac<|Ab rfl<|Ag<|Ac<|Aa rfl<|B8 Akg.k rfl<|Aa rfl<|Ax<|fun a F=>Bz (fun m a' w'=>∃ (i:Nat),m=6 - i∧Fits 19 a' [(0,.slice (some ⟨b7,0,none⟩) 6 6),(1,.func (.func 135) #[] #[.pointer (some ⟨b6,0,none⟩)]),(6,.slice (some ⟨b7,0,none⟩) 6 6),(7,.int .i64 ((6:Nat):Int)),(8,.int .i64 ((i:Nat):Int))]∧Mem w0 G (.blk b7 Il 139::.blk b6 [.slice aw ws.length cw] 24::L) w'∧(i≤6)∧(∀ j,j < i→C1 j≠W)) _ ⟨0,rfl,F.to ⟨rfl,rfl,rfl,rfl,rfl,trivial⟩,M,by omega,fun j h=>by omega⟩ ?_
 clear F M;rintro m a w ⟨i,rfl,F,M,hi,hA⟩;revert a;refine Ac<|C2 rfl rfl<|Ag<|Ap rfl ?_ ?_
 ·intro h1b;have h1:=dT h1b;refine Aq<|Ag<|Ax<|Ac<|Aa rfl<|Ab rfl<|Ac<|Aa rfl<|Aa rfl<|Aa rfl<|Ar (fun a F=>Bt (b:=b7) (o:=0+i * 6) Akg.k Cl (F.ev rfl) (F.ev rfl) (by omega) ⟨0,rfl,rfl,by omega⟩) rfl<|Ar (fun a F=>Af Cl rfl (F.ev rfl) (cs:=[.string (str (C1 i)),.bool (decide (uAt i)),.bool (decide (uCo i)),.bool (decide (uTo i)),.bool (decide (uIt i)),kfn i]) rfl (M.cellsL (k:=0) rfl (Tz (k:=i) (by omega)))) rfl<|?_
  replace M:=M.perm (Ao _ 1 _ rfl);change Mem w0 G (_::_::L) _ at M;refine Acm ent135 (caps:=[.pointer (some ⟨b6,0,none⟩)]) rfl rfl rfl (n1_spec (nm:=C1 i) (by unfold kfn;split <;> rfl) S M hW)<|?_;clear M;rintro _ w M rfl
  refine Ap rfl ?_ ?_
  ·intro h2b;have h2:=dT h2b;refine Ac<|Aa rfl<|Ab rfl<|Ae<|Ad rfl rfl<|?_
   replace M:=M.perm (Ao _ 1 _ rfl);change Mem w0 G (_::_::L) _ at M
   exact ⟨M,_,rfl,Or.inr ⟨i,by omega,rfl,by assumption,hA⟩⟩
  intro h3b;have h3:=dF h3b;refine Aq<|Az<|Bx rfl rfl<|Aa rfl<|Bc<|Cm<|?_
  replace M:=M.perm (Ao _ 1 _ rfl);change Mem w0 G (_::_::L) _ at M;intro a F
  exact ⟨_,by omega,i+1,rfl,F.to ⟨rfl,rfl,rfl,rfl,rfl,trivial⟩,(M.weaken (cC (.cons_cons _ (sR _)))),by omega,fun j hj=>by rcases Nat.lt_succ_iff_lt_or_eq.1 hj with h_ | h_;exact hA j h_;subst h_;assumption⟩
 intro h4b;have h4:=dF h4b;refine B5<|Bw<|Bw<|Dj<|Ac<|Ab rfl<|Ae<|Ad rfl rfl<|?_
 replace M:=M.perm (Ao _ 1 _ rfl);replace M:=M.perm (Ao _ 1 _ rfl);change Mem w0 G (_::_::L) _ at M
 exact ⟨M,_,rfl,Or.inl ⟨rfl,fun j hj=>hA j (by omega)⟩⟩
end Go.Proofs.YtmmhmcplegpenaaGreatDoor
