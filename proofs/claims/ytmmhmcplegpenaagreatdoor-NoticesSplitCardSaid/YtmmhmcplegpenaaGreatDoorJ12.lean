/- Notices: their lines and texts. · The walks, part LQ. · The walks, part LR. · The walks, part LS. · The walks, part LT. · Notices: what a text stands for. · More layings of library functions (strconv.Atoi): began as written by lay-shelf.mjs. · The walks, part LU. · The walks, part LV. -/
import Derived.Test.YtmmhmcplegpenaaGreatDoorJ11
import Derived.Lib.ItoaMem
import Derived.Lib.AtoiAll
import Derived.Shelf.Strconv.AtoiAll
import Derived.Test.YtmmhmcplegpenaaGreatDoorJ1
set_option linter.unusedSimpArgs false
set_option linter.unusedVariables false
set_option maxRecDepth 10000
namespace Go.Proofs.YtmmhmcplegpenaaGreatDoor
open Go Go.Y Go.RowKit
def fm {α:Type} (l:List (Bool × α)):List α:=(l.filter (·.1)).map (·.2)
section
variable {ρ:Operand→Value} {P:Program} {d:Option Tmp} {t:TypeId} {p:String} {af:Array Edge} {g:Option (Nat × Bool)} {w:World}
end
theorem R9 {α:Type} {l:List (Bool × α)} {i:Nat} {x:Bool × α} (h:l[i]?=some x):fm (l.take (i+1))=fm (l.take i)++(if x.1=true then [x.2] else []):=by
 unfold fm;rw [List.take_add_one,h];simp only [Option.toList_some,List.filter_append,List.map_append]
 congr 1
 by_cases hx:x.1=true
 ·simp [hx]
 simp [hx]
theorem Afo {α:Type} (l:List (Bool × α)):(fm l).length≤l.length:=by
 unfold fm;rw [List.length_map];exact List.length_filter_le _ _
def F7 (k b b2:Nat):List (Bool × (Nat × Nat)):=[(decide (uAt k),(b,1)),(decide (uCo k),(b,2)),(decide (uTo k),(b,3)),(decide (uIt k),(b2,0))]
def nuK (x:NotD) (sz:Int):List (Bool × Int):=[(decide (uAt x.kind),x.at_),(decide (uCo x.kind),x.count),(decide (uTo x.kind),x.to),(decide (uIt x.kind),sz)]
def Aot:Rd (Nat × Nat):=fun _ cs p=>cs=[.pointer (some ⟨p.1,p.2,none⟩)]
theorem Kl:Ho Aot:=fun _ _ _ _ _ h=>h
def rdUP:Rd (Bool × (Nat × Nat)):=fun _ cs p=>cs=[.bool p.1,.pointer (some ⟨p.2.1,p.2.2,none⟩)]
theorem Akt:Ho rdUP:=fun _ _ _ _ _ h=>h
theorem els_ups {G:Aq} {a b c d:Bool} {b1 b2 b3 b4 o1 o2 o3 o4:Nat}:Els rdUP 2 G [.bool a,.pointer (some ⟨b1,o1,none⟩),.bool b,.pointer (some ⟨b2,o2,none⟩),.bool c,.pointer (some ⟨b3,o3,none⟩),.bool d,.pointer (some ⟨b4,o4,none⟩)] [(a,(b1,o1)),(b,(b2,o2)),(c,(b3,o3)),(d,(b4,o4))] :=
 ⟨[.bool a,.pointer (some ⟨b1,o1,none⟩)],_,rfl,rfl,rfl,[.bool b,.pointer (some ⟨b2,o2,none⟩)],_,rfl,rfl,rfl,[.bool c,.pointer (some ⟨b3,o3,none⟩)],_,rfl,rfl,rfl,[.bool d,.pointer (some ⟨b4,o4,none⟩)],[],rfl,rfl,rfl,rfl⟩
theorem els_pt {G:Aq} {p:Nat × Nat}:Els Aot 1 G [.pointer (some ⟨p.1,p.2,none⟩)] [p]:=⟨[.pointer (some ⟨p.1,p.2,none⟩)],[],rfl,rfl,rfl,rfl⟩
theorem fld_get {x:NotD} {b b2 i:Nat} {sz:Int} {p:Nat × Nat} (h:(fm (F7 x.kind b b2))[i]?=some p) :
  ∃ z,(fm (nuK x sz))[i]?=some z∧((p=(b,1)∧z=x.at_)∨(p=(b,2)∧z=x.count)∨(p=(b,3)∧z=x.to)∨(p=(b2,0)∧z=sz)):=by
 unfold F7 fm at h;unfold nuK fm
 rcases bE (decide (uAt x.kind)) with h1 | h1 <;> rcases bE (decide (uCo x.kind)) with h2 | h2 <;>
 rcases bE (decide (uTo x.kind)) with h3 | h3 <;> rcases bE (decide (uIt x.kind)) with h4 | h4 <;> rw [h1,h2,h3,h4] at h ⊢ <;>
 simp only [List.filter_cons,List.filter_nil,if_true,if_false,Bool.false_eq_true,List.map_cons,List.map_nil] at h ⊢ <;>
 rcases i with _ | _ | _ | _ | i <;> simp only [List.getElem?_cons_zero,List.getElem?_cons_succ,List.getElem?_nil,Option.some.injEq,reduceCtorEq] at h <;>
 first | contradiction | (subst h;exact ⟨_,rfl,by simp⟩)
theorem Sa {x:NotD} {b b2:Nat} {sz:Int}:(fm (F7 x.kind b b2)).length=(fm (nuK x sz)).length:=by
 unfold F7 nuK fm
 rcases bE (decide (uAt x.kind)) with h1 | h1 <;> rcases bE (decide (uCo x.kind)) with h2 | h2 <;>
 rcases bE (decide (uTo x.kind)) with h3 | h3 <;> rcases bE (decide (uIt x.kind)) with h4 | h4 <;> rw [h1,h2,h3,h4] <;> rfl
def Bv (zs:List Int):List UInt8:=zs.flatMap fun z=>32::Lib.itoa z
theorem Adj {zs:List Int} {i:Nat} {z:Int} (h:zs[i]?=some z):Bv (zs.take (i+1))=Bv (zs.take i)++(32::Lib.itoa z):=by
 unfold Bv;rw [List.take_add_one,h];simp
def D7 (x:NotD) (sz:Int):List UInt8:=Cg x.kind++Bv (fm (nuK x sz))++[10]
def Abd (x:NotD):List UInt8:=D7 x ((x.items.length:Nat):Int)++Cc x.items
def Dp (l:List NotD):List UInt8:=l.flatMap Abd
theorem Afd {l:List NotD} {i:Nat} {x:NotD} (h:l[i]?=some x):Dp (l.take (i+1))=Dp (l.take i)++Abd x:=by
 unfold Dp;rw [List.take_add_one,h];simp
def Ip (x:NotD):Int:=if Dr x≠0 then Dr x else Jq x.items
def Rr (l:List NotD) (i:Nat):Int:=match l[i]? with
 | some x=>Ip x
 | none=>0
theorem Afr {l:List NotD} {i:Nat} {x:NotD} (h:l[i]?=some x):Rr l i=Ip x:=by unfold Rr;rw [h]
def Gz (l:List NotD):Int:=if 32 < l.length then 3 else if Bm (Rr l) l.length≠0 then Bm (Rr l) l.length else if 1048576 < (Dp l).length then 3 else 0
def Ka (l:List NotD):List UInt8:=if Gz l=0 then Dp l else []
section
variable {l:List NotD} {i:Nat} {x:NotD}
theorem nt_3 (h:32 < l.length):Gz l=3∧Ka l=[]:=by
 have h1:Gz l=3:=by unfold Gz;rw [if_pos h]
 exact ⟨h1,by unfold Ka;rw [if_neg (by omega)]⟩
theorem nt_e (h:¬ 32 < l.length) (hS:Bm (Rr l) i=0) (hx:l[i]?=some x) (he:Ip x≠0):Gz l=Ip x∧Ka l=[]:=by
 have h0:=Jg hS (A0 hx) (by rw [Afr hx];exact he);rw [Afr hx] at h0;have h1:Gz l=Ip x:=by unfold Gz;rw [if_neg h,if_pos (by rw [h0];exact he),h0]
 exact ⟨h1,by unfold Ka;rw [if_neg (by rw [h1];exact he)]⟩
theorem Aph (h:¬ 32 < l.length) (hS:Bm (Rr l) i=0) (hi:i=l.length) (hl:1048576 < (Dp (l.take i)).length):Gz l=3∧Ka l=[]:=by
 subst hi;rw [List.take_length] at hl;have h1:Gz l=3:=by unfold Gz;rw [if_neg h,if_neg (not_not_intro hS),if_pos hl]
 exact ⟨h1,by unfold Ka;rw [if_neg (by omega)]⟩
theorem nt_0 (h:¬ 32 < l.length) (hS:Bm (Rr l) i=0) (hi:i=l.length) (hl:¬ 1048576 < (Dp (l.take i)).length):Gz l=0∧Ka l=Dp (l.take i):=by
 subst hi;rw [List.take_length] at hl ⊢;have h1:Gz l=0:=by unfold Gz;rw [if_neg h,if_neg (not_not_intro hS),if_neg hl]
 exact ⟨h1,by unfold Ka;rw [if_pos h1]⟩
end
theorem Vt {l:List ItemD} (h:Jq l=0):(l.length≤1024∧J8 l)∧Lb l=Cc l:=by
 by_cases h1:1024 < l.length
 ·rw [(Sl h1).1] at h;cases h
 by_cases h2:J8 l
 ·exact ⟨⟨by omega,h2⟩,(X2 (by omega) h2).2⟩
 rw [(Sm (by omega) h2).1] at h;cases h
theorem Aqv {x:NotD} (h:Dr x≠0):Ip x=Dr x:=by unfold Ip;rw [if_pos h]
theorem Aij {x:NotD} (h:Dr x=0):Ip x=Jq x.items:=by unfold Ip;rw [if_neg (not_not_intro h)]
theorem Adi {k:List UInt8} {zs:List Int} {i:Nat} {z:Int} (h:zs[i]?=some z):k++Bv (zs.take i)++([32]++Lib.itoa z)=k++Bv (zs.take (i+1)):=by
 rw [Adj h];simp only [List.append_assoc,List.cons_append,List.nil_append]
theorem Api {l:List NotD} {i:Nat} {x:NotD} (h:l[i]?=some x) {zs:List Int} {j:Nat} (hz:zs=fm (nuK x ((x.items.length:Nat):Int))) (hj:zs.length≤j) {t:List UInt8} (ht:t=Cc x.items) :
  Dp (l.take i)++Cg x.kind++Bv (zs.take j)++([10]++t)=Dp (l.take (i+1)):=by
 subst hz ht;rw [List.take_of_length_le hj,Afd h];simp only [Abd,D7,List.append_assoc,List.cons_append,List.nil_append]
theorem Wk (k:Nat):(Cg k).length≤6:=by unfold Cg;split <;> simp
theorem Aby {z:Int} (h:Au .i64 z):(Lib.itoa z).length≤21:=by
 obtain ⟨h1,h2⟩:=h;have h1:-9223372036854775808≤z:=h1;have h2:z≤9223372036854775807:=h2;unfold Lib.itoa
 split
 ·have:=Dd z.natAbs (by omega);simp only [List.length_cons,List.length_append,List.length_nil];omega
 have:=Dd z.toNat (by omega)
 omega
theorem Pr:∀ {zs:List Int},(∀ z∈zs,Au .i64 z)→(Bv zs).length≤22 * zs.length
 | [],_=>by simp [Bv]
 | z::zs,h=>by
  have h1:=Aby (h z (by simp));have h2:=Pr (zs:=zs) fun y hy=>h y (by simp [hy]);simp only [Bv,List.flatMap_cons,List.length_append,List.length_cons] at h2 ⊢
  omega
theorem Yy {x:NotD} {sz:Int} (h1:Au .i64 x.at_) (h2:Au .i64 x.count) (h3:Au .i64 x.to) (h4:Au .i64 sz):∀ z∈fm (nuK x sz),Au .i64 z:=by
 intro z hz;unfold fm nuK at hz;simp only [List.mem_map,List.mem_filter,List.mem_cons,List.not_mem_nil,or_false] at hz;obtain ⟨⟨b,y⟩,⟨hy | hy | hy | hy,_⟩,rfl⟩:=hz <;> (simp only [Prod.mk.injEq] at hy;obtain ⟨_,rfl⟩:=hy;assumption)
open Go Go.Y Go.Proofs
variable {w0 w:World} {G:Aq} {L:List Res}
set_option maxHeartbeats 1600000
theorem Acf (M:Mem w0 G L w) (HG:Globs 0 1 2 3 G) {z:Int} (hz:Au .i64 z):Calls Tryz.prog 133 #[.int .i64 z] w (Bu w0 G L fun v=>v=.string (str (Lib.itoa z))):=by
 refine Al (vs:=[_]) Tryz.func133 rfl (n:=5) rfl rfl<|?_
 refine wk ?_;refine A4 Arn rfl rfl (Acg (n:=z) M HG (by first | assumption | exact ⟨by decide,by decide⟩ | exact wrap_ink _ _ | exact Br (by omega) (by omega)))<|?_;clear M;rintro _ w M rfl
 refine wk ?_;refine Ad rfl rfl<|?_
 exact ⟨M,rfl⟩
theorem T9 (M:Mem w0 G L w) (HG:Globs 0 1 2 3 G) {z:Int} (hz:Au .i64 z):Calls Tryz.prog 83 #[.int .i64 z] w (Bu w0 G L fun v=>v=.string (str (Lib.itoa z))):=by
 refine Al (vs:=[_]) Tryz.func83 rfl (n:=5) rfl rfl<|?_
 refine wk ?_;refine A4 Aru rfl rfl (Acf (z:=z) M HG hz)<|?_;clear M;rintro _ w M rfl
 refine wk ?_;refine Ad rfl rfl<|?_
 exact ⟨M,rfl⟩
theorem Amb {w0 w:World} {G:Aq} {L:List Res} {b n c:Nat} {ad:Option Addr} {l:List UInt8} {p:Value} (M:Mem w0 G (.blk b [p,.slice ad n c] 101::.row (.slice ad n c) n (bc l) 5 1::L) w) (hn:n=l.length) :
  Calls Tryz.prog 84 #[.pointer (some ⟨b,0,none⟩)] w (Bu w0 G (.blk b [p,.slice ad n c] 101::.row (.slice ad n c) n (bc l) 5 1::L) fun v=>v=.int .i64 ((l.length:Nat):Int)):=by
 refine Al (vs:=[_]) Tryz.func84 rfl (n:=8) rfl rfl<|?_
 refine wk ?_;refine Ad rfl rfl<|?_
 exact ⟨M,by rw [hn]⟩
theorem We (M:Mem w0 G L w) {k b b2:Nat}:Calls Tryz.prog 82 #[.agg #[.string (str (Cg k)),.bool (decide (uAt k)),.bool (decide (uCo k)),.bool (decide (uTo k)),.bool (decide (uIt k)),.func (.func (Ft k)) #[] #[]],.pointer (some ⟨b,0,none⟩),.pointer (some ⟨b2,0,none⟩)] w (Ret w0 G L fun G' v=>∃ (a:Option Addr) (cc:Nat),v=.slice a (fm (F7 k b b2)).length cc∧Ag Aot 1 G' (.slice a (fm (F7 k b b2)).length cc) (fm (F7 k b b2))):=by
 refine Al (vs:=[_,_,_]) Tryz.func82 rfl (n:=47) rfl rfl<|?_
 refine Bt<|?_
 refine B2 M rfl rfl rfl<|?_;clear M;intro b1 w M
 refine wk ?_;refine fun a F=>E3 [(true,0),(true,1),(true,2),(true,3),(true,4),(true,5),(true,6),(true,7),(true,8),(true,9),(true,10),(true,11),(true,12),(true,13),(true,14),(true,15),(true,16),(true,17),(true,18),(true,19),(true,20),(true,21),(true,24),(false,22),(true,23)] (Keep G [.blk b1 [.string (str (Cg k)),.bool (decide (uAt k)),.bool (decide (uCo k)),.bool (decide (uTo k)),.bool (decide (uIt k)),.func (.func (Ft k)) #[] #[]] 138]) rfl (by kernel_rfl) (fun c a d v w h=>by cases d <;> exact h) (Ax (M.drew _)) ?_;replace M:=M.drew (w.drawn+1);revert a;refine wk ?_;refine l_r (fun a F w M=>Ah (cs:=[.bool (decide (uAt k)),.pointer (some ⟨b,0+1,none⟩)]) (ps:=[(0,.bool (decide (uAt k))),(1,.pointer (some ⟨b,0+1,none⟩))]) Hv.k rfl Hv (F.evp rfl) rfl) rfl<|?_
 refine wk ?_;refine l_r (fun a F w M=>Ah (cs:=[.bool (decide (uCo k)),.pointer (some ⟨b,0+2,none⟩)]) (ps:=[(0,.bool (decide (uCo k))),(1,.pointer (some ⟨b,0+2,none⟩))]) Hv.k rfl Hv (F.evp rfl) rfl) rfl<|?_
 refine wk ?_;refine l_r (fun a F w M=>Ah (cs:=[.bool (decide (uTo k)),.pointer (some ⟨b,0+3,none⟩)]) (ps:=[(0,.bool (decide (uTo k))),(1,.pointer (some ⟨b,0+3,none⟩))]) Hv.k rfl Hv (F.evp rfl) rfl) rfl<|?_
 refine wk ?_;refine l_r (fun a F w M=>Ah (cs:=[.bool (decide (uIt k)),.pointer (some ⟨b2,0,none⟩)]) (ps:=[(0,.bool (decide (uIt k))),(1,.pointer (some ⟨b2,0,none⟩))]) Hv.k rfl Hv (F.evp rfl) rfl) rfl<|?_
 refine wk ?_;refine l_a rfl<|?_
 intro a F;refine B7 F M Ams.k Hv (ps:=[(0,.agg #[.bool (decide (uAt k)),.pointer (some ⟨b,0+1,none⟩)]),(1,.agg #[.bool (decide (uCo k)),.pointer (some ⟨b,0+2,none⟩)]),(2,.agg #[.bool (decide (uTo k)),.pointer (some ⟨b,0+3,none⟩)]),(3,.agg #[.bool (decide (uIt k)),.pointer (some ⟨b2,0,none⟩)])]) (cs:=[[.bool (decide (uAt k)),.pointer (some ⟨b,0+1,none⟩)],[.bool (decide (uCo k)),.pointer (some ⟨b,0+2,none⟩)],[.bool (decide (uTo k)),.pointer (some ⟨b,0+3,none⟩)],[.bool (decide (uIt k)),.pointer (some ⟨b2,0,none⟩)]]) (fl:=[.bool (decide (uAt k)),.pointer (some ⟨b,0+1,none⟩),.bool (decide (uCo k)),.pointer (some ⟨b,0+2,none⟩),.bool (decide (uTo k)),.pointer (some ⟨b,0+3,none⟩),.bool (decide (uIt k)),.pointer (some ⟨b2,0,none⟩)]) rfl rfl (by simp [Hn,Value.cells]) (by simp [Amx]) rfl (by simp [Value.oneCell']) (by decide) (by decide) rfl ?_;clear F M a;intro v2 w a M F;obtain ⟨av2,cv2,rfl,hlev2,hcmv2,hlv2⟩:=M.row_shape (k:=0) rfl;revert a;refine Ao<|?_
 refine eQ (Ax M)<|?_
 have Eu:Els rdUP 2 G [.bool (decide (uAt k)),.pointer (some ⟨b,0+1,none⟩),.bool (decide (uCo k)),.pointer (some ⟨b,0+2,none⟩),.bool (decide (uTo k)),.pointer (some ⟨b,0+3,none⟩),.bool (decide (uIt k)),.pointer (some ⟨b2,0,none⟩)] (F7 k b b2):=els_ups;refine wk ?_;have M:=M.nilrow 150 1;replace M:=z_M M;intro a F;refine Ba (fun m a' w'=>∃ (i:Nat),∃ (ar:Option Addr),∃ (nr:Nat),∃ (cr:Nat),∃ (csr:List Value),m=4 - i∧Fits 47 a' [(32,.slice av2 4 (cv2)),(33,.int .i64 ((4:Nat):Int)),(7,.slice ar nr cr),(34,.int .i64 ((i:Nat):Int))]∧Mem w0 G (.row (.slice ar nr cr) (nr) (csr) 150 1::.row (.slice av2 4 (cv2)) 4 ([.bool (decide (uAt k)),.pointer (some ⟨b,0+1,none⟩),.bool (decide (uCo k)),.pointer (some ⟨b,0+2,none⟩),.bool (decide (uTo k)),.pointer (some ⟨b,0+3,none⟩),.bool (decide (uIt k)),.pointer (some ⟨b2,0,none⟩)]) 215 2::.blk b1 [.string (str (Cg k)),.bool (decide (uAt k)),.bool (decide (uCo k)),.bool (decide (uTo k)),.bool (decide (uIt k)),.func (.func (Ft k)) #[] #[]] 138::L) w'∧(i≤4)∧(Els Aot 1 G csr (fm ((F7 k b b2).take i)))∧(nr≤i)) _ ⟨0,none,0,0,[],rfl,F.to ⟨rfl,rfl,rfl,rfl,trivial⟩,M,by omega,Els.nil,by omega⟩ ?_;clear F M;rintro m a w ⟨i,ar,nr,cr,csr,rfl,F,M,hi,Er,hnr⟩;revert a;refine wk ?_;refine qD rfl ?_ ?_
 ·intro h3;refine wk ?_;obtain ⟨Xe4,hXe4⟩:=Ap (xs:=(F7 k b b2)) (i:=i) (by (show i < 4;omega));obtain ⟨be4,_,Ie4,hme4,_,Ae4,rfl⟩:=M.atRow (k:=1) rfl (by decide) Eu hXe4;refine wk ?_;refine Am (fun a F=>Da Hv rfl (F.ev rfl) (cs:=[.bool (Xe4.1),.pointer (some ⟨Xe4.2.1,Xe4.2.2,none⟩)]) rfl (Aut Ae4 0 (by omega) rfl)) rfl<|B1 M Hv rfl rfl<|?_;clear M;intro b5 w M
  intro a F;refine Be F M Hv 0 ?_;clear F M a;intro w a M F;replace M:=z_M M;revert a;refine wk ?_;refine Ae rfl ?_ ?_
  ·intro h7b;have h7:(Xe4.1)=true:=h7b;refine wk ?_;intro a F;refine Ar F M Adu.k Adt rfl rfl (cs:=[.pointer (some ⟨Xe4.2.1,Xe4.2.2,none⟩)]) rfl rfl (by simp [Value.oneCell']) (by decide) rfl ?_;clear F M a;intro v8 w a M F;obtain ⟨av8,cv8,rfl,hlev8,hcmv8,hlv8⟩:=M.row_shape (k:=0) rfl;have Eb9:Els Aot 1 G [.pointer (some ⟨Xe4.2.1,Xe4.2.2,none⟩)] [Xe4.2]:=els_pt;refine A3 F M (k:=2) (k2:=0) rfl rfl Adu.k Adt rfl rfl (by decide) rfl rfl (by show _ * 8≤_;(try simp only [List.length_drop,List.length_take,List.length_append,List.length_cons,List.length_nil]);omega) (by (try simp only [List.length_drop,List.length_take,List.length_append,List.length_cons,List.length_nil]);omega) rfl ?_;clear F M a;intro v10 w a M F;have Ev10:=Els.append Er Eb9;obtain ⟨av10,cv10,rfl,hlev10,hcmv10,hlv10⟩:=M.row_shape (k:=2) rfl;revert a;refine wk ?_;intro a F
   exact ⟨_,by omega,i+1,(av10),(nr+1),(cv10),csr++([.pointer (some ⟨Xe4.2.1,Xe4.2.2,none⟩)]),rfl,F.to ⟨rfl,rfl,rfl,rfl,trivial⟩,(M.weaken (cN (.cons _ (cC (.cons_cons _ (cC (sR _))))))),by omega,by have h_:=Ev10;first | (rw [R9 hXe4,if_pos (by assumption)];exact h_) | (rw [R9 hXe4,if_neg (by simp_all),List.append_nil];exact h_),by omega⟩
  intro h11b;have h11:(Xe4.1)=false:=h11b;refine wk ?_;intro a F
  exact ⟨_,by omega,i+1,(ar),(nr),(cr),csr,rfl,F.to ⟨rfl,rfl,rfl,rfl,trivial⟩,(M.weaken (cN (cC (.cons_cons _ (cC (sR _)))))),by omega,by have h_:=Er;first | (rw [R9 hXe4,if_pos (by assumption)];exact h_) | (rw [R9 hXe4,if_neg (by simp_all),List.append_nil];exact h_),by omega⟩
 intro h12;refine wk ?_;intro a F;rw [List.take_of_length_le (show (F7 k b b2).length≤i by show 4≤i;omega)] at Er;obtain ⟨hnz13,Gz13,az13,cz13,hGz13,hez13,Sz13,M⟩:=M.freeze_row Kl (k:=0) rfl Er (by decide);clear hez13 az13 cz13;replace Eu:=Eu.mono Akt hGz13;rw [hnz13] at F Sz13;revert a;refine wk ?_;refine Ad rfl rfl<|?_
 exact ⟨_,hGz13,M.weaken dS2,_,_,rfl,Sz13⟩
set_option maxHeartbeats 1600000
theorem Kz {w0 w:World} {G:Aq} {L:List Res} (M:Mem w0 G L w) (HG:Globs 0 1 2 3 G) {an:Option Addr} {cn:Nat} {ns:List NotD} (SN:Ag E6 5 G (.slice an ns.length cn) ns):Calls Tryz.prog 32 #[.slice an ns.length cn] w (Ret w0 G L fun G' v=>v=.tuple #[.string (str (Ka ns)),.int .i64 (Gz ns)]):=by
 have bN:=SN.bound;refine Al (vs:=[_]) Tryz.func32 rfl (n:=68) rfl rfl<|?_
 refine wk ?_;refine qD rfl ?_ ?_
 ·intro h1;refine wk ?_;refine C8 rfl rfl rfl<|?_
  exact ⟨_,(Gle.refl _),M,by rw [(nt_3 (by omega)).1,(nt_3 (by omega)).2];try rfl⟩
 intro h2;refine wk ?_;refine B1 M Pw rfl rfl<|?_;clear M;intro b3 w M
 refine wk ?_;replace M:=z_M M;have M:=(M.nilrow 5 1).perm (List.Perm.swap _ _ _);intro a F;rw [show ([]:List Value)=bc [] from rfl] at M;revert a;refine wk ?_;have hz0:([]:List UInt8)=Dp (ns.take 0):=by simp [Dp]
 intro a F;rw [hz0] at M;refine Ba (fun m a' w'=>∃ (i:Nat),∃ (am:Option Addr),∃ (nm:Nat),∃ (cm:Nat),∃ (pm:Value),m=ns.length - i∧∃ G5,Gle G G5∧Fits 68 a' [(4,.pointer (some ⟨b3,0,none⟩)),(17,.slice an ns.length cn),(18,.int .i64 ((ns.length:Nat):Int)),(19,.int .i64 ((i:Nat):Int))]∧Mem w0 G5 (.blk b3 [pm,.slice am nm cm] 101::.row (.slice am nm cm) (nm) (bc (Dp (ns.take i))) 5 1::L) w'∧(i≤ns.length)∧(Bm (Rr ns) i=0)∧((Dp (ns.take i)).length≤320000 * i)∧(pm=.pointer none∨pm=.pointer (some ⟨b3,0,none⟩))∧(nm=(Dp (ns.take i)).length)∧((Dp (ns.take i))=[]→am=none)) _ ⟨0,(none),(0),(0),(.pointer none),rfl,G,Gle.refl _,F.to ⟨rfl,rfl,rfl,rfl,trivial⟩,M,Nat.zero_le _,rfl,by simp [Dp],(Or.inl rfl),rfl,(fun _=>rfl)⟩ ?_;clear F M;rintro m a w ⟨i,am,nm,cm,pm,rfl,G5,hG5,F,M,hi,hS,hlen,hpm,hnm,hnilm⟩;replace HG:=HG.mono hG5;replace SN:=SN.mono Aj hG5;revert a;refine wk ?_;refine qD rfl ?_ ?_
 ·intro h6;refine wk ?_;obtain ⟨Xe7,hXe7⟩:=Ap (xs:=ns) (i:=i) (by omega);obtain ⟨be7,oe7,_,Ie7,_,Ae7,hTe7⟩:=SN.at hXe7;obtain ⟨nae7,nce7,rfl,h1e7,h2e7,h3e7,h4e7,h5e7,SIe7⟩:=hTe7;have hNe7:Xe7.kind < 256∧Au .i64 Xe7.at_∧Au .i64 Xe7.count∧Au .i64 Xe7.to∧Xe7.items.length≤9223372036854775807:=⟨h1e7,h2e7,h3e7,h4e7,h5e7⟩;refine wk ?_;refine B1 M Bd rfl rfl<|?_;clear M;intro b8 w M
  intro a F;refine Be F M Bd 0 ?_;clear F M a;intro w a M F;revert a;refine Cj<|Bt<|Aeg Bd M 0 rfl rfl rfl rfl<|?_
  refine A4 Acn rfl rfl (Ha (x:=Xe7) M hNe7 SIe7)<|?_;clear M;rintro _ w M rfl
  refine Ew rfl<|Bt<|C0 rfl<|s_ne rfl rfl<|Ao<|F1<|?_
  refine Ae rfl ?_ ?_
  ·intro h10b;have h10:=dF (Ab h10b);refine Bt<|C0 rfl<|Ew rfl<|Ew rfl<|E9<|Gr<|Kd<|Gr<|Gr<|Kd<|Gr<|?_
   refine C8 rfl rfl rfl<|?_
   exact ⟨_,hG5,M.weaken dS3,by rw [(nt_e (by omega) hS hXe7 (by rw [Aqv (by omega)];omega)).1,(nt_e (by omega) hS hXe7 (by rw [Aqv (by omega)];omega)).2,Aqv (show Dr Xe7≠0 by omega)];try rfl⟩
  intro h11b;have h11:=dT (Ac h11b);refine F3<|Cj<|?_
  have hne:Dr Xe7=0:=by omega
  refine J3<|M7 Bd.k rfl rfl<|Nr Co M 0 rfl rfl rfl rfl<|?_
  refine A4 ent11 rfl rfl (Ajf (xs:=Xe7.items) M HG SIe7)<|?_;clear M;rintro _ w M rfl
  refine C0 rfl<|s_ex rfl rfl<|s_ex rfl rfl<|Ew rfl<|Ew rfl<|Cj<|Bt<|C0 rfl<|s_ne rfl rfl<|Ao<|F1<|?_
  refine Ae rfl ?_ ?_
  ·intro h12b;have h12:=dF (Ab h12b);refine Bt<|C0 rfl<|Ew rfl<|Ew rfl<|E9<|Gr<|Kd<|Gr<|Gr<|Kd<|Gr<|?_
   refine C8 rfl rfl rfl<|?_
   exact ⟨_,hG5,M.weaken dS3,by rw [(nt_e (by omega) hS hXe7 (by rw [Aij hne];omega)).1,(nt_e (by omega) hS hXe7 (by rw [Aij hne];omega)).2,Aij hne];try rfl⟩
  intro h13b;have h13:=dT (Ac h13b);refine F3<|Cj<|?_
  have ht0:=Vt (l:=Xe7.items) (by omega);have htl:=Vu ht0.1.2 (Za SIe7);intro a F;rw [← ht0.2] at htl;have hkk:=(I0.1 hne).1;have hnk:=Wk Xe7.kind;have hnu:=Yy (x:=Xe7) (sz:=((Xe7.items.length:Nat):Int)) hNe7.2.1 hNe7.2.2.1 hNe7.2.2.2.1 (Br (by omega) (by omega));have hfl4:=Afo (nuK Xe7 ((Xe7.items.length:Nat):Int));rw [show (nuK Xe7 ((Xe7.items.length:Nat):Int)).length=4 from rfl] at hfl4;refine Jo (fun a' w'=>∃ (b10k b11k:Nat),Fits 68 a' [(4,.pointer (some ⟨b3,0,none⟩)),(6,.pointer (some ⟨b8,0,none⟩)),(8,.string (str (Lb Xe7.items))),(17,.slice an ns.length cn),(18,.int .i64 ((ns.length:Nat):Int)),(19,.int .i64 ((i:Nat):Int)),(10,.pointer (some ⟨b10k,0,none⟩)),(11,.pointer (some ⟨b11k,0,none⟩))]∧Mem w0 G5 (.blk b11k [.int .i64 ((Xe7.items.length:Nat):Int)] 3::.blk b10k [.string (str (Cg Xe7.kind)),.bool (decide (uAt Xe7.kind)),.bool (decide (uCo Xe7.kind)),.bool (decide (uTo Xe7.kind)),.bool (decide (uIt Xe7.kind)),.func (.func (Ft Xe7.kind)) #[] #[]] 138::.blk b8 [.int .u8 ((Xe7.kind:Nat):Int),.int .i64 Xe7.at_,.int .i64 Xe7.count,.int .i64 Xe7.to,.slice nae7 Xe7.items.length nce7] 65::.blk b3 [pm,.slice am nm cm] 101::.row (.slice am nm cm) (nm) (bc (Dp (ns.take i))) 5 1::L) w') ?_ ?_
  ·skip
   have ht0:=Vt (l:=Xe7.items) (by omega);have htl:=Vu ht0.1.2 (Za SIe7);rw [← ht0.2] at htl;have hkk:=(I0.1 hne).1;have hnk:=Wk Xe7.kind;have hnu:=Yy (x:=Xe7) (sz:=((Xe7.items.length:Nat):Int)) hNe7.2.1 hNe7.2.2.1 hNe7.2.2.2.1 (Br (by omega) (by omega));have hfl4:=Afo (nuK Xe7 ((Xe7.items.length:Nat):Int));rw [show (nuK Xe7 ((Xe7.items.length:Nat):Int)).length=4 from rfl] at hfl4;refine Ic (.run 1 (.run 2 (.run 4 (.run 5 (.run 6 (.act 0 (.run 3 (.act 7 (.act 8 (.act 9 (.act 10 .fin .no) .no) .no) (.act 8 (.act 7 (.act 9 (.act 10 .fin .no) .no) .no) .no))) (.act 7 (.act 0 (.run 3 (.act 8 (.act 9 (.act 10 .fin .no) .no) .no)) (.act 8 (.act 0 (.run 3 (.act 9 (.act 10 .fin .no) .no)) .no) .no)) (.act 8 (.act 0 (.run 3 (.act 7 (.act 9 (.act 10 .fin .no) .no) .no)) (.act 7 (.act 0 (.run 3 (.act 9 (.act 10 .fin .no) .no)) .no) .no)) .no)))))))) (Keep G5 [.blk b8 [.int .u8 ((Xe7.kind:Nat):Int),.int .i64 Xe7.at_,.int .i64 Xe7.count,.int .i64 Xe7.to,.slice nae7 Xe7.items.length nce7] 65]) rfl (by kernel_rfl) (fun c a d v w h=>by cases d <;> exact h) (Ax (M.drew _)) ?_;replace M:=M.drew (w.drawn+1);revert a;refine wk ?_;refine fun a F=>A2 ?_ rfl ?_
   ·skip
    revert a;refine A4 Pe rfl rfl (Fu M)<|?_;clear M;rintro _ w M rfl
    refine Ao<|?_
    refine eQ (Ax M)<|t_r (fun a F w M=>Fp (j:=Xe7.kind) Fz.k Cm rfl (F.ev rfl) (F.ev rfl) rfl (by omega) (us:=[.string (str (Cg Xe7.kind)),.bool (decide (uAt Xe7.kind)),.bool (decide (uCo Xe7.kind)),.bool (decide (uTo Xe7.kind)),.bool (decide (uIt Xe7.kind)),.func (.func (Ft Xe7.kind)) #[] #[]]) (H9 (by omega))) rfl<|fun a F=>A2 ?_ rfl ?_
    ·skip
     revert a;refine B1 M Cm rfl rfl<|?_;clear M;intro b14 w M
     refine Ao<|?_
     refine eQ (Ax M)<|fun a F=>A2 ?_ rfl Bl
     revert a;refine B1 M Cq rfl rfl<|?_;clear M;intro b16 w M
     refine Ao<|?_
     refine eQ (Ax M)<|fun a F=>A2 ?_ rfl Bl
     refine Be F M Cm 1 ?_;clear F M a;intro w a M F;replace M:=z_M M;revert a;refine Ao<|?_
     refine eQ (Ax M)<|fun a F=>A2 ?_ rfl Bl
     revert a;refine Dv Cq M 0 rfl rfl rfl rfl rfl rfl<|?_;clear M;intro w M
     refine Ao<|?_
     refine eQ (Ax M)<|?_
     refine Ki<|?_
     intro a F
     exact ⟨b14,b16,F.to ⟨rfl,rfl,rfl,rfl,rfl,rfl,rfl,rfl,trivial⟩,M⟩
    refine A2 ?_ rfl ?_
    ·skip
     revert a;refine B1 M Cq rfl rfl<|?_;clear M;intro b18 w M
     refine Ao<|?_
     refine eQ (Ax M)<|fun a F=>A2 ?_ rfl Bl
     revert a;refine B1 M Cm rfl rfl<|?_;clear M;intro b20 w M
     refine Ao<|?_
     refine eQ (Ax M)<|fun a F=>A2 ?_ rfl Bl
     refine Be F M Cm 0 ?_;clear F M a;intro w a M F;replace M:=z_M M;revert a;refine Ao<|?_
     refine eQ (Ax M)<|fun a F=>A2 ?_ rfl Bl
     revert a;refine Dv Cq M 1 rfl rfl rfl rfl rfl rfl<|?_;clear M;intro w M
     refine Ao<|?_
     refine eQ (Ax M)<|?_
     refine Ki<|?_
     have M:=M.perm (List.Perm.swap _ _ _);intro a F
     exact ⟨b20,b18,F.to ⟨rfl,rfl,rfl,rfl,rfl,rfl,rfl,rfl,trivial⟩,M⟩
    exact Bl
   refine A2 ?_ rfl ?_
   ·skip
    revert a;refine B1 M Cm rfl rfl<|?_;clear M;intro b22 w M
    refine Ao<|?_
    refine eQ (Ax M)<|fun a F=>A2 ?_ rfl ?_
    ·skip
     revert a;refine A4 Pe rfl rfl (Fu M)<|?_;clear M;rintro _ w M rfl
     refine Ao<|?_
     refine eQ (Ax M)<|t_r (fun a F w M=>Fp (j:=Xe7.kind) Fz.k Cm rfl (F.ev rfl) (F.ev rfl) rfl (by omega) (us:=[.string (str (Cg Xe7.kind)),.bool (decide (uAt Xe7.kind)),.bool (decide (uCo Xe7.kind)),.bool (decide (uTo Xe7.kind)),.bool (decide (uIt Xe7.kind)),.func (.func (Ft Xe7.kind)) #[] #[]]) (H9 (by omega))) rfl<|fun a F=>A2 ?_ rfl Bl
     revert a;refine B1 M Cq rfl rfl<|?_;clear M;intro b24 w M
     refine Ao<|?_
     refine eQ (Ax M)<|fun a F=>A2 ?_ rfl Bl
     refine Be F M Cm 1 ?_;clear F M a;intro w a M F;replace M:=z_M M;revert a;refine Ao<|?_
     refine eQ (Ax M)<|fun a F=>A2 ?_ rfl Bl
     revert a;refine Dv Cq M 0 rfl rfl rfl rfl rfl rfl<|?_;clear M;intro w M
     refine Ao<|?_
     refine eQ (Ax M)<|?_
     refine Ki<|?_
     intro a F
     exact ⟨b22,b24,F.to ⟨rfl,rfl,rfl,rfl,rfl,rfl,rfl,rfl,trivial⟩,M⟩
    refine A2 ?_ rfl ?_
    ·skip
     revert a;refine B1 M Cq rfl rfl<|?_;clear M;intro b26 w M
     refine Ao<|?_
     refine eQ (Ax M)<|fun a F=>A2 ?_ rfl Bl
     revert a;refine A4 Pe rfl rfl (Fu M)<|?_;clear M;rintro _ w M rfl
     refine Ao<|?_
     refine eQ (Ax M)<|t_r (fun a F w M=>Fp (j:=Xe7.kind) Fz.k Cm rfl (F.ev rfl) (F.ev rfl) rfl (by omega) (us:=[.string (str (Cg Xe7.kind)),.bool (decide (uAt Xe7.kind)),.bool (decide (uCo Xe7.kind)),.bool (decide (uTo Xe7.kind)),.bool (decide (uIt Xe7.kind)),.func (.func (Ft Xe7.kind)) #[] #[]]) (H9 (by omega))) rfl<|fun a F=>A2 ?_ rfl Bl
     refine Be F M Cm 1 ?_;clear F M a;intro w a M F;replace M:=z_M M;revert a;refine Ao<|?_
     refine eQ (Ax M)<|fun a F=>A2 ?_ rfl Bl
     revert a;refine Dv Cq M 0 rfl rfl rfl rfl rfl rfl<|?_;clear M;intro w M
     refine Ao<|?_
     refine eQ (Ax M)<|?_
     refine Ki<|?_
     intro a F
     exact ⟨b22,b26,F.to ⟨rfl,rfl,rfl,rfl,rfl,rfl,rfl,rfl,trivial⟩,M⟩
    exact Bl
   refine A2 ?_ rfl ?_
   ·skip
    revert a;refine B1 M Cq rfl rfl<|?_;clear M;intro b28 w M
    refine Ao<|?_
    refine eQ (Ax M)<|fun a F=>A2 ?_ rfl ?_
    ·skip
     revert a;refine A4 Pe rfl rfl (Fu M)<|?_;clear M;rintro _ w M rfl
     refine Ao<|?_
     refine eQ (Ax M)<|t_r (fun a F w M=>Fp (j:=Xe7.kind) Fz.k Cm rfl (F.ev rfl) (F.ev rfl) rfl (by omega) (us:=[.string (str (Cg Xe7.kind)),.bool (decide (uAt Xe7.kind)),.bool (decide (uCo Xe7.kind)),.bool (decide (uTo Xe7.kind)),.bool (decide (uIt Xe7.kind)),.func (.func (Ft Xe7.kind)) #[] #[]]) (H9 (by omega))) rfl<|fun a F=>A2 ?_ rfl Bl
     revert a;refine B1 M Cm rfl rfl<|?_;clear M;intro b30 w M
     refine Ao<|?_
     refine eQ (Ax M)<|fun a F=>A2 ?_ rfl Bl
     refine Be F M Cm 0 ?_;clear F M a;intro w a M F;replace M:=z_M M;revert a;refine Ao<|?_
     refine eQ (Ax M)<|fun a F=>A2 ?_ rfl Bl
     revert a;refine Dv Cq M 1 rfl rfl rfl rfl rfl rfl<|?_;clear M;intro w M
     refine Ao<|?_
     refine eQ (Ax M)<|?_
     refine Ki<|?_
     have M:=M.perm (List.Perm.swap _ _ _);intro a F
     exact ⟨b30,b28,F.to ⟨rfl,rfl,rfl,rfl,rfl,rfl,rfl,rfl,trivial⟩,M⟩
    refine A2 ?_ rfl ?_
    ·skip
     revert a;refine B1 M Cm rfl rfl<|?_;clear M;intro b32 w M
     refine Ao<|?_
     refine eQ (Ax M)<|fun a F=>A2 ?_ rfl Bl
     revert a;refine A4 Pe rfl rfl (Fu M)<|?_;clear M;rintro _ w M rfl
     refine Ao<|?_
     refine eQ (Ax M)<|t_r (fun a F w M=>Fp (j:=Xe7.kind) Fz.k Cm rfl (F.ev rfl) (F.ev rfl) rfl (by omega) (us:=[.string (str (Cg Xe7.kind)),.bool (decide (uAt Xe7.kind)),.bool (decide (uCo Xe7.kind)),.bool (decide (uTo Xe7.kind)),.bool (decide (uIt Xe7.kind)),.func (.func (Ft Xe7.kind)) #[] #[]]) (H9 (by omega))) rfl<|fun a F=>A2 ?_ rfl Bl
     refine Be F M Cm 0 ?_;clear F M a;intro w a M F;replace M:=z_M M;revert a;refine Ao<|?_
     refine eQ (Ax M)<|fun a F=>A2 ?_ rfl Bl
     revert a;refine Dv Cq M 1 rfl rfl rfl rfl rfl rfl<|?_;clear M;intro w M
     refine Ao<|?_
     refine eQ (Ax M)<|?_
     refine Ki<|?_
     have M:=M.perm (List.Perm.swap _ _ _);intro a F
     exact ⟨b32,b28,F.to ⟨rfl,rfl,rfl,rfl,rfl,rfl,rfl,rfl,trivial⟩,M⟩
    exact Bl
   exact Bl
  clear F M;rintro a w ⟨b10k,b11k,F,M⟩;revert a;refine wk ?_;replace M:=M.perm (Af _ 4 _ rfl);replace M:=M.perm (Af _ 4 _ rfl);replace M:=z_M M;refine Py Aip rfl rfl (Mi (s:=(Cg Xe7.kind)) hpm M hnm hnilm (by (first | omega | (simp only [List.length_append,List.length_cons,List.length_nil];omega))))<|?_;clear M;rintro _ _ w M ⟨rfl,au34,nu34,cu34,rfl,hnu34,hnilu34⟩
  refine wk ?_;refine D4 ent82 rfl rfl (We (k:=Xe7.kind) (b:=b8) (b2:=b11k) M)<|?_;clear M;rintro _ Gq35 w hGq35 M ⟨aq35,cq35,rfl,Sq35⟩
  replace HG:=HG.mono hGq35;replace SN:=SN.mono Aj hGq35;replace Ae7:=Ae7.mono hGq35;replace SIe7:=SIe7.mono Ai hGq35;refine wk ?_;have hz2:(Dp (ns.take i))++(Cg Xe7.kind)=Dp (ns.take i)++Cg Xe7.kind++Bv ((fm (nuK Xe7 ((Xe7.items.length:Nat):Int))).take 0):=by simp [Bv]
  intro a F;rw [hz2] at M hnu34 hnilu34;have hfe:=Sa (x:=Xe7) (b:=b8) (b2:=b11k) (sz:=((Xe7.items.length:Nat):Int));refine Ba (fun m a' w'=>∃ (j:Nat),∃ (ak:Option Addr),∃ (nk:Nat),∃ (ck:Nat),∃ (pk:Value),m=(fm (F7 Xe7.kind b8 b11k)).length - j∧Fits 68 a' [(4,.pointer (some ⟨b3,0,none⟩)),(6,.pointer (some ⟨b8,0,none⟩)),(8,.string (str (Lb Xe7.items))),(10,.pointer (some ⟨b10k,0,none⟩)),(11,.pointer (some ⟨b11k,0,none⟩)),(17,.slice an ns.length cn),(18,.int .i64 ((ns.length:Nat):Int)),(19,.int .i64 ((i:Nat):Int)),(48,.slice aq35 ((fm (F7 Xe7.kind b8 b11k)).length) (cq35)),(49,.int .i64 ((((fm (F7 Xe7.kind b8 b11k)).length:Nat):Int))),(50,.int .i64 ((j:Nat):Int))]∧Mem w0 Gq35 (.blk b3 [pk,.slice ak nk ck] 101::.row (.slice ak nk ck) (nk) (bc (Dp (ns.take i)++Cg Xe7.kind++Bv ((fm (nuK Xe7 ((Xe7.items.length:Nat):Int))).take j))) 5 1::.blk b11k [.int .i64 ((Xe7.items.length:Nat):Int)] 3::.blk b10k [.string (str (Cg Xe7.kind)),.bool (decide (uAt Xe7.kind)),.bool (decide (uCo Xe7.kind)),.bool (decide (uTo Xe7.kind)),.bool (decide (uIt Xe7.kind)),.func (.func (Ft Xe7.kind)) #[] #[]] 138::.blk b8 [.int .u8 ((Xe7.kind:Nat):Int),.int .i64 Xe7.at_,.int .i64 Xe7.count,.int .i64 Xe7.to,.slice nae7 Xe7.items.length nce7] 65::L) w'∧(j≤(fm (F7 Xe7.kind b8 b11k)).length)∧(pk=.pointer none∨pk=.pointer (some ⟨b3,0,none⟩))∧(nk=(Dp (ns.take i)++Cg Xe7.kind++Bv ((fm (nuK Xe7 ((Xe7.items.length:Nat):Int))).take j)).length)∧((Dp (ns.take i)++Cg Xe7.kind++Bv ((fm (nuK Xe7 ((Xe7.items.length:Nat):Int))).take j))=[]→ak=none)) _ ⟨0,(au34),(nu34),(cu34),(.pointer (some ⟨b3,0,none⟩)),rfl,F.to ⟨rfl,rfl,rfl,rfl,rfl,rfl,rfl,rfl,rfl,rfl,rfl,trivial⟩,M,Nat.zero_le _,(Or.inr rfl),hnu34,hnilu34⟩ ?_
  clear F M;rintro m a w ⟨j,ak,nk,ck,pk,rfl,F,M,hj,hpk,hnk,hnilk⟩;revert a;refine wk ?_;refine qD rfl ?_ ?_
  ·intro h36;refine wk ?_;obtain ⟨Xe37,hXe37⟩:=Ap (xs:=(fm (F7 Xe7.kind b8 b11k))) (i:=j) (by omega);obtain ⟨be37,oe37,_,Ie37,_,Ae37,rfl⟩:=Sq35.at hXe37;refine wk ?_;obtain ⟨z,hz,hpz⟩:=fld_get (sz:=((Xe7.items.length:Nat):Int)) hXe37;have hzi:=hnu z (List.mem_of_getElem? hz);have hzl:=Aby hzi;have hwl:=Pr (zs:=(fm (nuK Xe7 ((Xe7.items.length:Nat):Int))).take j) fun y hy=>hnu y (List.mem_of_mem_take hy);have hwt:((fm (nuK Xe7 ((Xe7.items.length:Nat):Int))).take j).length≤(fm (nuK Xe7 ((Xe7.items.length:Nat):Int))).length:=List.length_take_le' _ _;have hpc:w.cell? ⟨Xe37.1,Xe37.2,none⟩=some (.int .i64 z):=by rcases hpz with ⟨h8_,rfl⟩ | ⟨h8_,rfl⟩ | ⟨h8_,rfl⟩ | ⟨h8_,rfl⟩ <;> rw [h8_];exact M.cellL (k:=4) rfl rfl;exact M.cellL (k:=4) rfl rfl;exact M.cellL (k:=4) rfl rfl;exact M.cellL (k:=2) rfl rfl
   refine wk ?_;refine Am (fun a F=>Cs (agf Cq rfl) (F.ev rfl) hpc) rfl<|A4 Ail rfl rfl (T9 (z:=z) M HG hzi)<|?_;clear M;rintro _ w M rfl
   refine Am (fun a F=>C1 (F.ev rfl) (F.ev rfl) (by (first | omega | (simp only [List.length_append,List.length_cons,List.length_nil];omega)))) rfl<|?_
   replace M:=M.perm (Af _ 1 _ rfl);replace M:=M.perm (Af _ 1 _ rfl);replace M:=z_M M;refine Py Aip rfl rfl (Mi (s:=(([32]:List UInt8)++(Lib.itoa z))) hpk M hnk hnilk (by (first | omega | (simp only [List.length_append,List.length_cons,List.length_nil];omega))))<|?_;clear M;rintro _ _ w M ⟨rfl,au38,nu38,cu38,rfl,hnu38,hnilu38⟩
   refine wk ?_;have hsn:(Dp (ns.take i)++Cg Xe7.kind++Bv ((fm (nuK Xe7 ((Xe7.items.length:Nat):Int))).take j))++(([32]:List UInt8)++(Lib.itoa z))=Dp (ns.take i)++Cg Xe7.kind++Bv ((fm (nuK Xe7 ((Xe7.items.length:Nat):Int))).take (j+1)):=Adi hz;intro a F;rw [hsn] at M hnu38 hnilu38
   exact ⟨_,by omega,j+1,(au38),(nu38),(cu38),(.pointer (some ⟨b3,0,none⟩)),rfl,F.to ⟨rfl,rfl,rfl,rfl,rfl,rfl,rfl,rfl,rfl,rfl,rfl,trivial⟩,M,by omega,(Or.inr rfl),hnu38,hnilu38⟩
  intro h39;refine wk ?_;have hfl:(fm (F7 Xe7.kind b8 b11k)).length≤j:=by omega
  have hwl:=Pr (zs:=(fm (nuK Xe7 ((Xe7.items.length:Nat):Int))).take j) fun y hy=>hnu y (List.mem_of_mem_take hy);have hwt:((fm (nuK Xe7 ((Xe7.items.length:Nat):Int))).take j).length≤(fm (nuK Xe7 ((Xe7.items.length:Nat):Int))).length:=List.length_take_le' _ _;refine wk ?_;refine Am (fun a F=>C1 (F.ev rfl) (F.ev rfl) (by (first | omega | (simp only [List.length_append,List.length_cons,List.length_nil];omega)))) rfl<|?_
  replace M:=M.perm (Af _ 1 _ rfl);replace M:=M.perm (Af _ 1 _ rfl);replace M:=z_M M;refine Py Aip rfl rfl (Mi (s:=(([10]:List UInt8)++(Lb Xe7.items))) hpk M hnk hnilk (by (first | omega | (simp only [List.length_append,List.length_cons,List.length_nil];omega))))<|?_;clear M;rintro _ _ w M ⟨rfl,au40,nu40,cu40,rfl,hnu40,hnilu40⟩
  refine wk ?_;have hsn:(Dp (ns.take i)++Cg Xe7.kind++Bv ((fm (nuK Xe7 ((Xe7.items.length:Nat):Int))).take j))++(([10]:List UInt8)++(Lb Xe7.items))=Dp (ns.take (i+1)):=Api hXe7 rfl (by have h9_:=Sa (x:=Xe7) (b:=0) (b2:=0) (sz:=((Xe7.items.length:Nat):Int));have h8_:=hfl;omega) ht0.2;intro a F;rw [hsn] at M hnu40 hnilu40
  exact ⟨_,by omega,i+1,(au40),(nu40),(cu40),(.pointer (some ⟨b3,0,none⟩)),rfl,Gq35,(hG5.trans hGq35),F.to ⟨rfl,rfl,rfl,rfl,trivial⟩,(M.weaken (cC (.cons_cons _ (cN (.cons _ (cN (sR _))))))),by omega,by rw [Fq hS,Afr hXe7,Aij hne];omega,by rw [← hsn];simp only [List.length_append,List.length_cons,List.length_nil];omega,(Or.inr rfl),hnu40,hnilu40⟩
 intro h41;refine wk ?_;replace M:=M.perm (Af _ 1 _ rfl);replace M:=M.perm (Af _ 1 _ rfl);replace M:=z_M M;refine A4 ent84 rfl rfl (Amb M hnm)<|?_;clear M;rintro _ w M rfl
 refine wk ?_;refine qD rfl ?_ ?_
 ·intro h42;refine wk ?_;refine C8 rfl rfl rfl<|?_
  exact ⟨_,hG5,M.weaken dS2,by rw [(Aph (by omega) hS (by omega) (by omega)).1,(Aph (by omega) hS (by omega) (by omega)).2];try rfl⟩
 intro h43;refine wk ?_;replace M:=M.perm (Af _ 1 _ rfl);replace M:=M.perm (Af _ 1 _ rfl);replace M:=z_M M;refine A4 ent43 rfl rfl (Xh M hnm hnilm)<|?_;clear M;rintro _ w M rfl
 refine wk ?_;refine C8 rfl rfl rfl<|?_
 exact ⟨_,hG5,M,by rw [(nt_0 (by omega) hS (by omega) (by omega)).1,(nt_0 (by omega) hS (by omega) (by omega)).2];try rfl⟩
set_option maxHeartbeats 1600000
set_option maxHeartbeats 1600000
section
variable {P:Program} {w:World} {ρ:Operand→Value} {dd:Option Tmp} {g:Option (Nat × Bool)} {t:TypeId} {p:String} {af:Array Edge}
theorem U7 {ta et:TypeId} {i:TI} {x:Operand} {n b:Nat} (ha:tk P ta=.array n et) (ht:TOK P et i) (hx:ρ x=.pointer (some ⟨b,0,none⟩)) :
  (execOp ρ ⟨dd,.slice ta x none none none,t,p,af,g⟩).run P w=.ok (.value (.slice (some ⟨b,0,none⟩) n n)) w:=by
 simp [execOp,Instr.sliceAt,B0 (Dz ha),hx,Instr.sureAddr,Instr.sliceBounds,Instr.sliceBound,ht.sizeOf,D9]
theorem Aah {ta et:TypeId} {i:TI} {x y:Operand} {m b o:Nat} {k:IntKind} {z:Int} {j:Nat} (ha:tk P ta=.array m et) (ht:TOK P et i) (hx:ρ x=.pointer (some ⟨b,o,none⟩)) (hy:ρ y=.int k z) (hz:z=(j:Int)) (hj:j < m) :
  (execOp ρ ⟨dd,.indexAddr ta x y,t,p,af,g⟩).run P w=.ok (.value (.pointer (some ⟨b,o+j * i.size,none⟩))) w:=by
 subst hz;have c1:(0:Int)≤(j:Int):=by omega
 have c2:(j:Int) < (m:Int):=by omega
 simp [execOp,Instr.indexAt,hx,hy,asIntOf,B0 (Dz ha),hj,ht.sizeOf,D9,Instr.sureAddr]
end
def kfn (k:Nat):Value:=if k=0 then .nilFunc else .func (.func (Ft k)) #[] #[]
theorem T4 {k:Nat} (h:k < 6):(J7.drop (0+k * 6)).take 6=[.string (str (Cg k)),.bool (decide (uAt k)),.bool (decide (uCo k)),.bool (decide (uTo k)),.bool (decide (uIt k)),kfn k]:=by
 rcases (show k=0∨k=1∨k=2∨k=3∨k=4∨k=5 by omega) with rfl | rfl | rfl | rfl | rfl | rfl <;> rfl
def Ce (s:List UInt8):List (List UInt8):=Lib.split s [32]
def Hf (r:List (List UInt8)):List UInt8:=r.flatMap fun s=>32::s
theorem Q2:∀ (k:Nat) (s:List UInt8) (p:List UInt8),p∈Lib.splitK [32] 0 k s→p.length≤s.length
 | 0,s,p,h=>by simp only [Lib.splitK,List.mem_singleton] at h;subst h;exact Nat.le_refl _
 | k+1,s,p,h=>by
  unfold Lib.splitK at h
  split at h
  ·simp only [List.mem_singleton] at h;subst h;exact Nat.le_refl _
  ·rcases List.mem_cons.1 h with rfl | h
   ·simp only [List.length_take];omega
   ·have:=Q2 k _ p h;simp only [List.length_drop] at this;omega
theorem So {s p:List UInt8} (h:p∈Ce s):p.length≤s.length:=Q2 _ _ _ h
theorem Z9 {d r:List UInt8} (k:Nat) (h:(32:UInt8) ∉ d):Lib.splitK [32] 0 (k+1) (d++32::r)=d::Lib.splitK [32] 0 k r:=by
 have h1:Lib.index (d++32::r) [32]=((d.length:Nat):Int):=by rw [Ko,Y9 h,if_pos (by simp)]
 rw [Lib.splitK,h1,if_neg (by rw [beq_iff_eq];omega)]
 congr 1
 ·simp
 congr 1;simp
theorem Li {s:List UInt8} {r:List (List UInt8)}:Hf (s::r)=32::(s++Hf r):=by simp [Hf]
theorem Nh:∀ (d:List UInt8) (r:List (List UInt8)),(∀ s∈d::r,(32:UInt8) ∉ s)→Lib.splitK [32] 0 r.length (d++Hf r)=d::r
 | d,[],_=>by simp [Hf,Lib.splitK]
 | d,y::r,h=>by
  rw [Li,List.length_cons,Z9 _ (h d (by simp)),Nh y r (fun s hs=>h s (by simp [hs]))]
theorem Rv:∀ (d:List UInt8) (r:List (List UInt8)),(∀ s∈d::r,(32:UInt8) ∉ s)→(d++Hf r).count 32=r.length
 | d,[],h=>by simpa [Hf] using List.count_eq_zero.2 (h d (by simp))
 | d,y::r,h=>by
  rw [Li,List.count_append,List.count_cons_self,Rv y r (fun s hs=>h s (by simp [hs])),List.count_eq_zero.2 (h d (by simp)),List.length_cons]
  omega
theorem X4 {d:List UInt8} {r:List (List UInt8)} (h:∀ s∈d::r,(32:UInt8) ∉ s):Ce (d++Hf r)=d::r:=by
 unfold Ce Lib.split;rw [Lib.count_one,Rv d r h,Nh d r h]
theorem Om:∀ (k:Nat) (s:List UInt8),∃ d r,Lib.splitK [32] 0 k s=d::r∧s=d++Hf r
 | 0,s=>⟨s,[],rfl,by simp [Hf]⟩
 | k+1,s=>by
  unfold Lib.splitK
  by_cases hi:ix 32 s < s.length
  ·have h1:Lib.index s [32]=((ix 32 s:Nat):Int):=by rw [Ko,if_pos hi]
   rw [h1,if_neg (by rw [beq_iff_eq];omega)];obtain ⟨d,r,e1,e2⟩:=Om k (s.drop (((ix 32 s:Nat):Int).toNat+([32]:List UInt8).length));refine ⟨_,_,rfl,?_⟩;rw [e1,Li,← e2];have h2:=Aqd 32 s hi;have h3:s.drop (ix 32 s)=32::s.drop (ix 32 s+1):=by
    rw [List.drop_eq_getElem_cons hi]
    congr 1
    rw [List.getElem?_eq_getElem hi] at h2
    exact Option.some.inj h2
   have h4:s=s.take (ix 32 s)++32::s.drop (ix 32 s+1):=by rw [← h3,List.take_append_drop]
   simpa using h4
  ·have h1:Lib.index s [32] = -1:=by rw [Ko,if_neg hi]
   rw [h1]
   exact ⟨s,[],by simp,by simp [Hf]⟩
theorem Q0 (s:List UInt8):∃ d r,Ce s=d::r∧s=d++Hf r:=Om _ s
theorem Zz (zs:List Int):Bv zs=Hf (zs.map Lib.itoa):=by unfold Bv Hf;rw [List.flatMap_map]
theorem Abx {c:UInt8} {z:Int} (h:¬ Rj c) (h2:c≠45):c ∉ Lib.itoa z:=by
 unfold Lib.itoa
 split
 ·intro h3
  rcases List.mem_cons.1 h3 with h3 | h3
  ·exact h2 h3
  exact My h h3
 exact My h
theorem Wj {k:Nat} {c:UInt8} (h:c=10∨c=32):c ∉ Cg k:=by
 unfold Cg
 split <;> rcases h with rfl | rfl <;> decide
theorem Zy {zs:List Int}:(10:UInt8) ∉ Bv zs:=by
 unfold Bv;simp only [List.mem_flatMap,not_exists,not_and,List.mem_cons,not_or]
 exact fun z _=>⟨by decide,Abx (by decide) (by decide)⟩
theorem Uf {x:NotD} {sz:Int} {r:List UInt8}:Lib.cut (D7 x sz++r) [10]=(Cg x.kind++Bv (fm (nuK x sz)),r,true):=by
 have:D7 x sz++r=(Cg x.kind++Bv (fm (nuK x sz)))++10::r:=by unfold D7;simp
 rw [this,J5];intro h
 rcases List.mem_append.1 h with h | h
 ·exact Wj (Or.inl rfl) h
 exact Zy h
theorem N8 {k:Nat} {zs:List Int}:Ce (Cg k++Bv zs)=Cg k::zs.map Lib.itoa:=by
 rw [Zz,X4];intro s hs
 rcases List.mem_cons.1 hs with rfl | hs
 ·exact Wj (Or.inr rfl)
 obtain ⟨z,_,rfl⟩:=List.mem_map.1 hs
 exact Abx (by decide) (by decide)
theorem Qb {j k:Nat} (hj:1≤j∧j≤5) (hk:1≤k∧k≤5) (h:Cg j=Cg k):j=k:=by
 rcases (show j=1∨j=2∨j=3∨j=4∨j=5 by omega) with rfl | rfl | rfl | rfl | rfl <;>
 rcases (show k=1∨k=2∨k=3∨k=4∨k=5 by omega) with rfl | rfl | rfl | rfl | rfl <;> first | rfl | (exact absurd h (by decide))
theorem Aat:∀ (l:List UInt8) (acc:Nat),(∀ c∈l,Rj c)→Ps l acc≤18446744073709551615→Lib.parseUint10 acc l=.ok (Ps l acc)
 | [],acc,_,_=>rfl
 | c::r,acc,hd,hv=>by
  have hc:48≤c.toNat∧c.toNat≤57:=hd c (by simp);simp only [Ps] at hv ⊢;have:=Xs r (10 * acc+(c.toNat - 48));unfold Lib.parseUint10;rw [if_pos hc,if_neg (by omega),if_neg (by omega),Nat.mul_comm acc 10]
  exact Aat r _ (fun x hx=>hd x (by simp [hx])) hv
theorem Aho {u:Nat} (h:u≤18446744073709551615):Lib.parseMag (Lib.decDigits u)=.ok u:=by
 unfold Lib.parseMag;rw [if_neg (Afz u),Aat _ 0 (Sc u) (by rw [Jp];exact h),Jp]
theorem Qh {z:Int} (h:Au .i64 z):Lib.atoiAll (Lib.itoa z)=.ok z:=by
 obtain ⟨h1,h2⟩:=h;have h1:-9223372036854775808≤z:=h1;have h2:z≤9223372036854775807:=h2
 rcases Int.lt_or_le z 0 with h0 | h0
 ·obtain ⟨u,hu⟩:=Int.eq_ofNat_of_zero_le (show 0≤-z by omega);have hz:z = -(u:Int):=by omega
  subst hz;rw [Lib.itoa_neg u (by omega)];unfold Lib.atoiAll;simp only [show (45:UInt8).toNat=45 from rfl,or_true,if_true,Aho (show u≤18446744073709551615 by omega),not_true_eq_false,false_and,if_false,true_and];rw [if_neg (by omega)]
 ·obtain ⟨u,rfl⟩:=Int.eq_ofNat_of_zero_le h0;rw [Lib.itoa_nonneg]
  cases hd:Lib.decDigits u with
  | nil=>exact absurd hd (Afz u)
  | cons c r =>
   have hc:=Sc u c (by rw [hd];simp);have hc':48≤c.toNat∧c.toNat≤57:=hc;unfold Lib.atoiAll;simp only [show ¬ (c.toNat=43∨c.toNat=45) by omega,if_false,← hd];rw [Aho (show u≤18446744073709551615 by omega)];simp only [show ¬ c.toNat=45 by omega,not_false_eq_true,true_and,false_and,if_false];rw [if_neg (by omega)]
theorem Aqe {z y:Int} (hz:Au .i64 z) (hy:Au .i64 y) (h:Lib.itoa z=Lib.itoa y):z=y:=by
 have h1:=Qh hz;rw [h,Qh hy] at h1
 exact (Lib.NumEnd.ok.inj h1).symm
structure Head (x:NotD) (sz:Int):Prop where
 kd:1≤x.kind∧x.kind≤5
 fa:uAt x.kind∨x.at_=0
 fc:uCo x.kind∨x.count=0
 ft:uTo x.kind∨x.to=0
 fi:uIt x.kind∨sz=0
 it:x.items=[]
 ra:Au .i64 x.at_
 rc:Au .i64 x.count
 rt:Au .i64 x.to
 rs:0≤sz∧sz≤1024
structure FlH (x:NotD) (sz:Int):Prop where
 kd:1≤x.kind∧x.kind≤5
 fa:uAt x.kind∨x.at_=0
 fc:uCo x.kind∨x.count=0
 ft:uTo x.kind∨x.to=0
 fi:uIt x.kind∨sz=0
 it:x.items=[]
 ra:Au .i64 x.at_
 rc:Au .i64 x.count
 rt:Au .i64 x.to
 rz:Au .i64 sz
theorem Head.fl {x:NotD} {sz:Int} (h:Head x sz):FlH x sz:=⟨h.kd,h.fa,h.fc,h.ft,h.fi,h.it,h.ra,h.rc,h.rt,Br (by have:=h.rs;omega) (by have:=h.rs;omega)⟩
theorem FlH.head {x:NotD} {sz:Int} (h:FlH x sz) (h2:0≤sz∧sz≤1024):Head x sz:=⟨h.kd,h.fa,h.fc,h.ft,h.fi,h.it,h.ra,h.rc,h.rt,h2⟩
theorem FlH.ink {x:NotD} {sz:Int} (h:FlH x sz):∀ z∈fm (nuK x sz),Au .i64 z:=Yy h.ra h.rc h.rt h.rz
theorem Head.ink {x:NotD} {sz:Int} (h:Head x sz):∀ z∈fm (nuK x sz),Au .i64 z:=Yy h.ra h.rc h.rt (Br (by have:=h.rs;omega) (by have:=h.rs;omega))
def Ij (c:List UInt8):Prop:=∃ x sz r,Head x sz∧c=D7 x sz++r
theorem K0:∀ {a b:List Int},(∀ z∈a,Au .i64 z)→(∀ z∈b,Au .i64 z)→a.map Lib.itoa=b.map Lib.itoa→a=b
 | [],[],_,_,_=>rfl
 | [],y::b,_,_,h=>by cases h
 | z::a,[],_,_,h=>by cases h
 | z::a,y::b,h1,h2,h=>by
  simp only [List.map_cons,List.cons.injEq] at h;rw [Aqe (h1 z (by simp)) (h2 y (by simp)) h.1,K0 (fun q hq=>h1 q (by simp [hq])) (fun q hq=>h2 q (by simp [hq])) h.2]
theorem fm_cons {α:Type} {b:Bool} {v:α} {l:List (Bool × α)}:fm ((b,v)::l)=(if b=true then [v] else [])++fm l:=by
 unfold fm;cases b <;> simp
theorem Apg {x y:NotD} {sz tz:Int} (hk:x.kind=y.kind) (hx:FlH x sz) (hy:FlH y tz) (h:fm (nuK x sz)=fm (nuK y tz)):x=y∧sz=tz:=by
 have key:∀ (b:Bool) (a c:Int) (l r:List Int),l.length=r.length→(if b=true then [a] else [])++l=(if b=true then [c] else [])++r→l=r∧(b=true→a=c):=by
  intro b a c l r hl h
  cases b
  ·exact ⟨by simpa using h,fun h=>by cases h⟩
  simp only [if_true,List.cons_append,List.nil_append,List.cons.injEq] at h;exact ⟨h.2,fun _=>h.1⟩
 have lens:∀ (b:Bool) (a c:Int) (l r:List Int),l.length=r.length→((if b=true then [a] else [])++l).length=((if b=true then [c] else [])++r).length:=by
  intro b a c l r hl;cases b <;> simp [hl]
 unfold nuK at h;rw [hk] at h;simp only [fm_cons] at h;have e0:(fm ([]:List (Bool × Int))).length=(fm ([]:List (Bool × Int))).length:=rfl;have e1:=lens (decide (uIt y.kind)) sz tz _ _ e0;have e2:=lens (decide (uTo y.kind)) x.to y.to _ _ e1;have e3:=lens (decide (uCo y.kind)) x.count y.count _ _ e2;obtain ⟨h1,g1⟩:=key _ _ _ _ _ e3 h;obtain ⟨h2,g2⟩:=key _ _ _ _ _ e2 h1;obtain ⟨h3,g3⟩:=key _ _ _ _ _ e1 h2;obtain ⟨_,g4⟩:=key _ _ _ _ _ e0 h3;have pick:∀ {u v:Prop} {a c:Int} [Decidable v],(u↔v)→(u∨a=0)→(v∨c=0)→(decide v=true→a=c)→a=c:=by
  intro u v a c _ huv ha hc hg
  by_cases hv:v
  ·exact hg (decide_eq_true hv)
  rw [ha.resolve_left (fun h=>hv (huv.1 h)),hc.resolve_left hv]
 have i1:x.at_=y.at_:=pick (by rw [hk]) hx.fa hy.fa g1;have i2:x.count=y.count:=pick (by rw [hk]) hx.fc hy.fc g2;have i3:x.to=y.to:=pick (by rw [hk]) hx.ft hy.ft g3;have i4:sz=tz:=pick (by rw [hk]) hx.fi hy.fi g4;refine ⟨?_,i4⟩;have i5:x.items=y.items:=by rw [hx.it,hy.it]
 clear hx hy key lens pick e1 e2 e3 h1 h2 h3 h g1 g2 g3 g4
 cases x;cases y
 simp only [NotD.mk.injEq] at *
 exact ⟨hk,i1,i2,i3,i5⟩
theorem Mv {x y:NotD} {sz tz:Int} {r q:List UInt8} (hx:Head x sz) (hy:Head y tz) (h:D7 x sz++r=D7 y tz++q):x=y∧sz=tz∧r=q:=by
 have h1:Lib.cut (D7 x sz++r) [10]=Lib.cut (D7 y tz++q) [10]:=by rw [h]
 rw [Uf,Uf] at h1;simp only [Prod.mk.injEq,and_true] at h1;have h2:Ce (Cg x.kind++Bv (fm (nuK x sz)))=Ce (Cg y.kind++Bv (fm (nuK y tz))):=by rw [h1.1]
 rw [N8,N8,List.cons.injEq] at h2;have hk:=Qb hx.kd hy.kd h2.1;obtain ⟨e1,e2⟩:=Apg hk hx.fl hy.fl (K0 hx.ink hy.ink h2.2)
 exact ⟨e1,e2,h1.2⟩
def okI (ys:List ItemD):Prop:=∀ y∈ys,ItemOk 8 y∧y.key < 18446744073709551616∧y.typ < 256
def Qv (c:List UInt8):Prop:=∃ y r,(ItemOk 8 y∧y.key < 18446744073709551616∧y.typ < 256)∧c=Dg y++10::r
theorem Ub {y:ItemD} {r:List UInt8} (h:ItemOk 8 y):Lib.cut (Dg y++10::r) [10]=(Dg y,r,true):=J5 (N3 h)
theorem Px {a b:List ItemD}:Cc (a++b)=Cc a++Cc b:=by unfold Cc;simp
theorem Ajg {y:ItemD}:Cc [y]=Dg y++[10]:=by unfold Cc;simp
theorem N4:∀ {a b:List ItemD} {r q:List UInt8},okI a→okI b→a.length=b.length→Cc a++r=Cc b++q→a=b∧r=q
 | [],[],r,q,_,_,_,h=>⟨rfl,by simpa [Cc] using h⟩
 | [],y::b,_,_,_,_,h,_=>by cases h
 | x::a,[],_,_,_,_,h,_=>by cases h
 | x::a,y::b,r,q,h1,h2,h3,h=>by
  have e1:Cc (x::a)++r=Dg x++10::(Cc a++r):=by unfold Cc;simp
  have e2:Cc (y::b)++q=Dg y++10::(Cc b++q):=by unfold Cc;simp
  rw [e1,e2] at h;have hx:=h1 x (by simp);have hy:=h2 y (by simp);have h4:Lib.cut (Dg x++10::(Cc a++r)) [10]=Lib.cut (Dg y++10::(Cc b++q)) [10]:=by rw [h]
  rw [Ub hx.1,Ub hy.1] at h4;simp only [Prod.mk.injEq,and_true] at h4;have e:=Wr hx.1 hy.1 hx.2.1 hy.2.1 h4.1;obtain ⟨e3,e4⟩:=N4 (fun z hz=>h1 z (by simp [hz])) (fun z hz=>h2 z (by simp [hz])) (by simpa using h3) h4.2
  exact ⟨by rw [e,e3],e4⟩
theorem Mt {a b:List ItemD} {r q:List UInt8} (ha:okI a) (hb:okI b) (hl:a.length < b.length) (h:Cc a++r=Cc b++q):Qv r:=by
 have h1:b=b.take a.length++b.drop a.length:=(List.take_append_drop _ _).symm;rw [h1,Px,List.append_assoc] at h;obtain ⟨_,h2⟩:=N4 ha (fun y hy=>hb y (List.mem_of_mem_take hy)) (by rw [List.length_take];omega) h
 cases hd:b.drop a.length with
 | nil=>have:=congrArg List.length hd;simp only [List.length_drop,List.length_nil] at this;omega
 | cons y t =>
  rw [hd] at h2;refine ⟨y,Cc t++q,hb y (List.mem_of_mem_drop (by rw [hd];simp)),?_⟩;rw [h2];unfold Cc;simp
def nlN (xs:List NotD):Nat:=(xs.map fun x=>1+x.items.length).sum
theorem Tz {xs:List NotD} {x:NotD}:nlN (xs++[x])=nlN xs+(1+x.items.length):=by unfold nlN;simp
inductive PR:List NotD→List UInt8→List NotD × Nat × Int→Prop
 | done {xs}:PR xs [] (xs,0,0)
 | nohead {xs c}:c≠[]→¬ Ij c→PR xs c ([],nlN xs+1,5)
 | full {xs c}:Ij c→xs.length=32→PR xs c ([],nlN xs+1,3)
 | bad {xs c x sz ys r}:Head x sz→xs.length≠32→c=D7 x sz++(Cc ys++r)→okI ys→((ys.length:Nat):Int) < sz→¬ Qv r→PR xs c ([],nlN xs+1+ys.length+1,5)
 | step {xs c x sz ys r q}:Head x sz→xs.length≠32→c=D7 x sz++(Cc ys++r)→okI ys→((ys.length:Nat):Int)=sz→PR (xs++[{ x with items:=ys }]) r q→PR xs c q
theorem O6 {x:NotD} {sz:Int} {r:List UInt8}:D7 x sz++r≠[]:=by unfold D7;simp
theorem Aic {c:List UInt8} (h:Ij c):c≠[]:=by
 obtain ⟨x,sz,r,_,rfl⟩:=h;exact O6
theorem PR.uniq {xs:List NotD} {c:List UInt8} {a b:List NotD × Nat × Int} (h1:PR xs c a):PR xs c b→a=b:=by
 induction h1 with
 | done =>
  intro h2
  cases h2 with
  | done=>rfl
  | nohead h _=>exact absurd rfl h
  | full h _=>exact absurd rfl (Aic h)
  | bad _ _ h=>exact absurd h.symm O6
  | step _ _ h=>exact absurd h.symm O6
 | nohead h hn =>
  intro h2
  cases h2 with
  | done=>exact absurd rfl h
  | nohead=>rfl
  | full h3 _=>exact absurd h3 hn
  | bad h3 _ h4=>exact absurd ⟨_,_,_,h3,h4⟩ hn
  | step h3 _ h4=>exact absurd ⟨_,_,_,h3,h4⟩ hn
 | full h hl =>
  intro h2
  cases h2 with
  | done=>exact absurd rfl (Aic h)
  | nohead _ h3=>exact absurd h h3
  | full=>rfl
  | bad _ h3=>exact absurd hl h3
  | step _ h3=>exact absurd hl h3
 | @bad xs c x sz ys r hh hl hc hok hlt hn =>
  intro h2
  cases h2 with
  | done=>exact absurd hc.symm O6
  | nohead _ h3=>exact absurd ⟨_,_,_,hh,hc⟩ h3
  | full _ h3=>exact absurd h3 hl
  | @bad _ _ y tz zs q hh2 _ hc2 hok2 hlt2 hn2 =>
   rw [hc] at hc2;obtain ⟨_,rfl,h4⟩:=Mv hh hh2 hc2
   rcases Nat.lt_trichotomy ys.length zs.length with h5 | h5 | h5
   ·exact absurd (Mt hok hok2 h5 h4) hn
   ·rw [h5]
   ·exact absurd (Mt hok2 hok h5 h4.symm) hn2
  | @step _ _ y tz zs q _ hh2 _ hc2 hok2 he2 _ =>
   rw [hc] at hc2;obtain ⟨_,rfl,h4⟩:=Mv hh hh2 hc2
   exact absurd (Mt hok hok2 (by omega) h4) hn
 | @step xs c x sz ys r q hh hl hc hok he _ ih =>
  intro h2
  cases h2 with
  | done=>exact absurd hc.symm O6
  | nohead _ h3=>exact absurd ⟨_,_,_,hh,hc⟩ h3
  | full _ h3=>exact absurd h3 hl
  | @bad _ _ y tz zs q2 hh2 _ hc2 hok2 hlt2 hn2 =>
   rw [hc] at hc2;obtain ⟨_,rfl,h4⟩:=Mv hh hh2 hc2
   exact absurd (Mt hok2 hok (by omega) h4.symm) hn2
  | @step _ _ y tz zs q2 _ hh2 _ hc2 hok2 he2 hp =>
   rw [hc] at hc2;obtain ⟨rfl,rfl,h4⟩:=Mv hh hh2 hc2;obtain ⟨rfl,rfl⟩:=N4 hok hok2 (by omega) h4
   exact ih hp
theorem Acs {c:UInt8} {s:List UInt8} (h:(Lib.cut s [c]).2.2=true):s=(Lib.cut s [c]).1++c::(Lib.cut s [c]).2.1:=by
 rw [N9] at h ⊢
 by_cases hi:ix c s < s.length
 ·simp only [if_pos hi];have h2:=Aqd c s hi;have h3:s.drop (ix c s)=c::s.drop (ix c s+1):=by
   rw [List.drop_eq_getElem_cons hi]
   congr 1
   rw [List.getElem?_eq_getElem hi] at h2
   exact Option.some.inj h2
  rw [← h3,List.take_append_drop]
 rw [if_neg hi] at h;cases h
theorem Ade {s:List UInt8} {z:Int} (h:Lib.atoiAll s=.ok z):Au .i64 z:=by
 unfold Lib.atoiAll at h
 split at h
 ·cases h
 simp only at h
 split at h
 ·cases h
 ·cases h
 split at h
 ·cases h
 split at h
 ·cases h
 rename_i h1 h2
 have h3:=Lib.NumEnd.ok.inj h;subst h3
 split
 ·rename_i h4;exact Br (by omega) (by omega)
 rename_i h4;exact Br (by omega) (by omega)
theorem Aid {c:List UInt8} {W:List UInt8} {wr:List (List UInt8)} (hw:Ce (Lib.cut c [10]).1=W::wr) (h:Ij c) :
  (Lib.cut c [10]).2.2=true∧∃ x sz,Head x sz∧W=Cg x.kind∧wr=(fm (nuK x sz)).map Lib.itoa:=by
 obtain ⟨x,sz,r,hh,rfl⟩:=h;rw [Uf] at hw ⊢;rw [N8,List.cons.injEq] at hw
 exact ⟨rfl,x,sz,hh,hw.1.symm,hw.2.symm⟩
def Avf (z:Int) (W:List UInt8):Prop:=(z = -1∧∀ j,j < 6→Cg j≠W)∨∃ k:Nat,k < 6∧z=((k:Nat):Int)∧Cg k=W∧∀ j,j < k→Cg j≠W
theorem kind_z {z:Int} {k:Nat} (h:Avf z (Cg k)) (hk:1≤k∧k≤5):z=((k:Nat):Int):=by
 rcases h with ⟨_,h⟩ | ⟨j,h1,h2,h3,h4⟩
 ·exact absurd rfl (h k (by omega))
 rcases Nat.eq_zero_or_pos j with h0 | h0
 ·subst h0
  rcases (show k=1∨k=2∨k=3∨k=4∨k=5 by omega) with rfl | rfl | rfl | rfl | rfl <;> exact absurd h3 (by decide)
 rw [h2,Qb ⟨h0,by omega⟩ hk h3]
theorem Tw {c W:List UInt8} {wr:List (List UInt8)} {z:Int} (hw:Ce (Lib.cut c [10]).1=W::wr) (hz:Avf z W) (h:(Lib.cut c [10]).2.2=false∨z < 1):¬ Ij c:=by
 intro hh;obtain ⟨h1,x,sz,h2,rfl,_⟩:=Aid hw hh;have:=kind_z hz h2.kd
 rcases h with h | h
 ·rw [h] at h1;cases h1
 have:=h2.kd;omega
theorem Tv {c W:List UInt8} {wr:List (List UInt8)} {k:Nat} (hw:Ce (Lib.cut c [10]).1=W::wr) (hk:1≤k∧k≤5) (hW:Cg k=W) (h:Ij c):∃ x sz,Head x sz∧x.kind=k∧wr=(fm (nuK x sz)).map Lib.itoa:=by
 obtain ⟨h1,x,sz,h2,h3,h4⟩:=Aid hw h
 exact ⟨x,sz,h2,Qb h2.kd hk (by rw [hW,h3]),h4⟩
theorem Abh {c W:List UInt8} {wr:List (List UInt8)} {k b b2:Nat} (hw:Ce (Lib.cut c [10]).1=W::wr) (hk:1≤k∧k≤5) (hW:Cg k=W) (hl:¬ wr.length=(fm (F7 k b b2)).length):¬ Ij c:=by
 intro h;obtain ⟨x,sz,h1,rfl,h2⟩:=Tv hw hk hW h
 exact hl (by rw [h2,List.length_map,Sa])
theorem Abg {c W w:List UInt8} {wr:List (List UInt8)} {k i:Nat} {z:Int} {b:Bool} (hw:Ce (Lib.cut c [10]).1=W::wr) (hk:1≤k∧k≤5) (hW:Cg k=W) (hi:wr[i]?=some w)
  (ha:(Lib.atoiAll w=.ok z∧b=true)∨((∀ x,Lib.atoiAll w≠.ok x)∧b=false)) (hb:b=false∨Lib.itoa z≠w):¬ Ij c:=by
 intro h;obtain ⟨x,sz,h1,rfl,h2⟩:=Tv hw hk hW h;rw [h2,List.getElem?_map] at hi
 cases hy:(fm (nuK x sz))[i]? with
 | none=>rw [hy] at hi;cases hi
 | some y =>
  rw [hy] at hi;simp only [Option.map_some,Option.some.injEq] at hi;have h3:=Qh (h1.ink y (List.mem_of_getElem? hy));rw [hi] at h3
  rcases ha with ⟨h4,h5⟩ | ⟨h4,h5⟩
  ·rw [h3] at h4;have h6:=Lib.NumEnd.ok.inj h4;subst h6
   rcases hb with hb | hb
   ·rw [h5] at hb;cases hb
   ·exact hb hi
  ·exact h4 _ h3
def Wd (wr:List (List UInt8)) (x:NotD) (sz:Int) (i:Nat):Prop:=∀ j z,j < i→(fm (nuK x sz))[j]?=some z→wr[j]?=some (Lib.itoa z)
theorem wd_all {wr:List (List UInt8)} {x:NotD} {sz:Int} {i:Nat} (h:Wd wr x sz i) (hl:wr.length=(fm (nuK x sz)).length) (hi:(fm (nuK x sz)).length≤i):wr=(fm (nuK x sz)).map Lib.itoa:=by
 apply List.ext_getElem?
 intro j;rw [List.getElem?_map]
 cases hz:(fm (nuK x sz))[j]? with
 | none =>
  rw [List.getElem?_eq_none_iff] at hz;rw [List.getElem?_eq_none_iff.2 (by omega)];rfl
 | some z=>rw [h j z (by have:=A0 hz;omega) hz];rfl
theorem Abf {c W:List UInt8} {wr:List (List UInt8)} {x:NotD} {sz:Int} (hw:Ce (Lib.cut c [10]).1=W::wr) (hf:FlH x sz) (hW:Cg x.kind=W) (hwr:wr=(fm (nuK x sz)).map Lib.itoa) (hs:sz < 0∨1024 < sz):¬ Ij c:=by
 intro h;obtain ⟨y,tz,h1,h2,h3⟩:=Tv hw hf.kd hW h;obtain ⟨_,h4⟩:=Apg h2.symm hf h1.fl (K0 hf.ink h1.ink (by rw [← hwr,h3]));have:=h1.rs
 omega
theorem head_of {c W:List UInt8} {wr:List (List UInt8)} {x:NotD} {sz:Int} (hw:Ce (Lib.cut c [10]).1=W::wr) (hW:Cg x.kind=W) (hwr:wr=(fm (nuK x sz)).map Lib.itoa) (hc:(Lib.cut c [10]).2.2=true):c=D7 x sz++(Lib.cut c [10]).2.1:=by
 obtain ⟨d,r,h1,h2⟩:=Q0 (Lib.cut c [10]).1;rw [hw] at h1;simp only [List.cons.injEq] at h1;obtain ⟨rfl,rfl⟩:=h1;have h3:=Acs hc;rw [h2,← hW,hwr,← Zz] at h3
 conv=>lhs;rw [h3]
 unfold D7;simp
def L4 (x:NotD) (sz:Int) (o:Nat) (v:Int):NotD × Int:=match o with
 | 1=>({ x with at_:=v },sz)
 | 2=>({ x with count:=v },sz)
 | 3=>({ x with to:=v },sz)
 | _=>(x,v)
theorem Ahc {x:NotD} {b b2 i:Nat} {sz v:Int} {p:Nat × Nat} (h:(fm (F7 x.kind b b2))[i]?=some p) :
  fm (nuK (L4 x sz p.2 v).1 (L4 x sz p.2 v).2)=(fm (nuK x sz)).set i v∧((p=(b,1)∧uAt x.kind)∨(p=(b,2)∧uCo x.kind)∨(p=(b,3)∧uTo x.kind)∨(p=(b2,0)∧uIt x.kind)):=by
 unfold F7 fm at h;unfold nuK fm;have q1:=fun h=>(decide_eq_true_iff (p:=uAt x.kind)).1 h;have q2:=fun h=>(decide_eq_true_iff (p:=uCo x.kind)).1 h;have q3:=fun h=>(decide_eq_true_iff (p:=uTo x.kind)).1 h;have q4:=fun h=>(decide_eq_true_iff (p:=uIt x.kind)).1 h
 rcases bE (decide (uAt x.kind)) with h1 | h1 <;> rcases bE (decide (uCo x.kind)) with h2 | h2 <;>
 rcases bE (decide (uTo x.kind)) with h3 | h3 <;> rcases bE (decide (uIt x.kind)) with h4 | h4 <;> rw [h1,h2,h3,h4] at h <;>
 simp only [List.filter_cons,List.filter_nil,if_true,if_false,Bool.false_eq_true,List.map_cons,List.map_nil] at h <;>
 rcases i with _ | _ | _ | _ | i <;> simp only [List.getElem?_cons_zero,List.getElem?_cons_succ,List.getElem?_nil,Option.some.injEq,reduceCtorEq] at h <;>
 first | contradiction | (subst h;simp only [L4,h1,h2,h3,h4,List.filter_cons,List.filter_nil,if_true,if_false,Bool.false_eq_true,List.map_cons,List.map_nil,List.set_cons_zero,List.set_cons_succ,true_and];simp_all)
theorem put_ok {x:NotD} {b b2 i:Nat} {sz v:Int} {p:Nat × Nat} {wr:List (List UInt8)} (h:(fm (F7 x.kind b b2))[i]?=some p) (hf:FlH x sz) (hw:Wd wr x sz i) (hv:Au .i64 v) (hi:wr[i]?=some (Lib.itoa v)) :
  (L4 x sz p.2 v).1.kind=x.kind∧FlH (L4 x sz p.2 v).1 (L4 x sz p.2 v).2∧Wd wr (L4 x sz p.2 v).1 (L4 x sz p.2 v).2 (i+1):=by
 obtain ⟨h1,h2⟩:=Ahc (sz:=sz) (v:=v) h;have h3:(L4 x sz p.2 v).1.kind=x.kind:=by unfold L4;split <;> rfl
 refine ⟨h3,?_,?_⟩
 ·rcases h2 with ⟨rfl,hu⟩ | ⟨rfl,hu⟩ | ⟨rfl,hu⟩ | ⟨rfl,hu⟩
  ·exact ⟨hf.kd,Or.inl hu,hf.fc,hf.ft,hf.fi,hf.it,hv,hf.rc,hf.rt,hf.rz⟩
  ·exact ⟨hf.kd,hf.fa,Or.inl hu,hf.ft,hf.fi,hf.it,hf.ra,hv,hf.rt,hf.rz⟩
  ·exact ⟨hf.kd,hf.fa,hf.fc,Or.inl hu,hf.fi,hf.it,hf.ra,hf.rc,hv,hf.rz⟩
  exact ⟨hf.kd,hf.fa,hf.fc,hf.ft,Or.inl hu,hf.it,hf.ra,hf.rc,hf.rt,hv⟩
 intro j z hj hz;rw [h1] at hz
 rcases Nat.lt_succ_iff_lt_or_eq.1 hj with h4 | h4
 ·rw [List.getElem?_set_ne (by omega)] at hz;exact hw j z h4 hz
 subst h4;have h5:=A0 hz;rw [List.length_set] at h5;rw [List.getElem?_set_self h5] at hz;rw [← Option.some.inj hz];exact hi
theorem Ua {s:List UInt8} (hs:(10:UInt8) ∉ s):(∃ y,Rd8 s y∧(s.length≤1048575→Di (s++[10])=([y],0,0)))∨((∀ y,¬ Rd8 s y)∧(Di (s++[10])).2.2≠0):=by
 have hc:Lib.cut (s++[10]) [10]=(s,[],true):=J5 hs;have hne:¬ (s++[10])=[]:=by simp
 by_cases hy:∃ y,Rd8 s y
 ·obtain ⟨y,hy⟩:=hy;refine Or.inl ⟨y,hy,fun hl=>?_⟩;have hl2:¬ 1048576 < (s++[10]).length:=by simp only [List.length_append,List.length_cons,List.length_nil];omega
  unfold Di;rw [if_neg hl2];have h2:pGo ((s++[10]).length+1) [] (s++[10])=pGo (s++[10]).length ([]++[y]) []:=by
   conv=>lhs;unfold pGo
   rw [if_neg hne,hc];simp only [if_true,N5 hy]
   rfl
  have h9:(s++([10]:List UInt8)).length=s.length+1:=by simp
  rw [h2,h9];unfold pGo;rw [if_pos rfl];rfl
 refine Or.inr ⟨fun y h=>hy ⟨y,h⟩,?_⟩;unfold Di
 split
 ·decide
 unfold pGo;rw [if_neg hne,hc];simp only [if_true,Wv (fun y h=>hy ⟨y,h⟩)]
 decide
theorem cut_not {c:UInt8} {s:List UInt8}:c ∉ (Lib.cut s [c]).1:=by
 rw [N9]
 by_cases hi:ix c s < s.length
 ·rw [if_pos hi];intro h;obtain ⟨j,hj⟩:=List.mem_iff_getElem?.1 h;have h1:=A0 hj;rw [List.length_take] at h1;rw [List.getElem?_take,if_pos (by omega)] at hj
  exact Aqc c s j c (by omega) hj rfl
 rw [if_neg hi];intro h;obtain ⟨j,hj⟩:=List.mem_iff_getElem?.1 h
 exact Aqc c s j c (by have:=A0 hj;have:=ix_le c s;simp only at *;omega) hj rfl
theorem Zb {c:List UInt8} (hl:c.length≤1048576) (h:(Lib.cut c [10]).2.2=false∨(Di ((Lib.cut c [10]).1++[10])).2.2≠0∨(Di ((Lib.cut c [10]).1++[10])).1.length≠1):¬ Qv c:=by
 rintro ⟨y,r,hy,rfl⟩;rw [Ub hy.1] at h;simp only at h
 rcases h with h | h
 ·cases h
 rcases Ua (N3 hy.1) with ⟨y2,h1,h2⟩ | ⟨h1,_⟩
 ·simp only [List.length_append,List.length_cons] at hl;rw [h2 (by omega)] at h
  rcases h with h | h <;> exact h rfl
 exact h1 y ⟨hy.1,hy.2.1,rfl⟩
theorem rd8_typ {s:List UInt8} {y:ItemD} (h:Rd8 s y):y.typ < 256:=by
 have:=h.1;unfold ItemOk at this
 omega
theorem Aqf {c:List UInt8} (hc:(Lib.cut c [10]).2.2=true) (h:(Di ((Lib.cut c [10]).1++[10])).2.2=0) (h1:(Di ((Lib.cut c [10]).1++[10])).1.length=1) (hl:c.length≤1048576) :
  ∃ y,(Di ((Lib.cut c [10]).1++[10])).1=[y]∧(ItemOk 8 y∧y.key < 18446744073709551616∧y.typ < 256)∧c=Cc [y]++(Lib.cut c [10]).2.1:=by
 have hcc:=Acs hc
 rcases Ua (cut_not (c:=10) (s:=c)) with ⟨y,h2,h3⟩ | ⟨_,h2⟩
 ·have hlen:=congrArg List.length hcc;simp only [List.length_append,List.length_cons] at hlen;refine ⟨y,by rw [h3 (by omega)],⟨h2.1,h2.2.1,rd8_typ h2⟩,?_⟩;rw [Ajg,h2.2.2]
  simpa using hcc
 exact absurd h h2
theorem kfn_pos {k:Nat} (h:1≤k):kfn k=.func (.func (Ft k)) #[] #[]:=by unfold kfn;rw [if_neg (by omega)]
theorem fl_zero {k:Nat} (hk:1≤k∧k≤5):FlH ⟨k,0,0,0,[]⟩ 0:=⟨hk,Or.inr rfl,Or.inr rfl,Or.inr rfl,Or.inr rfl,rfl,(Br (n:=0) (by decide) (by decide)),(Br (n:=0) (by decide) (by decide)),(Br (n:=0) (by decide) (by decide)),(Br (n:=0) (by decide) (by decide))⟩
theorem ok_of {s:List UInt8} {z:Int} {b:Bool} (h:(Lib.atoiAll s=.ok z∧b=true)∨((∀ x,Lib.atoiAll s≠.ok x)∧b=false)) (hb:b=true):Lib.atoiAll s=.ok z:=by
 rcases h with h | ⟨_,h⟩
 ·exact h.1
 rw [h] at hb;cases hb
theorem Alc {z:Int} {W:List UInt8} (h:Avf z W) (hz:¬ z < 1):∃ k:Nat,(1≤k∧k≤5)∧z=((k:Nat):Int)∧Cg k=W:=by
 rcases h with ⟨h1,_⟩ | ⟨k,h1,h2,h3,_⟩
 ·omega
 exact ⟨k,⟨by omega,by omega⟩,h2,h3⟩
end Go.Proofs.YtmmhmcplegpenaaGreatDoor
namespace Go.Proofs
open Go.Shelf
def Tryz.laysC172_ren:Go.Shelf.Ren:=⟨fun | 172=>136 | 244=>167 | 245=>147 | 247=>195 | 279=>177 | 280=>178 | 281=>179 | 282=>180 | 287=>146 | 316=>206 | 171=>83 | 205=>207 | 321=>175 | 322=>176 | 243=>133 | 246=>166 | 283=>170 | 284=>171 | 285=>172 | 286=>173 | 129=>198 | 317=>197 | 318=>199 | 319=>200 | 320=>201 | 337=>222 | 338=>223 | n=>n,fun | 9=>9 | 3=>3 | 75=>103 | 76=>104 | 4=>4 | 5=>5 | 167=>250 | 37=>32 | 0=>0 | 85=>265 | 2=>2 | 168=>253 | 53=>23 | 175=>178 | 46=>252 | 210=>277 | 127=>174 | 145=>296 | 143=>294 | 21=>21 | 171=>244 | 173=>247 | 212=>269 | 51=>270 | 20=>20 | 213=>271 | 232=>307 | 233=>308 | 80=>107 | n=>n,fun | 15=>2 | 16=>3 | 17=>0 | 18=>4 | 19=>5 | n=>n⟩
theorem Tryz.laysC172:Go.Proofs.LaysC.n172 Tryz.prog Tryz.laysC172_ren:={
 mixed:=by kernel_rfl
 f129:=Tryz.func198.trans (congrArg some (by kernel_rfl))
 f171:=Tryz.func83.trans (congrArg some (by kernel_rfl))
 f172:=Tryz.func136.trans (congrArg some (by kernel_rfl))
 f205:=Tryz.func207.trans (congrArg some (by kernel_rfl))
 f243:=Tryz.func133.trans (congrArg some (by kernel_rfl))
 f244:=Tryz.func167.trans (congrArg some (by kernel_rfl))
 f245:=Tryz.func147.trans (congrArg some (by kernel_rfl))
 f246:=Tryz.func166.trans (congrArg some (by kernel_rfl))
 f247:=Tryz.func195.trans (congrArg some (by kernel_rfl))
 f279:=Tryz.func177.trans (congrArg some (by kernel_rfl))
 f280:=Tryz.func178.trans (congrArg some (by kernel_rfl))
 f281:=Tryz.func179.trans (congrArg some (by kernel_rfl))
 f282:=Tryz.func180.trans (congrArg some (by kernel_rfl))
 f283:=Tryz.func170.trans (congrArg some (by kernel_rfl))
 f284:=Tryz.func171.trans (congrArg some (by kernel_rfl))
 f285:=Tryz.func172.trans (congrArg some (by kernel_rfl))
 f286:=Tryz.func173.trans (congrArg some (by kernel_rfl))
 f287:=Tryz.func146.trans (congrArg some (by kernel_rfl))
 f316:=Tryz.func206.trans (congrArg some (by kernel_rfl))
 f317:=Tryz.func197.trans (congrArg some (by kernel_rfl))
 f318:=Tryz.func199.trans (congrArg some (by kernel_rfl))
 f319:=Tryz.func200.trans (congrArg some (by kernel_rfl))
 f320:=Tryz.func201.trans (congrArg some (by kernel_rfl))
 f321:=Tryz.func175.trans (congrArg some (by kernel_rfl))
 f322:=Tryz.func176.trans (congrArg some (by kernel_rfl))
 f337:=Tryz.func222.trans (congrArg some (by kernel_rfl))
 f338:=Tryz.func223.trans (congrArg some (by kernel_rfl))
 t0:=Tryz.underlying0
 a0:=Tryz.isAgg0
 z0:=Tryz.sizeOf0
 v0:=Tryz.zeroValue0
 t2:=Tryz.underlying2
 a2:=Tryz.isAgg2
 z2:=Tryz.sizeOf2
 v2:=Tryz.zeroValue2
 t3:=Tryz.underlying3
 a3:=Tryz.isAgg3
 z3:=Tryz.sizeOf3
 v3:=Tryz.zeroValue3
 t4:=Tryz.underlying4
 a4:=Tryz.isAgg4
 z4:=Tryz.sizeOf4
 v4:=Tryz.zeroValue4
 t5:=Tryz.underlying5
 a5:=Tryz.isAgg5
 z5:=Tryz.sizeOf5
 v5:=Tryz.zeroValue5
 t9:=Tryz.underlying9
 a9:=Tryz.isAgg9
 z9:=Tryz.sizeOf9
 v9:=Tryz.zeroValue9
 t20:=Tryz.underlying20
 a20:=Tryz.isAgg20
 z20:=Tryz.sizeOf20
 v20:=Tryz.zeroValue20
 t21:=Tryz.underlying21
 a21:=Tryz.isAgg21
 z21:=Tryz.sizeOf21
 v21:=Tryz.zeroValue21
 t37:=Tryz.underlying32
 a37:=Tryz.isAgg32
 z37:=Tryz.sizeOf32
 v37:=Tryz.zeroValue32
 t46:=Tryz.underlying252
 a46:=Tryz.isAgg252
 z46:=Tryz.sizeOf252
 v46:=Tryz.zeroValue252
 t51:=Tryz.underlying270
 a51:=Tryz.isAgg270
 z51:=Tryz.sizeOf270
 v51:=Tryz.zeroValue270
 t53:=Tryz.underlying23
 a53:=Tryz.isAgg23
 z53:=Tryz.sizeOf23
 v53:=Tryz.zeroValue23
 t75:=Tryz.underlying103
 a75:=Tryz.isAgg103
 z75:=Tryz.sizeOf103
 v75:=Tryz.zeroValue103
 t76:=Tryz.underlying104
 a76:=Tryz.isAgg104
 z76:=Tryz.sizeOf104
 v76:=Tryz.zeroValue104
 t85:=Tryz.underlying265
 a85:=Tryz.isAgg265
 z85:=Tryz.sizeOf265
 v85:=Tryz.zeroValue265
 t127:=Tryz.underlying174
 a127:=Tryz.isAgg174
 z127:=Tryz.sizeOf174
 v127:=Tryz.zeroValue174
 t143:=Tryz.underlying294
 a143:=Tryz.isAgg294
 z143:=Tryz.sizeOf294
 v143:=Tryz.zeroValue294
 t145:=Tryz.underlying296
 a145:=Tryz.isAgg296
 z145:=Tryz.sizeOf296
 v145:=Tryz.zeroValue296
 t167:=Tryz.underlying250
 a167:=Tryz.isAgg250
 z167:=Tryz.sizeOf250
 v167:=Tryz.zeroValue250
 t168:=Tryz.underlying253
 a168:=Tryz.isAgg253
 z168:=Tryz.sizeOf253
 v168:=Tryz.zeroValue253
 t171:=Tryz.underlying244
 a171:=Tryz.isAgg244
 z171:=Tryz.sizeOf244
 v171:=Tryz.zeroValue244
 t173:=Tryz.underlying247
 a173:=Tryz.isAgg247
 z173:=Tryz.sizeOf247
 v173:=Tryz.zeroValue247
 t175:=Tryz.underlying178
 a175:=Tryz.isAgg178
 z175:=Tryz.sizeOf178
 v175:=Tryz.zeroValue178
 t210:=Tryz.underlying277
 a210:=Tryz.isAgg277
 z210:=Tryz.sizeOf277
 v210:=Tryz.zeroValue277
 t212:=Tryz.underlying269
 a212:=Tryz.isAgg269
 z212:=Tryz.sizeOf269
 v212:=Tryz.zeroValue269
 t213:=Tryz.underlying271
 a213:=Tryz.isAgg271
 z213:=Tryz.sizeOf271
 t232:=Tryz.underlying307
 a232:=Tryz.isAgg307
 z232:=Tryz.sizeOf307
 v232:=Tryz.zeroValue307
 t233:=Tryz.underlying308
 a233:=Tryz.isAgg308
 z233:=Tryz.sizeOf308
 v233:=Tryz.zeroValue308
 g15:=by kernel_rfl
 g16:=by kernel_rfl
 g17:=by kernel_rfl
 g18:=by kernel_rfl
 g19:=by kernel_rfl
 t80:=Tryz.underlying107
 a80:=Tryz.isAgg107
 z80:=Tryz.sizeOf107
 v80:=Tryz.zeroValue107
 i0:=by kernel_rfl
 i2:=by kernel_rfl
 i3:=by kernel_rfl
 i4:=by kernel_rfl
 i5:=by kernel_rfl
 i9:=by kernel_rfl
 i20:=by kernel_rfl
 i21:=by kernel_rfl
 i37:=by kernel_rfl
 i46:=by kernel_rfl
 i51:=by kernel_rfl
 i53:=by kernel_rfl
 i75:=by kernel_rfl
 i76:=by kernel_rfl
 i80:=by kernel_rfl
 i85:=by kernel_rfl
 i127:=by kernel_rfl
 i143:=by kernel_rfl
 i145:=by kernel_rfl
 i167:=by kernel_rfl
 i168:=by kernel_rfl
 i171:=by kernel_rfl
 i173:=by kernel_rfl
 i175:=by kernel_rfl
 i210:=by kernel_rfl
 i212:=by kernel_rfl
 i232:=by kernel_rfl
 i233:=by kernel_rfl
 m15:=by kernel_rfl
 m16:=by kernel_rfl
 m17:=by kernel_rfl
 m18:=by kernel_rfl
 m19:=by kernel_rfl
 c0:=by kernel_rfl
 c2:=by kernel_rfl
 c3:=by kernel_rfl
 c4:=by kernel_rfl
 c5:=by kernel_rfl
 c9:=by kernel_rfl
 c20:=by kernel_rfl
 c21:=by kernel_rfl
 c37:=by kernel_rfl
 c46:=by kernel_rfl
 c51:=by kernel_rfl
 c53:=by kernel_rfl
 c75:=by kernel_rfl
 c76:=by kernel_rfl
 c80:=by kernel_rfl
 c85:=by kernel_rfl
 c127:=by kernel_rfl
 c143:=by kernel_rfl
 c145:=by kernel_rfl
 c167:=by kernel_rfl
 c168:=by kernel_rfl
 c171:=by kernel_rfl
 c173:=by kernel_rfl
 c175:=by kernel_rfl
 c210:=by kernel_rfl
 c212:=by kernel_rfl
 c213:=by kernel_rfl
 c232:=by kernel_rfl
 c233:=by kernel_rfl }
end Go.Proofs
namespace Go.Proofs.YtmmhmcplegpenaaGreatDoor
open Go Go.Y Go.Proofs
variable {w0 w:World} {G:Aq} {L:List Res}
set_option maxHeartbeats 1600000
theorem Wg {w0 w:World} {G:Aq} {L:List Res} {b l:Nat} {c:List UInt8} (M:Mem w0 G (.blk b [.string (str c),.int .i64 ((l:Nat):Int)] 155::L) w) (HG:Globs 0 1 2 3 G) (hc:c.length≤1048576) (hl:l≤9000000) :
  Calls Tryz.prog 86 #[.pointer (some ⟨b,0,none⟩)] w (Bu w0 G (.blk b [.string (str ((Lib.cut c [10]).2.1)),.int .i64 ((((l+1):Nat):Int))] 155::L) fun v=>v=.tuple #[.string (str (Lib.cut c [10]).1),.bool (Lib.cut c [10]).2.2]):=by
 refine Al (vs:=[_]) Tryz.func86 rfl (n:=29) rfl rfl<|?_
 refine wk ?_;refine Dv Cq M 0 rfl rfl rfl rfl rfl rfl<|?_;clear M;intro w M
 refine wk ?_;refine A4 Up rfl rfl (Md (s:=c) (sep:=([10]:List UInt8)) M HG (by omega))<|?_;clear M;rintro _ w M rfl
 have hclc1:=Ib 10 c;refine wk ?_;refine Dv Ej M 0 rfl rfl rfl rfl rfl rfl<|?_;clear M;intro w M
 refine wk ?_;refine C8 rfl rfl rfl<|?_
 exact ⟨M,rfl⟩
theorem Ame (M:Mem w0 G L w) (HG:Globs 0 1 2 3 G) {s:List UInt8} (hs:s.length≤281474976710656) :
  Calls Tryz.prog 136 #[.string (str s)] w (Bu w0 G L fun v=>∃ (z:Int) (er:Value),v=.tuple #[.int .i64 z,er]∧(er=.nilIface∨∃ te pe,er=.iface te pe)∧((Lib.atoiAll s=.ok z∧De er=true)∨((∀ x,Lib.atoiAll s≠.ok x)∧De er=false))):=by
 have hd:(str s).data.toList=s:=D0 s
 cases h:Lib.atoiAll s with
 | ok u =>
  refine (Any.strconv_Atoi_ok Tryz.laysC172 (str s) (by rw [B5];omega) u (by rw [hd];exact h) w).mono ?_;rintro e w' ⟨rfl,hw⟩;refine ⟨?_,u,_,rfl,Or.inl rfl,Or.inl ⟨rfl,rfl⟩⟩
  rcases hw with rfl | ⟨t,rfl⟩
  ·exact M
  ·exact M.bytesWorld _ _
 | range =>
  obtain ⟨ev,h1,h2⟩:=HG.rng;refine (Any.strconv_Atoi_range Tryz.laysC172 (str s) (by rw [B5];omega) (by rw [hd];exact h) ev w (M.cell h1) h2).mono ?_;rintro e w' ⟨N,rfl,_,_,hb⟩
  exact ⟨M.below' hb,_,_,rfl,Or.inr ⟨_,_,rfl⟩,Or.inr ⟨(fun x hx=>by cases hx),rfl⟩⟩
 | _ =>
  obtain ⟨ev,h1,h2⟩:=HG.syn;refine (Any.strconv_Atoi_syntax Tryz.laysC172 (str s) (by rw [B5];omega) (by rw [hd];exact h) ev w (M.cell h1) h2).mono ?_;rintro e w' ⟨N,rfl,_,_,hb⟩
  exact ⟨M.below' hb,_,_,rfl,Or.inr ⟨_,_,rfl⟩,Or.inr ⟨(fun x hx=>by cases hx),rfl⟩⟩
theorem Vv (s:List UInt8):(Lib.splitB (str [32]) 0 (Lib.countB (str s) (str [32])) (str s)).map Value.string=(Ce s).map (fun x=>Value.string (str x)):=by
 have h:=Lib.splitB_data (str [32]) 0 (Lib.countB (str s) (str [32])) (str s);rw [D0,D0] at h;have h2:Lib.countB (str s) (str [32])=Lib.count s [32]:=by
  show Lib.count (str s).data.toList (str [32]).data.toList=_
  rw [D0,D0]
 rw [h2] at h ⊢
 show _=(Lib.splitK [32] 0 (Lib.count s [32]) s).map _
 rw [← h,List.map_map]
 exact List.map_congr_left fun x _=>rfl
theorem Z8 (M:Mem w0 G L w) (HG:Globs 0 1 2 3 G) {s:List UInt8} (hs:s.length < 4294967281) :
  Calls Tryz.prog 102 #[.string (str s),.string (str [32])] w (Ret w0 G L fun G' v=>∃ a:Option Addr,v=.slice a (Ce s).length (Ce s).length∧Ag Cf 1 G' (.slice a (Ce s).length (Ce s).length) (Ce s)):=by
 obtain ⟨m,hm⟩:=HG.max;refine (Any.strings_Split Tryz.lays146 (by kernel_rfl) (str s) (str [32]) m w (by rw [B5];exact hs) (M.cell hm) (by rw [B5];decide)).mono ?_;rintro e w' ⟨rfl,rfl⟩;have hl:(Ce s).length=Lib.countB (str s) (str [32])+1:=by
  have h1:=Lib.splitB_all (str [32]) (by rw [B5];decide) 0 _ (str s) rfl;rw [← h1,← List.length_map (f:=Value.string),Vv,List.length_map]
 rw [Vv,← hl];have hcb:=Lib.countB_le (str [32]) (by rw [B5];decide) (str s).size (str s) (Nat.le_refl _);rw [B5] at hcb;have hle:(Ce s).length≤4294967281:=by omega
 have M1:=M.newrow (t:=Tryz.lays146_ren.t 9) (sz:=1) (n:=(Ce s).length) (c:=(Ce s).length) (cs:=(Ce s).map fun x=>Value.string (str x)) (spare:=[])
  (by intro u hu;obtain ⟨x,_,rfl⟩:=List.mem_map.1 hu;rfl) (by simp) (by simp) (Nat.le_refl _) (by unfold maxLen;omega)
 rw [List.append_nil] at M1;obtain ⟨_,G',a,c,hG,he,S,M2⟩:=M1.freeze_row Ay (k:=0) rfl (Ia (Ce s) (fun x hx=>by have:=So hx;omega)) (by decide)
 exact ⟨G',hG,M2,_,rfl,S⟩
theorem n1_spec {w0 w:World} {G:Aq} {L:List Res} {b6:Nat} {nm:List UInt8} {k1 k2 k3 k4:Bool} {fv:Value} (hfv:Value.oneCell' fv=true) {aw:Option Addr} {cw:Nat} {ws:List (List UInt8)} (S:Ag Cf 1 G (.slice aw ws.length cw) ws) (M:Mem w0 G (.blk b6 [.slice aw ws.length cw] 24::L) w) {W:List UInt8} (hW:ws[0]?=some W) :
  Calls Tryz.prog 135 #[.agg #[.string (str nm),.bool k1,.bool k2,.bool k3,.bool k4,fv],.pointer (some ⟨b6,0,none⟩)] w (Bu w0 G (.blk b6 [.slice aw ws.length cw] 24::L) fun v=>v=.bool (decide (nm=W))):=by
 refine Al (vs:=[_,_]) Tryz.func135 rfl (n:=10) rfl rfl<|?_
 refine Bt<|?_
 refine B2 M rfl rfl rfl<|?_;clear M;intro b1 w M
 refine wk ?_;refine fun a F=>E3 [(true,0),(true,1),(true,2),(true,3),(true,4),(true,5),(true,6)] (Keep G [.blk b1 [.string (str nm),.bool k1,.bool k2,.bool k3,.bool k4,fv] 138,.blk b6 [.slice aw ws.length cw] 24]) rfl (by kernel_rfl) (fun c a d v w h=>by cases d <;> exact h) (Ax (M.drew _)) ?_;replace M:=M.drew (w.drawn+1);revert a;refine wk ?_;obtain ⟨be2,oe2,_,Ie2,_,Ae2,⟨rfl,hsle2⟩⟩:=S.at hW;refine wk ?_
 generalize ({ w with drawn:=w.drawn+1 }:World)=w at M ⊢
 refine wk ?_;refine Ad rfl rfl<|?_
 exact ⟨M.weaken (cN (cC (sR _))),rfl⟩
set_option maxHeartbeats 1600000
theorem Qj {w0 w:World} {G:Aq} {L:List Res} {b7 b6:Nat} {aw:Option Addr} {cw:Nat} {ws:List (List UInt8)} (S:Ag Cf 1 G (.slice aw ws.length cw) ws) (M:Mem w0 G (.blk b7 J7 139::.blk b6 [.slice aw ws.length cw] 24::L) w) {W:List UInt8} (hW:ws[0]?=some W) :
  Calls Tryz.prog 134 #[.slice (some ⟨b7,0,none⟩) 6 6,.func (.func 135) #[] #[.pointer (some ⟨b6,0,none⟩)]] w (Bu w0 G (.blk b7 J7 139::.blk b6 [.slice aw ws.length cw] 24::L) fun v=>∃ z:Int,v=.int .i64 z∧((z = -1∧∀ j,j < 6→Cg j≠W)∨∃ k:Nat,k < 6∧z=((k:Nat):Int)∧Cg k=W∧∀ j,j < k→Cg j≠W)):=by
 refine Al (vs:=[_,_]) Tryz.func134 rfl (n:=19) rfl rfl<|?_
 refine wk ?_;refine fun a F=>Ba (fun m a' w'=>∃ (i:Nat),m=6 - i∧Fits 19 a' [(0,.slice (some ⟨b7,0,none⟩) 6 6),(1,.func (.func 135) #[] #[.pointer (some ⟨b6,0,none⟩)]),(6,.slice (some ⟨b7,0,none⟩) 6 6),(7,.int .i64 ((6:Nat):Int)),(8,.int .i64 ((i:Nat):Int))]∧Mem w0 G (.blk b7 J7 139::.blk b6 [.slice aw ws.length cw] 24::L) w'∧(i≤6)∧(∀ j,j < i→Cg j≠W)) _ ⟨0,rfl,F.to ⟨rfl,rfl,rfl,rfl,rfl,trivial⟩,M,by omega,fun j h=>by omega⟩ ?_;clear F M;rintro m a w ⟨i,rfl,F,M,hi,hA⟩;revert a;refine wk ?_;refine qD rfl ?_ ?_
 ·intro h1;refine wk ?_;refine Am (fun a F=>Gf (b:=b7) (o:=0+i * 6) Amr.k Cm (F.ev rfl) (F.ev rfl) (by omega) ⟨0,rfl,rfl,by omega⟩) rfl<|Am (fun a F=>Da Cm rfl (F.ev rfl) (cs:=[.string (str (Cg i)),.bool (decide (uAt i)),.bool (decide (uCo i)),.bool (decide (uTo i)),.bool (decide (uIt i)),kfn i]) rfl (M.cellsL (k:=0) rfl (T4 (k:=i) (by omega)))) rfl<|?_
  replace M:=M.perm (Af _ 1 _ rfl);replace M:=z_M M;refine Aef ent135 (caps:=[.pointer (some ⟨b6,0,none⟩)]) rfl rfl rfl (n1_spec (nm:=Cg i) (by unfold kfn;split <;> rfl) S M hW)<|?_;clear M;rintro _ w M rfl
  refine Ao<|F1<|?_
  refine qD rfl ?_ ?_
  ·intro h2;refine wk ?_;refine Ad rfl rfl<|?_
   replace M:=M.perm (Af _ 1 _ rfl);replace M:=z_M M
   exact ⟨M,_,rfl,Or.inr ⟨i,by omega,rfl,by assumption,hA⟩⟩
  intro h3;refine wk ?_;replace M:=M.perm (Af _ 1 _ rfl);replace M:=z_M M;intro a F
  exact ⟨_,by omega,i+1,rfl,F.to ⟨rfl,rfl,rfl,rfl,rfl,trivial⟩,(M.weaken (cC (.cons_cons _ (sR _)))),by omega,fun j hj=>by rcases Nat.lt_succ_iff_lt_or_eq.1 hj with h_ | h_;exact hA j h_;subst h_;assumption⟩
 intro h4;refine wk ?_;refine Ad rfl rfl<|?_
 replace M:=M.perm (Af _ 1 _ rfl);replace M:=M.perm (Af _ 1 _ rfl);replace M:=z_M M
 exact ⟨M,_,rfl,Or.inl ⟨rfl,fun j hj=>hA j (by omega)⟩⟩
end Go.Proofs.YtmmhmcplegpenaaGreatDoor
