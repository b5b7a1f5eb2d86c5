/- Notices: their lines and texts. · The walks, part LQ. · The walks, part LR. · The walks, part LS. · The walks, part LT. -/
import Derived.Test.YtmmhmcplegpenaaGreatDoorJ9
import Derived.Lib.ItoaMem
import Derived.Test.YtmmhmcplegpenaaGreatDoorJ10
namespace Go.Proofs.YtmmhmcplegpenaaGreatDoor
open Go Go.Y Go.RowKit
set_option linter.unusedSimpArgs false
set_option linter.unusedVariables false
/-- What is used, of a list of things with a mark each. -/
def fm {α:Type} (l:List (Bool × α)):List α:=(l.filter (·.1)).map (·.2)
section
variable {ρ:Operand→Value} {P:Program} {d:Option Tmp} {t:TypeId} {p:String} {af:Array Edge} {g:Option (Nat × Bool)} {w:World}
theorem Agx {x:Operand} {ty:TypeId} {k:IntKind} {a:Int} (hx:ρ x=.int k a) (h:Aw k (-a)):(execOp ρ ⟨d,.unOp .neg ty x,t,p,af,g⟩).run P w=.ok (.value (.int k (-a))) w:=by
 have h1:=Lr h
 simp [execOp,hx,Op.unary,Op.intArith,h1]
end
theorem L5 {α:Type} {l:List (Bool × α)} {i:Nat} {x:Bool × α} (h:l[i]?=some x):fm (l.take (i+1))=fm (l.take i)++(if x.1=true then [x.2] else []):=by
 unfold fm
 rw [List.take_add_one,h]
 simp only [Option.toList_some,List.filter_append,List.map_append]
 congr 1
 by_cases hx:x.1=true
 ·simp [hx]
 ·simp [hx]
theorem O9 {α:Type} (l:List (Bool × α)):(fm l).length≤l.length:=by
 unfold fm;rw [List.length_map];exact List.length_filter_le _ _
def Ga (k b b2:Nat):List (Bool × (Nat × Nat)):=[(decide (uAt k),(b,1)),(decide (uCo k),(b,2)),(decide (uTo k),(b,3)),(decide (uIt k),(b2,0))]
def nuK (x:NotD) (sz:Int):List (Bool × Int):=[(decide (uAt x.kind),x.at_),(decide (uCo x.kind),x.count),(decide (uTo x.kind),x.to),(decide (uIt x.kind),sz)]
def Ahh:Rd (Nat × Nat):=fun _ cs p=>cs=[.pointer (some ⟨p.1,p.2,none⟩)]
theorem J3:Ja Ahh:=fun _ _ _ _ _ h=>h
def rdUP:Rd (Bool × (Nat × Nat)):=fun _ cs p=>cs=[.bool p.1,.pointer (some ⟨p.2.1,p.2.2,none⟩)]
theorem Aex:Ja rdUP:=fun _ _ _ _ _ h=>h
theorem els_ups {G:A4} {a b c d:Bool} {b1 b2 b3 b4 o1 o2 o3 o4:Nat}:Els rdUP 2 G [.bool a,.pointer (some ⟨b1,o1,none⟩),.bool b,.pointer (some ⟨b2,o2,none⟩),.bool c,.pointer (some ⟨b3,o3,none⟩),.bool d,.pointer (some ⟨b4,o4,none⟩)] [(a,(b1,o1)),(b,(b2,o2)),(c,(b3,o3)),(d,(b4,o4))] :=
 ⟨[.bool a,.pointer (some ⟨b1,o1,none⟩)],_,rfl,rfl,rfl,[.bool b,.pointer (some ⟨b2,o2,none⟩)],_,rfl,rfl,rfl,[.bool c,.pointer (some ⟨b3,o3,none⟩)],_,rfl,rfl,rfl,[.bool d,.pointer (some ⟨b4,o4,none⟩)],[],rfl,rfl,rfl,rfl⟩
theorem els_pt {G:A4} {p:Nat × Nat}:Els Ahh 1 G [.pointer (some ⟨p.1,p.2,none⟩)] [p]:=⟨[.pointer (some ⟨p.1,p.2,none⟩)],[],rfl,rfl,rfl,rfl⟩
/-- The fields of a notice, and their addresses. -/
theorem fld_get {x:NotD} {b b2 i:Nat} {sz:Int} {p:Nat × Nat} (h:(fm (Ga x.kind b b2))[i]?=some p) :
  ∃ z,(fm (nuK x sz))[i]?=some z∧((p=(b,1)∧z=x.at_)∨(p=(b,2)∧z=x.count)∨(p=(b,3)∧z=x.to)∨(p=(b2,0)∧z=sz)):=by
 unfold Ga fm at h
 unfold nuK fm
 rcases bE (decide (uAt x.kind)) with h1 | h1 <;> rcases bE (decide (uCo x.kind)) with h2 | h2 <;>
 rcases bE (decide (uTo x.kind)) with h3 | h3 <;> rcases bE (decide (uIt x.kind)) with h4 | h4 <;> rw [h1,h2,h3,h4] at h ⊢ <;>
 simp only [List.filter_cons,List.filter_nil,if_true,if_false,Bool.false_eq_true,List.map_cons,List.map_nil] at h ⊢ <;>
 rcases i with _ | _ | _ | _ | i <;> simp only [List.getElem?_cons_zero,List.getElem?_cons_succ,List.getElem?_nil,Option.some.injEq,reduceCtorEq] at h <;>
 first | contradiction | (subst h;exact ⟨_,rfl,by simp⟩)
theorem Qn {x:NotD} {b b2:Nat} {sz:Int}:(fm (Ga x.kind b b2)).length=(fm (nuK x sz)).length:=by
 unfold Ga nuK fm
 rcases bE (decide (uAt x.kind)) with h1 | h1 <;> rcases bE (decide (uCo x.kind)) with h2 | h2 <;>
 rcases bE (decide (uTo x.kind)) with h3 | h3 <;> rcases bE (decide (uIt x.kind)) with h4 | h4 <;> rw [h1,h2,h3,h4] <;> rfl
/-- Numbers, each behind a space. -/
def Bz (zs:List Int):List UInt8:=zs.flatMap fun z=>32::Lib.itoa z
theorem Zj {zs:List Int} {i:Nat} {z:Int} (h:zs[i]?=some z):Bz (zs.take (i+1))=Bz (zs.take i)++(32::Lib.itoa z):=by
 unfold Bz;rw [List.take_add_one,h];simp
theorem Adl {a b:List Int}:Bz (a++b)=Bz a++Bz b:=by unfold Bz;simp
def D7 (x:NotD) (sz:Int):List UInt8:=B1 x.kind++Bz (fm (nuK x sz))++[10]
def P0 (x:NotD):List UInt8:=D7 x ((x.items.length:Nat):Int)++Cx x.items
def Ct (l:List NotD):List UInt8:=l.flatMap P0
theorem Rw {l:List NotD} {i:Nat} {x:NotD} (h:l[i]?=some x):Ct (l.take (i+1))=Ct (l.take i)++P0 x:=by
 unfold Ct;rw [List.take_add_one,h];simp
def Gl (x:NotD):Int:=if D6 x≠0 then D6 x else Jf x.items
def Mi (l:List NotD) (i:Nat):Int:=match l[i]? with
 | some x=>Gl x
 | none=>0
theorem Pa {l:List NotD} {i:Nat} {x:NotD} (h:l[i]?=some x):Mi l i=Gl x:=by unfold Mi;rw [h]
def Fv (l:List NotD):Int:=if 32 < l.length then 3 else if Cc (Mi l) l.length≠0 then Cc (Mi l) l.length else if 1048576 < (Ct l).length then 3 else 0
def Ge (l:List NotD):List UInt8:=if Fv l=0 then Ct l else []
section
variable {l:List NotD} {i:Nat} {x:NotD}
theorem nt_3 (h:32 < l.length):Fv l=3∧Ge l=[]:=by
 have h1:Fv l=3:=by unfold Fv;rw [if_pos h]
 exact ⟨h1,by unfold Ge;rw [if_neg (by omega)]⟩
theorem Tm (h:¬ 32 < l.length) (hS:Cc (Mi l) i=0) (hx:l[i]?=some x) (he:Gl x≠0):Fv l=Gl x∧Ge l=[]:=by
 have h0:=M9 hS (Bl hx) (by rw [Pa hx];exact he)
 rw [Pa hx] at h0
 have h1:Fv l=Gl x:=by unfold Fv;rw [if_neg h,if_pos (by rw [h0];exact he),h0]
 exact ⟨h1,by unfold Ge;rw [if_neg (by rw [h1];exact he)]⟩
theorem V7 (h:¬ 32 < l.length) (hS:Cc (Mi l) i=0) (hi:i=l.length) (hl:1048576 < (Ct (l.take i)).length):Fv l=3∧Ge l=[]:=by
 subst hi
 rw [List.take_length] at hl
 have h1:Fv l=3:=by unfold Fv;rw [if_neg h,if_neg (not_not_intro hS),if_pos hl]
 exact ⟨h1,by unfold Ge;rw [if_neg (by omega)]⟩
theorem Aht (h:¬ 32 < l.length) (hS:Cc (Mi l) i=0) (hi:i=l.length) (hl:¬ 1048576 < (Ct (l.take i)).length):Fv l=0∧Ge l=Ct (l.take i):=by
 subst hi
 rw [List.take_length] at hl ⊢
 have h1:Fv l=0:=by unfold Fv;rw [if_neg h,if_neg (not_not_intro hS),if_neg hl]
 exact ⟨h1,by unfold Ge;rw [if_pos h1]⟩
end
theorem Lt {l:List ItemD} (h:Jf l=0):(l.length≤1024∧Ih l)∧Kt l=Cx l:=by
 by_cases h1:1024 < l.length
 ·rw [(Jw h1).1] at h;cases h
 ·by_cases h2:Ih l
  ·exact ⟨⟨by omega,h2⟩,(Qf (by omega) h2).2⟩
  ·rw [(Jy (by omega) h2).1] at h;cases h
theorem Sn {x:NotD} (h:D6 x≠0):Gl x=D6 x:=by unfold Gl;rw [if_pos h]
theorem Kv {x:NotD} (h:D6 x=0):Gl x=Jf x.items:=by unfold Gl;rw [if_neg (not_not_intro h)]
theorem Zi {k:List UInt8} {zs:List Int} {i:Nat} {z:Int} (h:zs[i]?=some z):k++Bz (zs.take i)++([32]++Lib.itoa z)=k++Bz (zs.take (i+1)):=by
 rw [Zj h];simp only [List.append_assoc,List.cons_append,List.nil_append]
theorem Ahu {l:List NotD} {i:Nat} {x:NotD} (h:l[i]?=some x) {zs:List Int} {j:Nat} (hz:zs=fm (nuK x ((x.items.length:Nat):Int))) (hj:zs.length≤j) {t:List UInt8} (ht:t=Cx x.items) :
  Ct (l.take i)++B1 x.kind++Bz (zs.take j)++([10]++t)=Ct (l.take (i+1)):=by
 subst hz ht
 rw [List.take_of_length_le hj,Rw h]
 simp only [P0,D7,List.append_assoc,List.cons_append,List.nil_append]
def Acc:List (List UInt8):=[B1 0,B1 1,B1 2,B1 3,B1 4,B1 5]
theorem name_at {k:Nat} (h:k≤5):Acc[k]?=some (B1 k):=by
 rcases (show k=0∨k=1∨k=2∨k=3∨k=4∨k=5 by omega) with rfl | rfl | rfl | rfl | rfl | rfl <;> rfl
def nS (x:NotD) (sz:Int) (i:Nat):Int:=match i with
 | 0=>x.at_
 | 1=>x.count
 | 2=>x.to
 | _=>sz
theorem nS_cell {x:NotD} {sz:Int} {i:Nat} (h:i < 4):([nS x sz 0,nS x sz 1,nS x sz 2,nS x sz 3]:List Int)[i]?=some (nS x sz i):=by
 rcases (show i=0∨i=1∨i=2∨i=3 by omega) with rfl | rfl | rfl | rfl <;> rfl
theorem nS_ink {x:NotD} {sz:Int} {i:Nat} (h1:Aw .i64 x.at_) (h2:Aw .i64 x.count) (h3:Aw .i64 x.to) (h4:Aw .i64 sz):Aw .i64 (nS x sz i):=by
 unfold nS;split <;> assumption
theorem u_one {p:Prop} [Decidable p]:(if p then (1:Int) else 0)=1↔p:=by split <;> simp_all
theorem nu_at {x:NotD} {sz:Int} {i:Nat} (h:i < 4):(nuK x sz)[i]?=some (decide (uG x.kind i=1),nS x sz i):=by
 rcases (show i=0∨i=1∨i=2∨i=3 by omega) with rfl | rfl | rfl | rfl <;> simp only [nuK,uG,nS,u_one,List.getElem?_cons_zero,List.getElem?_cons_succ]
theorem Ail {x:NotD} {sz:Int} {i:Nat} (h:i < 4) (hu:uG x.kind i=1):B1 x.kind++Bz (fm ((nuK x sz).take i))++[32]++Lib.itoa (nS x sz i)=B1 x.kind++Bz (fm ((nuK x sz).take (i+1))):=by
 rw [L5 (nu_at h),if_pos (decide_eq_true hu),Adl]
 simp [Bz]
theorem line_no {x:NotD} {sz:Int} {i:Nat} (h:i < 4) (hu:¬ uG x.kind i=1):B1 x.kind++Bz (fm ((nuK x sz).take i))=B1 x.kind++Bz (fm ((nuK x sz).take (i+1))):=by
 rw [L5 (nu_at h),if_neg (by rw [decide_eq_false hu];exact Bool.false_ne_true),List.append_nil]
theorem Ain {x:NotD} {sz:Int} {i:Nat} (h:4≤i):B1 x.kind++Bz (fm ((nuK x sz).take i))++[10]=D7 x sz:=by
 rw [List.take_of_length_le (show (nuK x sz).length≤i from h)];rfl
theorem itoa_m {z:Int} {u:Nat} (h:z < 0) (hu:(u:Int) = -z):[45]++Lib.decDigits u=Lib.itoa z:=by
 have:z = -(u:Int):=by omega
 subst this
 rw [Lib.itoa_neg u (by omega)];rfl
theorem itoa_p {z:Int} {u:Nat} (hu:(u:Int)=z):Lib.decDigits u=Lib.itoa z:=by subst hu;rw [Lib.itoa_nonneg]
theorem Aeq {l:List NotD} {i:Nat} {x:NotD} (h:l[i]?=some x) {j:Nat} (hj:x.items.length≤j) :
  Ct (l.take i)++D7 x ((x.items.length:Nat):Int)++Cx (x.items.take j)=Ct (l.take (i+1)):=by
 rw [List.take_of_length_le hj,Rw h]
 simp only [P0,List.append_assoc]
theorem J2 (k:Nat):(B1 k).length≤6:=by unfold B1;split <;> simp
theorem R9 {z:Int} (h:Aw .i64 z):(Lib.itoa z).length≤21:=by
 obtain ⟨h1,h2⟩:=h
 have h1:-9223372036854775808≤z:=h1
 have h2:z≤9223372036854775807:=h2
 unfold Lib.itoa
 split
 ·have:=Fh z.natAbs (by omega)
  simp only [List.length_cons,List.length_append,List.length_nil];omega
 ·have:=Fh z.toNat (by omega)
  omega
theorem Iv:∀ {zs:List Int},(∀ z∈zs,Aw .i64 z)→(Bz zs).length≤22 * zs.length
 | [],_=>by simp [Bz]
 | z::zs,h=>by
  have h1:=R9 (h z (by simp))
  have h2:=Iv (zs:=zs) fun y hy=>h y (by simp [hy])
  simp only [Bz,List.flatMap_cons,List.length_append,List.length_cons] at h2 ⊢
  omega
theorem Ou {x:NotD} {sz:Int} (h1:Aw .i64 x.at_) (h2:Aw .i64 x.count) (h3:Aw .i64 x.to) (h4:Aw .i64 sz):∀ z∈fm (nuK x sz),Aw .i64 z:=by
 intro z hz
 unfold fm nuK at hz
 simp only [List.mem_map,List.mem_filter,List.mem_cons,List.not_mem_nil,or_false] at hz
 obtain ⟨⟨b,y⟩,⟨hy | hy | hy | hy,_⟩,rfl⟩:=hz <;> (simp only [Prod.mk.injEq] at hy;obtain ⟨_,rfl⟩:=hy;assumption)
theorem Afe {x:NotD} {sz:Int} (h:∀ z∈fm (nuK x sz),Aw .i64 z):(D7 x sz).length≤95:=by
 have h1:=Iv h
 have h2:=O9 (nuK x sz)
 have h3:(nuK x sz).length=4:=rfl
 have h4:=J2 x.kind
 simp only [D7,List.length_append,List.length_cons,List.length_nil];omega
open Go Go.Y Go.Proofs
variable {w0 w:World} {G:A4} {L:List Res}
set_option linter.unusedSimpArgs false
set_option linter.unusedVariables false
theorem Yu (M:Mem w0 G L w) (HG:Globs 0 1 2 3 G) {z:Int} (hz:Aw .i64 z):Calls Tryz.prog 133 #[.int .i64 z] w (Ci w0 G L fun v=>v=.string (str (Lib.itoa z))):=by
 refine A0 (vs:=[_]) Tryz.func133 rfl (n:=5) rfl rfl<|Ab<|Ac<|Af rfl<|Aa<|Ad<|Ab<|Ac<|Ae rfl<|Bw Ajw rfl rfl (Yv (n:=z) M HG (by first | assumption | exact ⟨by decide,by decide⟩ | exact wrap_ink _ _ | exact Cu (by omega) (by omega)))<|?_;clear M;rintro _ w M rfl
 refine Af rfl<|Aa<|Ad<|Ak<|Aj rfl rfl<|?_
 exact ⟨M,rfl⟩
theorem Sa (M:Mem w0 G L w) (HG:Globs 0 1 2 3 G) {z:Int} (hz:Aw .i64 z):Calls Tryz.prog 83 #[.int .i64 z] w (Ci w0 G L fun v=>v=.string (str (Lib.itoa z))):=by
 refine A0 (vs:=[_]) Tryz.func83 rfl (n:=5) rfl rfl<|Ab<|Ac<|Af rfl<|Aa<|Ad<|Ab<|Ac<|Ae rfl<|Bw Akb rfl rfl (Yu (z:=z) M HG hz)<|?_;clear M;rintro _ w M rfl
 refine Af rfl<|Aa<|Ad<|Ak<|Aj rfl rfl<|?_
 exact ⟨M,rfl⟩
theorem Agd {w0 w:World} {G:A4} {L:List Res} {b n c:Nat} {ad:Option Addr} {l:List UInt8} {p:Value} (M:Mem w0 G (.blk b [p,.slice ad n c] 101::.row (.slice ad n c) n (bc l) 5 1::L) w) (hn:n=l.length) :
  Calls Tryz.prog 84 #[.pointer (some ⟨b,0,none⟩)] w (Ci w0 G (.blk b [p,.slice ad n c] 101::.row (.slice ad n c) n (bc l) 5 1::L) fun v=>v=.int .i64 ((l.length:Nat):Int)):=by
 refine A0 (vs:=[_]) Tryz.func84 rfl (n:=8) rfl rfl<|Ab<|Ac<|Af rfl<|Aa<|Ad<|Ab<|Ac<|Ae rfl<|Em rfl<|A2 Gr.k rfl rfl<|Bi Jv M 0 rfl rfl rfl rfl<|B8 Jv.k rfl<|Af rfl<|Aa<|Ad<|Ak<|Aj rfl rfl<|?_
 exact ⟨M,by rw [hn]⟩
theorem Uf (M:Mem w0 G L w) {k b b2:Nat}:Calls Tryz.prog 82 #[.agg #[.string (str (B1 k)),.bool (decide (uAt k)),.bool (decide (uCo k)),.bool (decide (uTo k)),.bool (decide (uIt k)),.func (.func (Dt k)) #[] #[]],.pointer (some ⟨b,0,none⟩),.pointer (some ⟨b2,0,none⟩)] w (Ret w0 G L fun G' v=>∃ (a:Option Addr) (cc:Nat),v=.slice a (fm (Ga k b b2)).length cc∧Az Ahh 1 G' (.slice a (fm (Ga k b b2)).length cc) (fm (Ga k b b2))):=by
 refine A0 (vs:=[_,_,_]) Tryz.func82 rfl (n:=47) rfl rfl<|Ab<|Ac<|C1 M rfl rfl rfl<|?_;clear M;intro b1 w M
 refine Af rfl<|Aa<|Ad<|Ab<|Ac<|Af rfl<|Aa<|Ad<|Ab<|Ab<|fun a F=>F4 [(true,0),(true,1),(true,2),(true,3),(true,4),(true,5),(true,6),(true,7),(true,8),(true,9),(true,10),(true,11),(true,12),(true,13),(true,14),(true,15),(true,16),(true,17),(true,18),(true,19),(true,20),(true,21),(true,24),(false,22),(true,23)] (Keep G [.blk b1 [.string (str (B1 k)),.bool (decide (uAt k)),.bool (decide (uCo k)),.bool (decide (uTo k)),.bool (decide (uIt k)),.func (.func (Dt k)) #[] #[]] 138]) rfl (by kernel_rfl) (fun c a d v w h=>by cases d <;> exact h) ((M.drew _).keep (Gle.refl _) (by simp)) ?_
 replace M:=M.drew (w.drawn+1)
 revert a
 refine l_r (fun a F w M=>Cm Cb.k rfl F rfl) rfl<|l_r (fun a F w M=>Ap (agf Ir rfl) (F.ev rfl) (M.cellL (k:=0) rfl rfl)) rfl<|l_r (fun a F w M=>Cg F rfl) rfl<|l_r (fun a F w M=>Dz (F.ev rfl)) rfl<|l_r (fun a F w M=>Cm Bd.k rfl F rfl) rfl<|l_r (fun a F w M=>Be (cs:=[.bool (decide (uAt k)),.pointer (some ⟨b,0+1,none⟩)]) (ps:=[(0,.bool (decide (uAt k))),(1,.pointer (some ⟨b,0+1,none⟩))]) Gw.k rfl Gw (F.evp rfl) rfl) rfl<|l_r (fun a F w M=>Cm Cb.k rfl F rfl) rfl<|l_r (fun a F w M=>Ap (agf Ir rfl) (F.ev rfl) (M.cellL (k:=0) rfl rfl)) rfl<|l_r (fun a F w M=>Cg F rfl) rfl<|l_r (fun a F w M=>Dz (F.ev rfl)) rfl<|l_r (fun a F w M=>Cm Bd.k rfl F rfl) rfl<|l_r (fun a F w M=>Be (cs:=[.bool (decide (uCo k)),.pointer (some ⟨b,0+2,none⟩)]) (ps:=[(0,.bool (decide (uCo k))),(1,.pointer (some ⟨b,0+2,none⟩))]) Gw.k rfl Gw (F.evp rfl) rfl) rfl<|l_r (fun a F w M=>Cm Cb.k rfl F rfl) rfl<|l_r (fun a F w M=>Ap (agf Ir rfl) (F.ev rfl) (M.cellL (k:=0) rfl rfl)) rfl<|l_r (fun a F w M=>Cg F rfl) rfl<|l_r (fun a F w M=>Dz (F.ev rfl)) rfl<|l_r (fun a F w M=>Cm Bd.k rfl F rfl) rfl<|l_r (fun a F w M=>Be (cs:=[.bool (decide (uTo k)),.pointer (some ⟨b,0+3,none⟩)]) (ps:=[(0,.bool (decide (uTo k))),(1,.pointer (some ⟨b,0+3,none⟩))]) Gw.k rfl Gw (F.evp rfl) rfl) rfl<|l_r (fun a F w M=>Cm Cb.k rfl F rfl) rfl<|l_r (fun a F w M=>Ap (agf Ir rfl) (F.ev rfl) (M.cellL (k:=0) rfl rfl)) rfl<|l_r (fun a F w M=>Cg F rfl) rfl<|l_r (fun a F w M=>Be (cs:=[.bool (decide (uIt k)),.pointer (some ⟨b2,0,none⟩)]) (ps:=[(0,.bool (decide (uIt k))),(1,.pointer (some ⟨b2,0,none⟩))]) Gw.k rfl Gw (F.evp rfl) rfl) rfl<|l_r (fun a F w M=>Cg F rfl) rfl<|l_a rfl<|?_
 intro a F
 refine Ef F M Zt.k Gw (ps:=[(0,.agg #[.bool (decide (uAt k)),.pointer (some ⟨b,0+1,none⟩)]),(1,.agg #[.bool (decide (uCo k)),.pointer (some ⟨b,0+2,none⟩)]),(2,.agg #[.bool (decide (uTo k)),.pointer (some ⟨b,0+3,none⟩)]),(3,.agg #[.bool (decide (uIt k)),.pointer (some ⟨b2,0,none⟩)])]) (cs:=[[.bool (decide (uAt k)),.pointer (some ⟨b,0+1,none⟩)],[.bool (decide (uCo k)),.pointer (some ⟨b,0+2,none⟩)],[.bool (decide (uTo k)),.pointer (some ⟨b,0+3,none⟩)],[.bool (decide (uIt k)),.pointer (some ⟨b2,0,none⟩)]]) (fl:=[.bool (decide (uAt k)),.pointer (some ⟨b,0+1,none⟩),.bool (decide (uCo k)),.pointer (some ⟨b,0+2,none⟩),.bool (decide (uTo k)),.pointer (some ⟨b,0+3,none⟩),.bool (decide (uIt k)),.pointer (some ⟨b2,0,none⟩)]) rfl rfl (by simp [Kw,Value.cells]) (by simp [ti215]) rfl (by simp [Value.oneCell']) (by decide) (by decide) rfl ?_;clear F M a;intro v2 w a M F
 obtain ⟨av2,cv2,rfl,hlev2,hcmv2,hlv2⟩:=M.row_shape (k:=0) rfl
 revert a
 refine Aa<|eK (C':=Keep G [.blk b1 [.string (str (B1 k)),.bool (decide (uAt k)),.bool (decide (uCo k)),.bool (decide (uTo k)),.bool (decide (uIt k)),.func (.func (Dt k)) #[] #[]] 138]) (M.keep (Gle.refl _) (by simp)) (fun w h=>h.mono (Gle.refl _) (by simp))<|?_
 have Eu:Els rdUP 2 G [.bool (decide (uAt k)),.pointer (some ⟨b,0+1,none⟩),.bool (decide (uCo k)),.pointer (some ⟨b,0+2,none⟩),.bool (decide (uTo k)),.pointer (some ⟨b,0+3,none⟩),.bool (decide (uIt k)),.pointer (some ⟨b2,0,none⟩)] (Ga k b b2):=els_ups
 refine l_r (fun a F w M=>Dm Zt.k (F.ev rfl)) rfl<|Hl<|Ad<|A1<|?_
 have M:=M.nilrow 150 1
 change Mem w0 G (.row (.slice none 0 0) 0 ([]) 150 1::.row (.slice av2 4 (cv2)) 4 ([.bool (decide (uAt k)),.pointer (some ⟨b,0+1,none⟩),.bool (decide (uCo k)),.pointer (some ⟨b,0+2,none⟩),.bool (decide (uTo k)),.pointer (some ⟨b,0+3,none⟩),.bool (decide (uIt k)),.pointer (some ⟨b2,0,none⟩)]) 215 2::.blk b1 [.string (str (B1 k)),.bool (decide (uAt k)),.bool (decide (uCo k)),.bool (decide (uTo k)),.bool (decide (uIt k)),.func (.func (Dt k)) #[] #[]] 138::L) _ at M
 intro a F
 refine B2 (fun m a' w'=>∃ (i:Nat),∃ (ar:Option Addr),∃ (nr:Nat),∃ (cr:Nat),∃ (csr:List Value),m=4 - i∧Fits 47 a' [(32,.slice av2 4 (cv2)),(33,.int .i64 ((4:Nat):Int)),(7,.slice ar nr cr),(34,.int .i64 ((i:Nat):Int))]∧Mem w0 G (.row (.slice ar nr cr) (nr) (csr) 150 1::.row (.slice av2 4 (cv2)) 4 ([.bool (decide (uAt k)),.pointer (some ⟨b,0+1,none⟩),.bool (decide (uCo k)),.pointer (some ⟨b,0+2,none⟩),.bool (decide (uTo k)),.pointer (some ⟨b,0+3,none⟩),.bool (decide (uIt k)),.pointer (some ⟨b2,0,none⟩)]) 215 2::.blk b1 [.string (str (B1 k)),.bool (decide (uAt k)),.bool (decide (uCo k)),.bool (decide (uTo k)),.bool (decide (uIt k)),.func (.func (Dt k)) #[] #[]] 138::L) w'∧(i≤4)∧(Els Ahh 1 G csr (fm ((Ga k b b2).take i)))∧(nr≤i)) _ ⟨0,none,0,0,[],rfl,F.to ⟨rfl,rfl,rfl,rfl,trivial⟩,M,by omega,Els.nil,by omega⟩ ?_
 clear F M
 rintro m a w ⟨i,ar,nr,cr,csr,rfl,F,M,hi,Er,hnr⟩
 revert a
 refine Ab<|Ac<|C9 rfl rfl<|Aa<|Ad<|Ab<|Ax rfl ?_ ?_
 ·intro h3b
  have h3:=dT h3b
  refine Aq<|Ad<|Ab<|A1<|Ab<|Ac<|?_
  obtain ⟨Xe4,hXe4⟩:=Bc (xs:=(Ga k b b2)) (i:=i) (by (show i < 4;omega))
  obtain ⟨be4,_,Ie4,hme4,_,Ae4,rfl⟩:=M.atRow (k:=1) rfl (by decide) Eu hXe4
  refine Ds Zt.k Gw Ie4 rfl rfl<|Ar (fun a F=>Ao Gw rfl (F.ev rfl) (cs:=[.bool (Xe4.1),.pointer (some ⟨Xe4.2.1,Xe4.2.2,none⟩)]) rfl (Akw Ae4 0 (by omega) rfl)) rfl<|C6 M Gw rfl rfl<|?_;clear M;intro b5 w M
  intro a F
  refine Av F M Gw (k:=0) rfl rfl rfl (us:=[.bool (Xe4.1),.pointer (some ⟨Xe4.2.1,Xe4.2.2,none⟩)]) rfl rfl (by simp [Value.oneCell']) (by simp) ?_;clear F M a;intro w a M F
  change Mem w0 G (.blk b5 [.bool (Xe4.1),.pointer (some ⟨Xe4.2.1,Xe4.2.2,none⟩)] 215::_::_::_::L) _ at M
  revert a
  refine Aa<|Ad<|Ab<|Ac<|A2 Gw.k rfl rfl<|Bi Ir M 0 rfl rfl rfl rfl<|Aa<|Ad<|Ax rfl ?_ ?_
  ·intro h7b
   have h7:(Xe4.1)=true:=h7b
   refine Ac<|Ae rfl<|A2 Gw.k rfl rfl<|Bi Mm M 0 rfl rfl rfl rfl<|fun a F=>?_
   refine Cv F M Mn.k Mm rfl rfl (cs:=[.pointer (some ⟨Xe4.2.1,Xe4.2.2,none⟩)]) rfl rfl (by simp [Value.oneCell']) (by decide) rfl ?_;clear F M a;intro v8 w a M F
   obtain ⟨av8,cv8,rfl,hlev8,hcmv8,hlv8⟩:=M.row_shape (k:=0) rfl
   have Eb9:Els Ahh 1 G [.pointer (some ⟨Xe4.2.1,Xe4.2.2,none⟩)] [Xe4.2]:=els_pt
   refine Ep F M (k:=2) (k2:=0) rfl rfl Mn.k Mm rfl rfl (by decide) rfl rfl (by show _ * 8≤_;(try simp only [List.length_drop,List.length_take,List.length_append,List.length_cons,List.length_nil]);omega) (by (try simp only [List.length_drop,List.length_take,List.length_append,List.length_cons,List.length_nil]);omega) rfl ?_;clear F M a;intro v10 w a M F
   have Ev10:=Els.append Er Eb9
   obtain ⟨av10,cv10,rfl,hlev10,hcmv10,hlv10⟩:=M.row_shape (k:=2) rfl
   revert a
   refine Af rfl<|Aa<|C0<|Ad<|Ac<|B9 rfl rfl<|Ae rfl<|Aa<|Ad<|fun a F=>?_
   exact ⟨_,by omega,i+1,(av10),(nr+1),(cv10),csr++([.pointer (some ⟨Xe4.2.1,Xe4.2.2,none⟩)]),rfl,F.to ⟨rfl,rfl,rfl,rfl,trivial⟩,(M.weaken (.cons _ (.cons _ (.cons_cons _ (.cons_cons _ (.cons_cons _ (sR _))))))),by omega,by have h_:=Ev10;first | (rw [L5 hXe4,if_pos (by assumption)];exact h_) | (rw [L5 hXe4,if_neg (by simp_all),List.append_nil];exact h_),by omega⟩
  ·intro h11b
   have h11:(Xe4.1)=false:=h11b
   refine Aq<|C0<|Ad<|Ac<|B9 rfl rfl<|Ae rfl<|Aa<|Ad<|fun a F=>?_
   exact ⟨_,by omega,i+1,(ar),(nr),(cr),csr,rfl,F.to ⟨rfl,rfl,rfl,rfl,trivial⟩,(M.weaken (.cons _ (.cons_cons _ (.cons_cons _ (.cons_cons _ (sR _)))))),by omega,by have h_:=Er;first | (rw [L5 hXe4,if_pos (by assumption)];exact h_) | (rw [L5 hXe4,if_neg (by simp_all),List.append_nil];exact h_),by omega⟩
 ·intro h12b
  have h12:=dF h12b
  refine B5<|B0<|B0<|Dr<|Ad<|Ab<|fun a F=>?_
  rw [List.take_of_length_le (show (Ga k b b2).length≤i by show 4≤i;omega)] at Er
  obtain ⟨hnz13,Gz13,az13,cz13,hGz13,hez13,Sz13,M⟩:=M.freeze_row J3 (k:=0) rfl Er (by decide)
  clear hez13 az13 cz13
  replace Eu:=Eu.mono Aex hGz13
  rw [hnz13] at F Sz13
  revert a
  refine Ac<|Ae rfl<|Af rfl<|Aa<|Ad<|Ak<|Aj rfl rfl<|?_
  exact ⟨_,hGz13,M.weaken (.cons _ (.cons _ (sR _))),_,_,rfl,Sz13⟩
open Go Go.Y Go.Proofs
set_option linter.unusedSimpArgs false
set_option linter.unusedVariables false
theorem I6 {w0 w:World} {G:A4} {L:List Res} (M:Mem w0 G L w) (HG:Globs 0 1 2 3 G) {an:Option Addr} {cn:Nat} {ns:List NotD} (SN:Az Ff 5 G (.slice an ns.length cn) ns):Calls Tryz.prog 32 #[.slice an ns.length cn] w (Ret w0 G L fun G' v=>v=.tuple #[.string (str (Ge ns)),.int .i64 (Fv ns)]):=by
 have bN:=SN.bound
 refine A0 (vs:=[_]) Tryz.func32 rfl (n:=68) rfl rfl<|Ab<|Ac<|Af rfl<|Af rfl<|Aa<|Ad<|Ab<|Ab<|Ac<|Ae rfl<|B8 Dd.k rfl<|Df rfl rfl<|Aa<|Ad<|Ax rfl ?_ ?_
 ·intro h1b
  have h1:=dT h1b
  refine Ab<|Ac<|Af rfl<|Af rfl<|Aa<|Ad<|Ak<|Au<|Gs rfl rfl rfl<|?_
  exact ⟨_,(Gle.refl _),M,by rw [(nt_3 (by omega)).1,(nt_3 (by omega)).2];try rfl⟩
 ·intro h2b
  have h2:=dF h2b
  refine Aq<|Ad<|Ab<|Ac<|C6 M Gr rfl rfl<|?_;clear M;intro b3 w M
  refine Aa<|Ad<|Ab<|Ab<|?_
  change Mem w0 G (_::L) _ at M
  have M:=(M.nilrow 5 1).perm (List.Perm.swap _ _ _)
  intro a F
  rw [show ([]:List Value)=bc [] from rfl] at M
  revert a
  refine Ac<|Ae rfl<|B8 Dd.k rfl<|Ae rfl<|Aa<|Ad<|A1<|?_
  have hz0:([]:List UInt8)=Ct (ns.take 0):=by simp [Ct]
  intro a F
  rw [hz0] at M
  refine B2 (fun m a' w'=>∃ (i:Nat),∃ (am:Option Addr),∃ (nm:Nat),∃ (cm:Nat),∃ (pm:Value),m=ns.length - i∧∃ G5,Gle G G5∧Fits 68 a' [(4,.pointer (some ⟨b3,0,none⟩)),(17,.slice an ns.length cn),(18,.int .i64 ((ns.length:Nat):Int)),(19,.int .i64 ((i:Nat):Int))]∧Mem w0 G5 (.blk b3 [pm,.slice am nm cm] 101::.row (.slice am nm cm) (nm) (bc (Ct (ns.take i))) 5 1::L) w'∧(i≤ns.length)∧(Cc (Mi ns) i=0)∧((Ct (ns.take i)).length≤320000 * i)∧(pm=.pointer none∨pm=.pointer (some ⟨b3,0,none⟩))∧(nm=(Ct (ns.take i)).length)∧((Ct (ns.take i))=[]→am=none)) _ ⟨0,(none),(0),(0),(.pointer none),rfl,G,Gle.refl _,F.to ⟨rfl,rfl,rfl,rfl,trivial⟩,M,Nat.zero_le _,rfl,by simp [Ct],(Or.inl rfl),rfl,(fun _=>rfl)⟩ ?_
  clear F M
  rintro m a w ⟨i,am,nm,cm,pm,rfl,G5,hG5,F,M,hi,hS,hlen,hpm,hnm,hnilm⟩
  replace HG:=HG.mono hG5
  replace SN:=SN.mono Bn hG5
  revert a
  refine Ab<|Ac<|C9 rfl rfl<|Aa<|Ad<|Ab<|Ax rfl ?_ ?_
  ·intro h6b
   have h6:=dT h6b
   refine Aq<|Ad<|Ab<|A1<|Ab<|Ac<|?_
   obtain ⟨Xe7,hXe7⟩:=Bc (xs:=ns) (i:=i) (by omega)
   obtain ⟨be7,oe7,_,Ie7,_,Ae7,hTe7⟩:=SN.at hXe7
   obtain ⟨nae7,nce7,rfl,h1e7,h2e7,h3e7,h4e7,h5e7,SIe7⟩:=hTe7
   have hNe7:Xe7.kind < 256∧Aw .i64 Xe7.at_∧Aw .i64 Xe7.count∧Aw .i64 Xe7.to∧Xe7.items.length≤9223372036854775807:=⟨h1e7,h2e7,h3e7,h4e7,h5e7⟩
   refine Ds Dd.k Bd Ie7 rfl rfl<|Ar (fun a F=>Ao Bd rfl (F.ev rfl) (cs:=[.int .u8 ((Xe7.kind:Nat):Int),.int .i64 Xe7.at_,.int .i64 Xe7.count,.int .i64 Xe7.to,.slice nae7 Xe7.items.length nce7]) rfl (M.cellsA Ae7 0 (by omega) rfl)) rfl<|C6 M Bd rfl rfl<|?_;clear M;intro b8 w M
   intro a F
   refine Av F M Bd (k:=0) rfl rfl rfl (us:=[.int .u8 ((Xe7.kind:Nat):Int),.int .i64 Xe7.at_,.int .i64 Xe7.count,.int .i64 Xe7.to,.slice nae7 Xe7.items.length nce7]) rfl rfl (by simp [Value.oneCell']) (by simp) ?_;clear F M a;intro w a M F
   change Mem w0 G5 (.blk b8 [.int .u8 ((Xe7.kind:Nat):Int),.int .i64 Xe7.at_,.int .i64 Xe7.count,.int .i64 Xe7.to,.slice nae7 Xe7.items.length nce7] 65::_::_::L) _ at M
   revert a
   refine Aa<|Ad<|Ab<|Ab<|Ac<|Ar (fun a F=>Ao Bd rfl (F.ev rfl) (cs:=[.int .u8 ((Xe7.kind:Nat):Int),.int .i64 Xe7.at_,.int .i64 Xe7.count,.int .i64 Xe7.to,.slice nae7 Xe7.items.length nce7]) rfl (M.cellsL (k:=0) rfl rfl)) rfl<|Bw Y0 rfl rfl (Ha (x:=Xe7) M hNe7 SIe7)<|?_;clear M;rintro _ w M rfl
   refine Af rfl<|Aa<|Ad<|Ab<|Ac<|Ae rfl<|D9 rfl rfl<|Aa<|Ad<|Ax rfl ?_ ?_
   ·intro h10b
    have h10:=dF (Ah h10b)
    refine Ab<|Ac<|Ae rfl<|Af rfl<|Af rfl<|Aa<|Ad<|Ak<|Au<|Bk<|Au<|Au<|Bk<|Au<|Gs rfl rfl rfl<|?_
    exact ⟨_,hG5,M.weaken (.cons _ (.cons _ (.cons _ (sR _)))),by rw [(Tm (by omega) hS hXe7 (by rw [Sn (by omega)];omega)).1,(Tm (by omega) hS hXe7 (by rw [Sn (by omega)];omega)).2,Sn (show D6 Xe7≠0 by omega)];try rfl⟩
   ·intro h11b
    have h11:=dT (Ai h11b)
    refine Aq<|Ad<|Ab<|?_
    have hne:D6 Xe7=0:=by omega
    refine Ac<|A2 Bd.k rfl rfl<|Bi Bp M 0 rfl rfl rfl rfl<|Bw ent11 rfl rfl (Adm (xs:=Xe7.items) M HG SIe7)<|?_;clear M;rintro _ w M rfl
    refine Ae rfl<|Dg rfl rfl<|Dg rfl rfl<|Af rfl<|Af rfl<|Aa<|Ad<|Ab<|Ab<|Ac<|Ae rfl<|D9 rfl rfl<|Aa<|Ad<|Ax rfl ?_ ?_
    ·intro h12b
     have h12:=dF (Ah h12b)
     refine Ab<|Ac<|Ae rfl<|Af rfl<|Af rfl<|Aa<|Ad<|Ak<|Au<|Bk<|Au<|Au<|Bk<|Au<|Gs rfl rfl rfl<|?_
     exact ⟨_,hG5,M.weaken (.cons _ (.cons _ (.cons _ (sR _)))),by rw [(Tm (by omega) hS hXe7 (by rw [Kv hne];omega)).1,(Tm (by omega) hS hXe7 (by rw [Kv hne];omega)).2,Kv hne];try rfl⟩
    ·intro h13b
     have h13:=dT (Ai h13b)
     refine Aq<|Ad<|Ab<|?_
     have ht0:=Lt (l:=Xe7.items) (by omega)
     have htl:=Tx ht0.1.2 (Wg SIe7)
     intro a F
     rw [← ht0.2] at htl
     have hkk:=(H0.1 hne).1
     have hnk:=J2 Xe7.kind
     have hnu:=Ou (x:=Xe7) (sz:=((Xe7.items.length:Nat):Int)) hNe7.2.1 hNe7.2.2.1 hNe7.2.2.2.1 (Cu (by omega) (by omega))
     have hfl4:=O9 (nuK Xe7 ((Xe7.items.length:Nat):Int))
     rw [show (nuK Xe7 ((Xe7.items.length:Nat):Int)).length=4 from rfl] at hfl4
     refine Pk (fun a' w'=>∃ (b10k b11k:Nat),Fits 68 a' [(4,.pointer (some ⟨b3,0,none⟩)),(6,.pointer (some ⟨b8,0,none⟩)),(8,.string (str (Kt Xe7.items))),(17,.slice an ns.length cn),(18,.int .i64 ((ns.length:Nat):Int)),(19,.int .i64 ((i:Nat):Int)),(10,.pointer (some ⟨b10k,0,none⟩)),(11,.pointer (some ⟨b11k,0,none⟩))]∧Mem w0 G5 (.blk b11k [.int .i64 ((Xe7.items.length:Nat):Int)] 3::.blk b10k [.string (str (B1 Xe7.kind)),.bool (decide (uAt Xe7.kind)),.bool (decide (uCo Xe7.kind)),.bool (decide (uTo Xe7.kind)),.bool (decide (uIt Xe7.kind)),.func (.func (Dt Xe7.kind)) #[] #[]] 138::.blk b8 [.int .u8 ((Xe7.kind:Nat):Int),.int .i64 Xe7.at_,.int .i64 Xe7.count,.int .i64 Xe7.to,.slice nae7 Xe7.items.length nce7] 65::.blk b3 [pm,.slice am nm cm] 101::.row (.slice am nm cm) (nm) (bc (Ct (ns.take i))) 5 1::L) w') ?_ ?_
     ·skip
      have ht0:=Lt (l:=Xe7.items) (by omega)
      have htl:=Tx ht0.1.2 (Wg SIe7)
      rw [← ht0.2] at htl
      have hkk:=(H0.1 hne).1
      have hnk:=J2 Xe7.kind
      have hnu:=Ou (x:=Xe7) (sz:=((Xe7.items.length:Nat):Int)) hNe7.2.1 hNe7.2.2.1 hNe7.2.2.2.1 (Cu (by omega) (by omega))
      have hfl4:=O9 (nuK Xe7 ((Xe7.items.length:Nat):Int))
      rw [show (nuK Xe7 ((Xe7.items.length:Nat):Int)).length=4 from rfl] at hfl4
      refine Zk (.run 1 (.run 2 (.run 4 (.run 5 (.run 6 (.act 0 (.run 3 (.act 7 (.act 8 (.act 9 (.act 10 .fin .no) .no) .no) (.act 8 (.act 7 (.act 9 (.act 10 .fin .no) .no) .no) .no))) (.act 7 (.act 0 (.run 3 (.act 8 (.act 9 (.act 10 .fin .no) .no) .no)) (.act 8 (.act 0 (.run 3 (.act 9 (.act 10 .fin .no) .no)) .no) .no)) (.act 8 (.act 0 (.run 3 (.act 7 (.act 9 (.act 10 .fin .no) .no) .no)) (.act 7 (.act 0 (.run 3 (.act 9 (.act 10 .fin .no) .no)) .no) .no)) .no)))))))) (Keep G5 [.blk b8 [.int .u8 ((Xe7.kind:Nat):Int),.int .i64 Xe7.at_,.int .i64 Xe7.count,.int .i64 Xe7.to,.slice nae7 Xe7.items.length nce7] 65]) rfl (by kernel_rfl) (fun c a d v w h=>by cases d <;> exact h) ((M.drew _).keep (Gle.refl _) (by simp)) ?_
      replace M:=M.drew (w.drawn+1)
      revert a
      refine t_r (fun a F w M=>Cm Bd.k rfl F rfl) rfl<|t_r (fun a F w M=>Ap (agf Ev rfl) (F.ev rfl) (M.cellL (k:=0) rfl rfl)) rfl<|t_r (fun a F w M=>Cm Bd.k rfl F rfl) rfl<|t_r (fun a F w M=>Ap (agf Bp rfl) (F.ev rfl) (M.cellL (k:=0) rfl rfl)) rfl<|t_r (fun a F w M=>Dm Bp.k (F.ev rfl)) rfl<|fun a F=>Cp ?_ rfl ?_
      ·skip
       revert a
       refine Bw N7 rfl rfl (Fz M)<|?_;clear M;rintro _ w M rfl
       refine Aa<|eK (C':=Keep G5 [.blk b8 [.int .u8 ((Xe7.kind:Nat):Int),.int .i64 Xe7.at_,.int .i64 Xe7.count,.int .i64 Xe7.to,.slice nae7 Xe7.items.length nce7] 65]) (M.keep (Gle.refl _) (by simp)) (fun w h=>h.mono (Gle.refl _) (by simp))<|t_r (fun a F w M=>Fx (j:=Xe7.kind) Gb.k Cb rfl (F.ev rfl) (F.ev rfl) rfl (by omega) (us:=[.string (str (B1 Xe7.kind)),.bool (decide (uAt Xe7.kind)),.bool (decide (uCo Xe7.kind)),.bool (decide (uTo Xe7.kind)),.bool (decide (uIt Xe7.kind)),.func (.func (Dt Xe7.kind)) #[] #[]]) (Ic (by omega))) rfl<|fun a F=>Cp ?_ rfl ?_
       ·skip
        revert a
        refine C6 M Cb rfl rfl<|?_;clear M;intro b14 w M
        refine Aa<|eK (C':=Keep G5 [.blk b8 [.int .u8 ((Xe7.kind:Nat):Int),.int .i64 Xe7.at_,.int .i64 Xe7.count,.int .i64 Xe7.to,.slice nae7 Xe7.items.length nce7] 65]) (M.keep (Gle.refl _) (by simp)) (fun w h=>h.mono (Gle.refl _) (by simp))<|fun a F=>Cp ?_ rfl D5
        revert a
        refine C6 M B7 rfl rfl<|?_;clear M;intro b16 w M
        refine Aa<|eK (C':=Keep G5 [.blk b8 [.int .u8 ((Xe7.kind:Nat):Int),.int .i64 Xe7.at_,.int .i64 Xe7.count,.int .i64 Xe7.to,.slice nae7 Xe7.items.length nce7] 65]) (M.keep (Gle.refl _) (by simp)) (fun w h=>h.mono (Gle.refl _) (by simp))<|fun a F=>Cp ?_ rfl D5
        refine Av F M Cb (k:=1) rfl rfl rfl (us:=[.string (str (B1 Xe7.kind)),.bool (decide (uAt Xe7.kind)),.bool (decide (uCo Xe7.kind)),.bool (decide (uTo Xe7.kind)),.bool (decide (uIt Xe7.kind)),.func (.func (Dt Xe7.kind)) #[] #[]]) rfl rfl (by simp [Value.oneCell']) (by simp) ?_;clear F M a;intro w a M F
        change Mem w0 G5 (_::.blk b14 [.string (str (B1 Xe7.kind)),.bool (decide (uAt Xe7.kind)),.bool (decide (uCo Xe7.kind)),.bool (decide (uTo Xe7.kind)),.bool (decide (uIt Xe7.kind)),.func (.func (Dt Xe7.kind)) #[] #[]] 138::.blk b8 [.int .u8 ((Xe7.kind:Nat):Int),.int .i64 Xe7.at_,.int .i64 Xe7.count,.int .i64 Xe7.to,.slice nae7 Xe7.items.length nce7] 65::_::_::L) _ at M
        revert a
        refine Aa<|eK (C':=Keep G5 [.blk b8 [.int .u8 ((Xe7.kind:Nat):Int),.int .i64 Xe7.at_,.int .i64 Xe7.count,.int .i64 Xe7.to,.slice nae7 Xe7.items.length nce7] 65]) (M.keep (Gle.refl _) (by simp)) (fun w h=>h.mono (Gle.refl _) (by simp))<|fun a F=>Cp ?_ rfl D5
        revert a
        refine Fp B7 M 0 rfl rfl rfl rfl rfl rfl<|?_;clear M;intro w M
        refine Aa<|eK (C':=Keep G5 [.blk b8 [.int .u8 ((Xe7.kind:Nat):Int),.int .i64 Xe7.at_,.int .i64 Xe7.count,.int .i64 Xe7.to,.slice nae7 Xe7.items.length nce7] 65]) (M.keep (Gle.refl _) (by simp)) (fun w h=>h.mono (Gle.refl _) (by simp))<|Ku<|fun a F=>?_
        exact ⟨b14,b16,F.to ⟨rfl,rfl,rfl,rfl,rfl,rfl,rfl,rfl,trivial⟩,M⟩
       refine Cp ?_ rfl ?_
       ·skip
        revert a
        refine C6 M B7 rfl rfl<|?_;clear M;intro b18 w M
        refine Aa<|eK (C':=Keep G5 [.blk b8 [.int .u8 ((Xe7.kind:Nat):Int),.int .i64 Xe7.at_,.int .i64 Xe7.count,.int .i64 Xe7.to,.slice nae7 Xe7.items.length nce7] 65]) (M.keep (Gle.refl _) (by simp)) (fun w h=>h.mono (Gle.refl _) (by simp))<|fun a F=>Cp ?_ rfl D5
        revert a
        refine C6 M Cb rfl rfl<|?_;clear M;intro b20 w M
        refine Aa<|eK (C':=Keep G5 [.blk b8 [.int .u8 ((Xe7.kind:Nat):Int),.int .i64 Xe7.at_,.int .i64 Xe7.count,.int .i64 Xe7.to,.slice nae7 Xe7.items.length nce7] 65]) (M.keep (Gle.refl _) (by simp)) (fun w h=>h.mono (Gle.refl _) (by simp))<|fun a F=>Cp ?_ rfl D5
        refine Av F M Cb (k:=0) rfl rfl rfl (us:=[.string (str (B1 Xe7.kind)),.bool (decide (uAt Xe7.kind)),.bool (decide (uCo Xe7.kind)),.bool (decide (uTo Xe7.kind)),.bool (decide (uIt Xe7.kind)),.func (.func (Dt Xe7.kind)) #[] #[]]) rfl rfl (by simp [Value.oneCell']) (by simp) ?_;clear F M a;intro w a M F
        change Mem w0 G5 (.blk b20 [.string (str (B1 Xe7.kind)),.bool (decide (uAt Xe7.kind)),.bool (decide (uCo Xe7.kind)),.bool (decide (uTo Xe7.kind)),.bool (decide (uIt Xe7.kind)),.func (.func (Dt Xe7.kind)) #[] #[]] 138::_::.blk b8 [.int .u8 ((Xe7.kind:Nat):Int),.int .i64 Xe7.at_,.int .i64 Xe7.count,.int .i64 Xe7.to,.slice nae7 Xe7.items.length nce7] 65::_::_::L) _ at M
        revert a
        refine Aa<|eK (C':=Keep G5 [.blk b8 [.int .u8 ((Xe7.kind:Nat):Int),.int .i64 Xe7.at_,.int .i64 Xe7.count,.int .i64 Xe7.to,.slice nae7 Xe7.items.length nce7] 65]) (M.keep (Gle.refl _) (by simp)) (fun w h=>h.mono (Gle.refl _) (by simp))<|fun a F=>Cp ?_ rfl D5
        revert a
        refine Fp B7 M 1 rfl rfl rfl rfl rfl rfl<|?_;clear M;intro w M
        refine Aa<|eK (C':=Keep G5 [.blk b8 [.int .u8 ((Xe7.kind:Nat):Int),.int .i64 Xe7.at_,.int .i64 Xe7.count,.int .i64 Xe7.to,.slice nae7 Xe7.items.length nce7] 65]) (M.keep (Gle.refl _) (by simp)) (fun w h=>h.mono (Gle.refl _) (by simp))<|Ku<|?_
        have M:=M.perm (List.Perm.swap _ _ _)
        intro a F
        exact ⟨b20,b18,F.to ⟨rfl,rfl,rfl,rfl,rfl,rfl,rfl,rfl,trivial⟩,M⟩
       exact D5
      refine Cp ?_ rfl ?_
      ·skip
       revert a
       refine C6 M Cb rfl rfl<|?_;clear M;intro b22 w M
       refine Aa<|eK (C':=Keep G5 [.blk b8 [.int .u8 ((Xe7.kind:Nat):Int),.int .i64 Xe7.at_,.int .i64 Xe7.count,.int .i64 Xe7.to,.slice nae7 Xe7.items.length nce7] 65]) (M.keep (Gle.refl _) (by simp)) (fun w h=>h.mono (Gle.refl _) (by simp))<|fun a F=>Cp ?_ rfl ?_
       ·skip
        revert a
        refine Bw N7 rfl rfl (Fz M)<|?_;clear M;rintro _ w M rfl
        refine Aa<|eK (C':=Keep G5 [.blk b8 [.int .u8 ((Xe7.kind:Nat):Int),.int .i64 Xe7.at_,.int .i64 Xe7.count,.int .i64 Xe7.to,.slice nae7 Xe7.items.length nce7] 65]) (M.keep (Gle.refl _) (by simp)) (fun w h=>h.mono (Gle.refl _) (by simp))<|t_r (fun a F w M=>Fx (j:=Xe7.kind) Gb.k Cb rfl (F.ev rfl) (F.ev rfl) rfl (by omega) (us:=[.string (str (B1 Xe7.kind)),.bool (decide (uAt Xe7.kind)),.bool (decide (uCo Xe7.kind)),.bool (decide (uTo Xe7.kind)),.bool (decide (uIt Xe7.kind)),.func (.func (Dt Xe7.kind)) #[] #[]]) (Ic (by omega))) rfl<|fun a F=>Cp ?_ rfl D5
        revert a
        refine C6 M B7 rfl rfl<|?_;clear M;intro b24 w M
        refine Aa<|eK (C':=Keep G5 [.blk b8 [.int .u8 ((Xe7.kind:Nat):Int),.int .i64 Xe7.at_,.int .i64 Xe7.count,.int .i64 Xe7.to,.slice nae7 Xe7.items.length nce7] 65]) (M.keep (Gle.refl _) (by simp)) (fun w h=>h.mono (Gle.refl _) (by simp))<|fun a F=>Cp ?_ rfl D5
        refine Av F M Cb (k:=1) rfl rfl rfl (us:=[.string (str (B1 Xe7.kind)),.bool (decide (uAt Xe7.kind)),.bool (decide (uCo Xe7.kind)),.bool (decide (uTo Xe7.kind)),.bool (decide (uIt Xe7.kind)),.func (.func (Dt Xe7.kind)) #[] #[]]) rfl rfl (by simp [Value.oneCell']) (by simp) ?_;clear F M a;intro w a M F
        change Mem w0 G5 (_::.blk b22 [.string (str (B1 Xe7.kind)),.bool (decide (uAt Xe7.kind)),.bool (decide (uCo Xe7.kind)),.bool (decide (uTo Xe7.kind)),.bool (decide (uIt Xe7.kind)),.func (.func (Dt Xe7.kind)) #[] #[]] 138::.blk b8 [.int .u8 ((Xe7.kind:Nat):Int),.int .i64 Xe7.at_,.int .i64 Xe7.count,.int .i64 Xe7.to,.slice nae7 Xe7.items.length nce7] 65::_::_::L) _ at M
        revert a
        refine Aa<|eK (C':=Keep G5 [.blk b8 [.int .u8 ((Xe7.kind:Nat):Int),.int .i64 Xe7.at_,.int .i64 Xe7.count,.int .i64 Xe7.to,.slice nae7 Xe7.items.length nce7] 65]) (M.keep (Gle.refl _) (by simp)) (fun w h=>h.mono (Gle.refl _) (by simp))<|fun a F=>Cp ?_ rfl D5
        revert a
        refine Fp B7 M 0 rfl rfl rfl rfl rfl rfl<|?_;clear M;intro w M
        refine Aa<|eK (C':=Keep G5 [.blk b8 [.int .u8 ((Xe7.kind:Nat):Int),.int .i64 Xe7.at_,.int .i64 Xe7.count,.int .i64 Xe7.to,.slice nae7 Xe7.items.length nce7] 65]) (M.keep (Gle.refl _) (by simp)) (fun w h=>h.mono (Gle.refl _) (by simp))<|Ku<|fun a F=>?_
        exact ⟨b22,b24,F.to ⟨rfl,rfl,rfl,rfl,rfl,rfl,rfl,rfl,trivial⟩,M⟩
       refine Cp ?_ rfl ?_
       ·skip
        revert a
        refine C6 M B7 rfl rfl<|?_;clear M;intro b26 w M
        refine Aa<|eK (C':=Keep G5 [.blk b8 [.int .u8 ((Xe7.kind:Nat):Int),.int .i64 Xe7.at_,.int .i64 Xe7.count,.int .i64 Xe7.to,.slice nae7 Xe7.items.length nce7] 65]) (M.keep (Gle.refl _) (by simp)) (fun w h=>h.mono (Gle.refl _) (by simp))<|fun a F=>Cp ?_ rfl D5
        revert a
        refine Bw N7 rfl rfl (Fz M)<|?_;clear M;rintro _ w M rfl
        refine Aa<|eK (C':=Keep G5 [.blk b8 [.int .u8 ((Xe7.kind:Nat):Int),.int .i64 Xe7.at_,.int .i64 Xe7.count,.int .i64 Xe7.to,.slice nae7 Xe7.items.length nce7] 65]) (M.keep (Gle.refl _) (by simp)) (fun w h=>h.mono (Gle.refl _) (by simp))<|t_r (fun a F w M=>Fx (j:=Xe7.kind) Gb.k Cb rfl (F.ev rfl) (F.ev rfl) rfl (by omega) (us:=[.string (str (B1 Xe7.kind)),.bool (decide (uAt Xe7.kind)),.bool (decide (uCo Xe7.kind)),.bool (decide (uTo Xe7.kind)),.bool (decide (uIt Xe7.kind)),.func (.func (Dt Xe7.kind)) #[] #[]]) (Ic (by omega))) rfl<|fun a F=>Cp ?_ rfl D5
        refine Av F M Cb (k:=1) rfl rfl rfl (us:=[.string (str (B1 Xe7.kind)),.bool (decide (uAt Xe7.kind)),.bool (decide (uCo Xe7.kind)),.bool (decide (uTo Xe7.kind)),.bool (decide (uIt Xe7.kind)),.func (.func (Dt Xe7.kind)) #[] #[]]) rfl rfl (by simp [Value.oneCell']) (by simp) ?_;clear F M a;intro w a M F
        change Mem w0 G5 (_::.blk b22 [.string (str (B1 Xe7.kind)),.bool (decide (uAt Xe7.kind)),.bool (decide (uCo Xe7.kind)),.bool (decide (uTo Xe7.kind)),.bool (decide (uIt Xe7.kind)),.func (.func (Dt Xe7.kind)) #[] #[]] 138::.blk b8 [.int .u8 ((Xe7.kind:Nat):Int),.int .i64 Xe7.at_,.int .i64 Xe7.count,.int .i64 Xe7.to,.slice nae7 Xe7.items.length nce7] 65::_::_::L) _ at M
        revert a
        refine Aa<|eK (C':=Keep G5 [.blk b8 [.int .u8 ((Xe7.kind:Nat):Int),.int .i64 Xe7.at_,.int .i64 Xe7.count,.int .i64 Xe7.to,.slice nae7 Xe7.items.length nce7] 65]) (M.keep (Gle.refl _) (by simp)) (fun w h=>h.mono (Gle.refl _) (by simp))<|fun a F=>Cp ?_ rfl D5
        revert a
        refine Fp B7 M 0 rfl rfl rfl rfl rfl rfl<|?_;clear M;intro w M
        refine Aa<|eK (C':=Keep G5 [.blk b8 [.int .u8 ((Xe7.kind:Nat):Int),.int .i64 Xe7.at_,.int .i64 Xe7.count,.int .i64 Xe7.to,.slice nae7 Xe7.items.length nce7] 65]) (M.keep (Gle.refl _) (by simp)) (fun w h=>h.mono (Gle.refl _) (by simp))<|Ku<|fun a F=>?_
        exact ⟨b22,b26,F.to ⟨rfl,rfl,rfl,rfl,rfl,rfl,rfl,rfl,trivial⟩,M⟩
       exact D5
      refine Cp ?_ rfl ?_
      ·skip
       revert a
       refine C6 M B7 rfl rfl<|?_;clear M;intro b28 w M
       refine Aa<|eK (C':=Keep G5 [.blk b8 [.int .u8 ((Xe7.kind:Nat):Int),.int .i64 Xe7.at_,.int .i64 Xe7.count,.int .i64 Xe7.to,.slice nae7 Xe7.items.length nce7] 65]) (M.keep (Gle.refl _) (by simp)) (fun w h=>h.mono (Gle.refl _) (by simp))<|fun a F=>Cp ?_ rfl ?_
       ·skip
        revert a
        refine Bw N7 rfl rfl (Fz M)<|?_;clear M;rintro _ w M rfl
        refine Aa<|eK (C':=Keep G5 [.blk b8 [.int .u8 ((Xe7.kind:Nat):Int),.int .i64 Xe7.at_,.int .i64 Xe7.count,.int .i64 Xe7.to,.slice nae7 Xe7.items.length nce7] 65]) (M.keep (Gle.refl _) (by simp)) (fun w h=>h.mono (Gle.refl _) (by simp))<|t_r (fun a F w M=>Fx (j:=Xe7.kind) Gb.k Cb rfl (F.ev rfl) (F.ev rfl) rfl (by omega) (us:=[.string (str (B1 Xe7.kind)),.bool (decide (uAt Xe7.kind)),.bool (decide (uCo Xe7.kind)),.bool (decide (uTo Xe7.kind)),.bool (decide (uIt Xe7.kind)),.func (.func (Dt Xe7.kind)) #[] #[]]) (Ic (by omega))) rfl<|fun a F=>Cp ?_ rfl D5
        revert a
        refine C6 M Cb rfl rfl<|?_;clear M;intro b30 w M
        refine Aa<|eK (C':=Keep G5 [.blk b8 [.int .u8 ((Xe7.kind:Nat):Int),.int .i64 Xe7.at_,.int .i64 Xe7.count,.int .i64 Xe7.to,.slice nae7 Xe7.items.length nce7] 65]) (M.keep (Gle.refl _) (by simp)) (fun w h=>h.mono (Gle.refl _) (by simp))<|fun a F=>Cp ?_ rfl D5
        refine Av F M Cb (k:=0) rfl rfl rfl (us:=[.string (str (B1 Xe7.kind)),.bool (decide (uAt Xe7.kind)),.bool (decide (uCo Xe7.kind)),.bool (decide (uTo Xe7.kind)),.bool (decide (uIt Xe7.kind)),.func (.func (Dt Xe7.kind)) #[] #[]]) rfl rfl (by simp [Value.oneCell']) (by simp) ?_;clear F M a;intro w a M F
        change Mem w0 G5 (.blk b30 [.string (str (B1 Xe7.kind)),.bool (decide (uAt Xe7.kind)),.bool (decide (uCo Xe7.kind)),.bool (decide (uTo Xe7.kind)),.bool (decide (uIt Xe7.kind)),.func (.func (Dt Xe7.kind)) #[] #[]] 138::_::.blk b8 [.int .u8 ((Xe7.kind:Nat):Int),.int .i64 Xe7.at_,.int .i64 Xe7.count,.int .i64 Xe7.to,.slice nae7 Xe7.items.length nce7] 65::_::_::L) _ at M
        revert a
        refine Aa<|eK (C':=Keep G5 [.blk b8 [.int .u8 ((Xe7.kind:Nat):Int),.int .i64 Xe7.at_,.int .i64 Xe7.count,.int .i64 Xe7.to,.slice nae7 Xe7.items.length nce7] 65]) (M.keep (Gle.refl _) (by simp)) (fun w h=>h.mono (Gle.refl _) (by simp))<|fun a F=>Cp ?_ rfl D5
        revert a
        refine Fp B7 M 1 rfl rfl rfl rfl rfl rfl<|?_;clear M;intro w M
        refine Aa<|eK (C':=Keep G5 [.blk b8 [.int .u8 ((Xe7.kind:Nat):Int),.int .i64 Xe7.at_,.int .i64 Xe7.count,.int .i64 Xe7.to,.slice nae7 Xe7.items.length nce7] 65]) (M.keep (Gle.refl _) (by simp)) (fun w h=>h.mono (Gle.refl _) (by simp))<|Ku<|?_
        have M:=M.perm (List.Perm.swap _ _ _)
        intro a F
        exact ⟨b30,b28,F.to ⟨rfl,rfl,rfl,rfl,rfl,rfl,rfl,rfl,trivial⟩,M⟩
       refine Cp ?_ rfl ?_
       ·skip
        revert a
        refine C6 M Cb rfl rfl<|?_;clear M;intro b32 w M
        refine Aa<|eK (C':=Keep G5 [.blk b8 [.int .u8 ((Xe7.kind:Nat):Int),.int .i64 Xe7.at_,.int .i64 Xe7.count,.int .i64 Xe7.to,.slice nae7 Xe7.items.length nce7] 65]) (M.keep (Gle.refl _) (by simp)) (fun w h=>h.mono (Gle.refl _) (by simp))<|fun a F=>Cp ?_ rfl D5
        revert a
        refine Bw N7 rfl rfl (Fz M)<|?_;clear M;rintro _ w M rfl
        refine Aa<|eK (C':=Keep G5 [.blk b8 [.int .u8 ((Xe7.kind:Nat):Int),.int .i64 Xe7.at_,.int .i64 Xe7.count,.int .i64 Xe7.to,.slice nae7 Xe7.items.length nce7] 65]) (M.keep (Gle.refl _) (by simp)) (fun w h=>h.mono (Gle.refl _) (by simp))<|t_r (fun a F w M=>Fx (j:=Xe7.kind) Gb.k Cb rfl (F.ev rfl) (F.ev rfl) rfl (by omega) (us:=[.string (str (B1 Xe7.kind)),.bool (decide (uAt Xe7.kind)),.bool (decide (uCo Xe7.kind)),.bool (decide (uTo Xe7.kind)),.bool (decide (uIt Xe7.kind)),.func (.func (Dt Xe7.kind)) #[] #[]]) (Ic (by omega))) rfl<|fun a F=>Cp ?_ rfl D5
        refine Av F M Cb (k:=0) rfl rfl rfl (us:=[.string (str (B1 Xe7.kind)),.bool (decide (uAt Xe7.kind)),.bool (decide (uCo Xe7.kind)),.bool (decide (uTo Xe7.kind)),.bool (decide (uIt Xe7.kind)),.func (.func (Dt Xe7.kind)) #[] #[]]) rfl rfl (by simp [Value.oneCell']) (by simp) ?_;clear F M a;intro w a M F
        change Mem w0 G5 (.blk b32 [.string (str (B1 Xe7.kind)),.bool (decide (uAt Xe7.kind)),.bool (decide (uCo Xe7.kind)),.bool (decide (uTo Xe7.kind)),.bool (decide (uIt Xe7.kind)),.func (.func (Dt Xe7.kind)) #[] #[]] 138::_::.blk b8 [.int .u8 ((Xe7.kind:Nat):Int),.int .i64 Xe7.at_,.int .i64 Xe7.count,.int .i64 Xe7.to,.slice nae7 Xe7.items.length nce7] 65::_::_::L) _ at M
        revert a
        refine Aa<|eK (C':=Keep G5 [.blk b8 [.int .u8 ((Xe7.kind:Nat):Int),.int .i64 Xe7.at_,.int .i64 Xe7.count,.int .i64 Xe7.to,.slice nae7 Xe7.items.length nce7] 65]) (M.keep (Gle.refl _) (by simp)) (fun w h=>h.mono (Gle.refl _) (by simp))<|fun a F=>Cp ?_ rfl D5
        revert a
        refine Fp B7 M 1 rfl rfl rfl rfl rfl rfl<|?_;clear M;intro w M
        refine Aa<|eK (C':=Keep G5 [.blk b8 [.int .u8 ((Xe7.kind:Nat):Int),.int .i64 Xe7.at_,.int .i64 Xe7.count,.int .i64 Xe7.to,.slice nae7 Xe7.items.length nce7] 65]) (M.keep (Gle.refl _) (by simp)) (fun w h=>h.mono (Gle.refl _) (by simp))<|Ku<|?_
        have M:=M.perm (List.Perm.swap _ _ _)
        intro a F
        exact ⟨b32,b28,F.to ⟨rfl,rfl,rfl,rfl,rfl,rfl,rfl,rfl,trivial⟩,M⟩
       exact D5
      exact D5
     ·clear F M
      rintro a w ⟨b10k,b11k,F,M⟩
      revert a
      refine Ad<|Ab<|Ac<|A2 Cb.k rfl rfl<|Bi Bq M 1 rfl rfl rfl rfl<|?_
      replace M:=M.perm (Am _ 4 _ rfl)
      replace M:=M.perm (Am _ 4 _ rfl)
      change Mem w0 G5 (_::_::_::_::.blk b8 [.int .u8 ((Xe7.kind:Nat):Int),.int .i64 Xe7.at_,.int .i64 Xe7.count,.int .i64 Xe7.to,.slice nae7 Xe7.items.length nce7] 65::L) _ at M
      refine Oj Ada rfl rfl (Lp (s:=(B1 Xe7.kind)) hpm M hnm hnilm (by (first | omega | (simp only [List.length_append,List.length_cons,List.length_nil];omega))))<|?_;clear M;rintro _ _ w M ⟨rfl,au34,nu34,cu34,rfl,hnu34,hnilu34⟩
      refine Aa<|Ad<|Ab<|Ab<|Ac<|Ar (fun a F=>Ao Cb rfl (F.ev rfl) (cs:=[.string (str (B1 Xe7.kind)),.bool (decide (uAt Xe7.kind)),.bool (decide (uCo Xe7.kind)),.bool (decide (uTo Xe7.kind)),.bool (decide (uIt Xe7.kind)),.func (.func (Dt Xe7.kind)) #[] #[]]) rfl (M.cellsL (k:=3) rfl rfl)) rfl<|Hx ent82 rfl rfl (Uf (k:=Xe7.kind) (b:=b8) (b2:=b11k) M)<|?_;clear M;rintro _ Gq35 w hGq35 M ⟨aq35,cq35,rfl,Sq35⟩
      replace HG:=HG.mono hGq35
      replace SN:=SN.mono Bn hGq35
      replace Ae7:=Ae7.mono hGq35
      replace SIe7:=SIe7.mono A3 hGq35
      refine B8 Mn.k rfl<|Ae rfl<|Aa<|Ad<|A1<|?_
      have hz2:(Ct (ns.take i))++(B1 Xe7.kind)=Ct (ns.take i)++B1 Xe7.kind++Bz ((fm (nuK Xe7 ((Xe7.items.length:Nat):Int))).take 0):=by simp [Bz]
      intro a F
      rw [hz2] at M hnu34 hnilu34
      have hfe:=Qn (x:=Xe7) (b:=b8) (b2:=b11k) (sz:=((Xe7.items.length:Nat):Int))
      refine B2 (fun m a' w'=>∃ (j:Nat),∃ (ak:Option Addr),∃ (nk:Nat),∃ (ck:Nat),∃ (pk:Value),m=(fm (Ga Xe7.kind b8 b11k)).length - j∧Fits 68 a' [(4,.pointer (some ⟨b3,0,none⟩)),(6,.pointer (some ⟨b8,0,none⟩)),(8,.string (str (Kt Xe7.items))),(10,.pointer (some ⟨b10k,0,none⟩)),(11,.pointer (some ⟨b11k,0,none⟩)),(17,.slice an ns.length cn),(18,.int .i64 ((ns.length:Nat):Int)),(19,.int .i64 ((i:Nat):Int)),(48,.slice aq35 ((fm (Ga Xe7.kind b8 b11k)).length) (cq35)),(49,.int .i64 ((((fm (Ga Xe7.kind b8 b11k)).length:Nat):Int))),(50,.int .i64 ((j:Nat):Int))]∧Mem w0 Gq35 (.blk b3 [pk,.slice ak nk ck] 101::.row (.slice ak nk ck) (nk) (bc (Ct (ns.take i)++B1 Xe7.kind++Bz ((fm (nuK Xe7 ((Xe7.items.length:Nat):Int))).take j))) 5 1::.blk b11k [.int .i64 ((Xe7.items.length:Nat):Int)] 3::.blk b10k [.string (str (B1 Xe7.kind)),.bool (decide (uAt Xe7.kind)),.bool (decide (uCo Xe7.kind)),.bool (decide (uTo Xe7.kind)),.bool (decide (uIt Xe7.kind)),.func (.func (Dt Xe7.kind)) #[] #[]] 138::.blk b8 [.int .u8 ((Xe7.kind:Nat):Int),.int .i64 Xe7.at_,.int .i64 Xe7.count,.int .i64 Xe7.to,.slice nae7 Xe7.items.length nce7] 65::L) w'∧(j≤(fm (Ga Xe7.kind b8 b11k)).length)∧(pk=.pointer none∨pk=.pointer (some ⟨b3,0,none⟩))∧(nk=(Ct (ns.take i)++B1 Xe7.kind++Bz ((fm (nuK Xe7 ((Xe7.items.length:Nat):Int))).take j)).length)∧((Ct (ns.take i)++B1 Xe7.kind++Bz ((fm (nuK Xe7 ((Xe7.items.length:Nat):Int))).take j))=[]→ak=none)) _ ⟨0,(au34),(nu34),(cu34),(.pointer (some ⟨b3,0,none⟩)),rfl,F.to ⟨rfl,rfl,rfl,rfl,rfl,rfl,rfl,rfl,rfl,rfl,rfl,trivial⟩,M,Nat.zero_le _,(Or.inr rfl),hnu34,hnilu34⟩ ?_
      clear F M
      rintro m a w ⟨j,ak,nk,ck,pk,rfl,F,M,hj,hpk,hnk,hnilk⟩
      revert a
      refine Ab<|Ac<|C9 rfl rfl<|Aa<|Ad<|Ab<|Ax rfl ?_ ?_
      ·intro h36b
       have h36:=dT h36b
       refine Aq<|Ad<|Ab<|A1<|Ab<|Ac<|?_
       obtain ⟨Xe37,hXe37⟩:=Bc (xs:=(fm (Ga Xe7.kind b8 b11k))) (i:=j) (by omega)
       obtain ⟨be37,oe37,_,Ie37,_,Ae37,rfl⟩:=Sq35.at hXe37
       refine Ds Mn.k Mm Ie37 rfl rfl<|C2 Mm M Ae37 0 rfl rfl (by omega) rfl<|Af rfl<|Aa<|Ad<|?_
       obtain ⟨z,hz,hpz⟩:=fld_get (sz:=((Xe7.items.length:Nat):Int)) hXe37
       have hzi:=hnu z (List.mem_of_getElem? hz)
       have hzl:=R9 hzi
       have hwl:=Iv (zs:=(fm (nuK Xe7 ((Xe7.items.length:Nat):Int))).take j) fun y hy=>hnu y (List.mem_of_mem_take hy)
       have hwt:((fm (nuK Xe7 ((Xe7.items.length:Nat):Int))).take j).length≤(fm (nuK Xe7 ((Xe7.items.length:Nat):Int))).length:=List.length_take_le' _ _
       have hpc:w.cell? ⟨Xe37.1,Xe37.2,none⟩=some (.int .i64 z):=by rcases hpz with ⟨h8_,rfl⟩ | ⟨h8_,rfl⟩ | ⟨h8_,rfl⟩ | ⟨h8_,rfl⟩ <;> rw [h8_];exact M.cellL (k:=4) rfl rfl;exact M.cellL (k:=4) rfl rfl;exact M.cellL (k:=4) rfl rfl;exact M.cellL (k:=2) rfl rfl
       refine Ac<|Ae rfl<|Em rfl<|Ar (fun a F=>Ap (agf B7 rfl) (F.ev rfl) hpc) rfl<|Bw Acz rfl rfl (Sa (z:=z) M HG hzi)<|?_;clear M;rintro _ w M rfl
       refine Ar (fun a F=>Bu (F.ev rfl) (F.ev rfl) (by (first | omega | (simp only [List.length_append,List.length_cons,List.length_nil];omega)))) rfl<|?_
       replace M:=M.perm (Am _ 1 _ rfl)
       replace M:=M.perm (Am _ 1 _ rfl)
       change Mem w0 Gq35 (_::_::_::_::.blk b8 [.int .u8 ((Xe7.kind:Nat):Int),.int .i64 Xe7.at_,.int .i64 Xe7.count,.int .i64 Xe7.to,.slice nae7 Xe7.items.length nce7] 65::L) _ at M
       refine Oj Ada rfl rfl (Lp (s:=(([32]:List UInt8)++(Lib.itoa z))) hpk M hnk hnilk (by (first | omega | (simp only [List.length_append,List.length_cons,List.length_nil];omega))))<|?_;clear M;rintro _ _ w M ⟨rfl,au38,nu38,cu38,rfl,hnu38,hnilu38⟩
       refine Aa<|C0<|Ad<|Ac<|B9 rfl rfl<|Ae rfl<|Aa<|Ad<|?_
       have hsn:(Ct (ns.take i)++B1 Xe7.kind++Bz ((fm (nuK Xe7 ((Xe7.items.length:Nat):Int))).take j))++(([32]:List UInt8)++(Lib.itoa z))=Ct (ns.take i)++B1 Xe7.kind++Bz ((fm (nuK Xe7 ((Xe7.items.length:Nat):Int))).take (j+1)):=Zi hz
       intro a F
       rw [hsn] at M hnu38 hnilu38
       exact ⟨_,by omega,j+1,(au38),(nu38),(cu38),(.pointer (some ⟨b3,0,none⟩)),rfl,F.to ⟨rfl,rfl,rfl,rfl,rfl,rfl,rfl,rfl,rfl,rfl,rfl,trivial⟩,M,by omega,(Or.inr rfl),hnu38,hnilu38⟩
      ·intro h39b
       have h39:=dF h39b
       refine B5<|B0<|B0<|Dr<|Ad<|?_
       have hfl:(fm (Ga Xe7.kind b8 b11k)).length≤j:=by omega
       have hwl:=Iv (zs:=(fm (nuK Xe7 ((Xe7.items.length:Nat):Int))).take j) fun y hy=>hnu y (List.mem_of_mem_take hy)
       have hwt:((fm (nuK Xe7 ((Xe7.items.length:Nat):Int))).take j).length≤(fm (nuK Xe7 ((Xe7.items.length:Nat):Int))).length:=List.length_take_le' _ _
       refine Ac<|Ae rfl<|Ar (fun a F=>Bu (F.ev rfl) (F.ev rfl) (by (first | omega | (simp only [List.length_append,List.length_cons,List.length_nil];omega)))) rfl<|?_
       replace M:=M.perm (Am _ 1 _ rfl)
       replace M:=M.perm (Am _ 1 _ rfl)
       change Mem w0 Gq35 (_::_::_::_::.blk b8 [.int .u8 ((Xe7.kind:Nat):Int),.int .i64 Xe7.at_,.int .i64 Xe7.count,.int .i64 Xe7.to,.slice nae7 Xe7.items.length nce7] 65::L) _ at M
       refine Oj Ada rfl rfl (Lp (s:=(([10]:List UInt8)++(Kt Xe7.items))) hpk M hnk hnilk (by (first | omega | (simp only [List.length_append,List.length_cons,List.length_nil];omega))))<|?_;clear M;rintro _ _ w M ⟨rfl,au40,nu40,cu40,rfl,hnu40,hnilu40⟩
       refine Aa<|C0<|Ad<|Ac<|B9 rfl rfl<|Ae rfl<|Aa<|Ad<|?_
       have hsn:(Ct (ns.take i)++B1 Xe7.kind++Bz ((fm (nuK Xe7 ((Xe7.items.length:Nat):Int))).take j))++(([10]:List UInt8)++(Kt Xe7.items))=Ct (ns.take (i+1)):=Ahu hXe7 rfl (by have h9_:=Qn (x:=Xe7) (b:=0) (b2:=0) (sz:=((Xe7.items.length:Nat):Int));have h8_:=hfl;omega) ht0.2
       intro a F
       rw [hsn] at M hnu40 hnilu40
       exact ⟨_,by omega,i+1,(au40),(nu40),(cu40),(.pointer (some ⟨b3,0,none⟩)),rfl,Gq35,(hG5.trans hGq35),F.to ⟨rfl,rfl,rfl,rfl,trivial⟩,(M.weaken (.cons_cons _ (.cons_cons _ (.cons _ (.cons _ (.cons _ (sR _))))))),by omega,by rw [Gf hS,Pa hXe7,Kv hne];omega,by rw [← hsn];simp only [List.length_append,List.length_cons,List.length_nil];omega,(Or.inr rfl),hnu40,hnilu40⟩
  ·intro h41b
   have h41:=dF h41b
   refine B5<|B0<|B0<|Dr<|Ad<|Ab<|Ab<|Ac<|?_
   replace M:=M.perm (Am _ 1 _ rfl)
   replace M:=M.perm (Am _ 1 _ rfl)
   change Mem w0 G5 (_::_::L) _ at M
   refine Bw ent84 rfl rfl (Agd M hnm)<|?_;clear M;rintro _ w M rfl
   refine Df rfl rfl<|Aa<|Ad<|Ax rfl ?_ ?_
   ·intro h42b
    have h42:=dT h42b
    refine Ab<|Ac<|Af rfl<|Af rfl<|Aa<|Ad<|Ak<|Au<|Gs rfl rfl rfl<|?_
    exact ⟨_,hG5,M.weaken (.cons _ (.cons _ (sR _))),by rw [(V7 (by omega) hS (by omega) (by omega)).1,(V7 (by omega) hS (by omega) (by omega)).2];try rfl⟩
   ·intro h43b
    have h43:=dF h43b
    refine Aq<|Ad<|Ab<|Ac<|?_
    replace M:=M.perm (Am _ 1 _ rfl)
    replace M:=M.perm (Am _ 1 _ rfl)
    change Mem w0 G5 (_::_::L) _ at M
    refine Bw ent43 rfl rfl (Va M hnm hnilm)<|?_;clear M;rintro _ w M rfl
    refine Af rfl<|Af rfl<|Aa<|Ad<|Ak<|Gs rfl rfl rfl<|?_
    exact ⟨_,hG5,M,by rw [(Aht (by omega) hS (by omega) (by omega)).1,(Aht (by omega) hS (by omega) (by omega)).2];try rfl⟩
open Go Go.Y Go.Proofs
variable {w0 w:World} {G:A4} {L:List Res}
set_option linter.unusedSimpArgs false
set_option linter.unusedVariables false
theorem Adz (M:Mem w0 G L w) {z:Int} (hz:Aw .i64 z):Calls Tryz.prog 132 #[.int .i64 z] w (Ci w0 G L fun v=>v=.string (str (Lib.itoa z))):=by
 obtain ⟨hz1,hz2⟩:=id hz
 have hz1:-9223372036854775808≤z:=hz1
 have hz2:z≤9223372036854775807:=hz2
 refine A0 (vs:=[_]) Tryz.func132 rfl (n:=15) rfl rfl<|Ab<|Ac<|Af rfl<|Aa<|Ad<|Ab<|Ab<|Ac<|Ae rfl<|C9 rfl rfl<|Aa<|Ad<|Ax rfl ?_ ?_
 ·intro h1b
  have h1:=dT h1b
  refine Ab<|Ac<|Ae rfl<|B9 rfl rfl<|Ar (fun a F=>Agx (F.ev rfl) (Cu (by omega) (by omega))) rfl<|Ar (fun a F=>D0 Ew.k ⟨_,by rw [Dk W8.k]⟩ (F.ev rfl) (Kk (by omega) (by omega))) rfl<|Ar (fun a F=>F3 (F.ev rfl) (F.ev rfl) (Kk (by omega) (by omega))) rfl<|?_
  have hu2:((-(z+1))+1:Int)=((((-(z+1))+1).toNat:Nat):Int):=by omega
  intro a F
  rw [hu2] at F
  revert a
  refine Bw Na rfl rfl (I1 (u:=((-(z+1))+1).toNat) M (by omega))<|?_;clear M;rintro _ w M rfl
  refine Ar (fun a F=>Bu (F.ev rfl) (F.ev rfl) (by (first | omega | (have h9_:=Fh (-(z+1)+1).toNat (by omega);simp only [List.length_append,List.length_cons,List.length_nil];omega)))) rfl<|Af rfl<|Aa<|Ad<|Ak<|Au<|Aj rfl rfl<|?_
  exact ⟨M,by rw [← itoa_m (z:=z) (u:=(-(z+1)+1).toNat) (by omega) (by omega)]⟩
 ·intro h3b
  have h3:=dF h3b
  refine Aq<|Ad<|Ab<|Ac<|Ae rfl<|Ar (fun a F=>D0 Ew.k ⟨_,by rw [Dk W8.k]⟩ (F.ev rfl) (Kk (by omega) (by omega))) rfl<|?_
  have hu4:(z:Int)=(((z).toNat:Nat):Int):=by omega
  intro a F
  rw [hu4] at F
  revert a
  refine Bw Na rfl rfl (I1 (u:=(z).toNat) M (by omega))<|?_;clear M;rintro _ w M rfl
  refine Af rfl<|Aa<|Ad<|Ak<|Aj rfl rfl<|?_
  exact ⟨M,by rw [← itoa_p (z:=z) (u:=z.toNat) (by omega)]⟩
theorem Acv {α:Type} {l:List (Bool × α)} {i:Nat} {y:α} (h:y∈fm (l.take i)):y∈fm l:=by
 unfold fm at h ⊢
 obtain ⟨q,h1,h2⟩:=List.mem_map.1 h
 obtain ⟨h3,h4⟩:=List.mem_filter.1 h1
 exact List.mem_map.2 ⟨q,List.mem_filter.2 ⟨List.mem_of_mem_take h3,h4⟩,h2⟩
theorem Xs (M:Mem w0 G L w) {x:NotD} {na:Option Addr} {nc:Nat} (hN:x.kind < 256∧Aw .i64 x.at_∧Aw .i64 x.count∧Aw .i64 x.to∧x.items.length≤9223372036854775807) (SI:Az Co 4 G (.slice na x.items.length nc) x.items) {sz:Int} (hz:Aw .i64 sz) (hk:x.kind≤5):Calls Tryz.prog 81 #[.agg #[.int .u8 ((x.kind:Nat):Int),.int .i64 x.at_,.int .i64 x.count,.int .i64 x.to,.slice na x.items.length nc],.int .i64 sz] w (Ci w0 G L fun v=>v=.string (str (D7 x sz))):=by
 have hnu:=Ou (x:=x) (sz:=sz) hN.2.1 hN.2.2.1 hN.2.2.2.1 hz
 refine A0 (vs:=[_,_]) Tryz.func81 rfl (n:=41) rfl rfl<|Ab<|Ac<|C1 M rfl rfl rfl<|?_;clear M;intro b1 w M
 refine Af rfl<|Aa<|Ad<|Ab<|Ac<|fun a F=>?_
 refine Ef F M Ca.k Bq (ps:=[(0,.string (str ([]:List UInt8))),(1,.string (str ([105,110,115,101,114,116]:List UInt8))),(2,.string (str ([114,101,109,111,118,101]:List UInt8))),(3,.string (str ([109,111,118,101]:List UInt8))),(4,.string (str ([99,104,97,110,103,101]:List UInt8))),(5,.string (str ([114,101,115,101,116]:List UInt8)))]) (cs:=[[.string (str ([]:List UInt8))],[.string (str ([105,110,115,101,114,116]:List UInt8))],[.string (str ([114,101,109,111,118,101]:List UInt8))],[.string (str ([109,111,118,101]:List UInt8))],[.string (str ([99,104,97,110,103,101]:List UInt8))],[.string (str ([114,101,115,101,116]:List UInt8))]]) (fl:=[.string (str ([]:List UInt8)),.string (str ([105,110,115,101,114,116]:List UInt8)),.string (str ([114,101,109,111,118,101]:List UInt8)),.string (str ([109,111,118,101]:List UInt8)),.string (str ([99,104,97,110,103,101]:List UInt8)),.string (str ([114,101,115,101,116]:List UInt8))]) rfl rfl (by simp [Kw,Value.cells]) (by simp [ti9]) rfl (by simp [Value.oneCell']) (by decide) (by decide) rfl ?_;clear F M a;intro v2 w a M F
 obtain ⟨av2,cv2,rfl,hlev2,hcmv2,hlv2⟩:=M.row_shape (k:=0) rfl
 have En:Els D4 1 G [.string (str ([]:List UInt8)),.string (str ([105,110,115,101,114,116]:List UInt8)),.string (str ([114,101,109,111,118,101]:List UInt8)),.string (str ([109,111,118,101]:List UInt8)),.string (str ([99,104,97,110,103,101]:List UInt8)),.string (str ([114,101,115,101,116]:List UInt8))] Acc:=Li Acc (by intro y hy;simp only [Acc,List.mem_cons,List.not_mem_nil,or_false] at hy;rcases hy with rfl | rfl | rfl | rfl | rfl | rfl <;> decide)
 revert a
 refine A2 Bd.k rfl rfl<|Bi Ev M 1 rfl rfl rfl rfl<|?_
 obtain ⟨be3,_,Ie3,hme3,_,Ae3,⟨rfl,hsle3⟩⟩:=M.atRow (k:=0) rfl (by decide) En (name_at (by omega))
 refine Ds Ca.k Bq Ie3 rfl rfl<|Agv Bq Ae3 0 rfl rfl (by omega) rfl<|Af rfl<|Aa<|Ad<|Ab<|Ac<|A2 Bd.k rfl rfl<|Bi Ev M 1 rfl rfl rfl rfl<|Bw ent93 rfl rfl (Qz (k:=x.kind) M)<|?_;clear M;rintro _ w M rfl
 refine C6 M D2 rfl rfl<|?_;clear M;intro b4 w M
 intro a F
 refine Av F M D2 (k:=0) rfl rfl rfl (us:=[.int .i64 (uG x.kind 0),.int .i64 (uG x.kind 1),.int .i64 (uG x.kind 2),.int .i64 (uG x.kind 3)]) rfl rfl (by simp [Value.oneCell']) (by simp) ?_;clear F M a;intro w a M F
 change Mem w0 G (.blk b4 [.int .i64 (uG x.kind 0),.int .i64 (uG x.kind 1),.int .i64 (uG x.kind 2),.int .i64 (uG x.kind 3)] 167::_::_::L) _ at M
 revert a
 refine Aa<|Ad<|Ab<|Ab<|Ac<|Af rfl<|Aa<|Ad<|A1<|?_
 have hz0:B1 x.kind=B1 x.kind++Bz (fm ((nuK x sz).take 0)):=by simp [Bz,fm]
 intro a F
 rw [hz0] at F
 refine B2 (fun m a' w'=>∃ (i:Nat),m=4 - i∧Fits 41 a' [(1,.int .i64 sz),(2,.pointer (some ⟨b1,0,none⟩)),(6,.pointer (some ⟨b4,0,none⟩)),(5,.string (str (B1 x.kind++Bz (fm ((nuK x sz).take i))))),(7,.int .i64 ((i:Nat):Int))]∧Mem w0 G (.blk b4 [.int .i64 (uG x.kind 0),.int .i64 (uG x.kind 1),.int .i64 (uG x.kind 2),.int .i64 (uG x.kind 3)] 167::.row (.slice av2 6 (cv2)) 6 ([.string (str ([]:List UInt8)),.string (str ([105,110,115,101,114,116]:List UInt8)),.string (str ([114,101,109,111,118,101]:List UInt8)),.string (str ([109,111,118,101]:List UInt8)),.string (str ([99,104,97,110,103,101]:List UInt8)),.string (str ([114,101,115,101,116]:List UInt8))]) 9 1::.blk b1 [.int .u8 ((x.kind:Nat):Int),.int .i64 x.at_,.int .i64 x.count,.int .i64 x.to,.slice na x.items.length nc] 65::L) w'∧(i≤4)) _ ⟨0,rfl,F.to ⟨rfl,rfl,rfl,rfl,rfl,trivial⟩,M,by omega⟩ ?_
 clear F M
 rintro m a w ⟨i,rfl,F,M,hi⟩
 revert a
 refine Ab<|Ab<|Ac<|Ae rfl<|C9 rfl rfl<|Aa<|Ad<|Ax rfl ?_ ?_
 ·intro h6b
  have h6:=dT h6b
  refine Aq<|Ad<|Ab<|A1<|Ab<|Ac<|Ae rfl<|Ar (fun a F=>Ms (j:=i) D2.k B7 rfl (F.ev rfl) (F.ev rfl) (by omega) (by omega)) rfl<|Ar (fun a F=>Ap (agf B7 rfl) (F.ev rfl) (M.cellL (k:=0) rfl (Agq (i:=i) (by omega)))) rfl<|Dy rfl rfl<|Aa<|Ad<|Ax rfl ?_ ?_
  ·intro h7b
   have h7:=dT h7b
   have hwl:=Iv (zs:=fm ((nuK x sz).take i)) fun y hy=>hnu y (Acv hy)
   have hwt:=O9 ((nuK x sz).take i)
   have hw4:((nuK x sz).take i).length≤(nuK x sz).length:=List.length_take_le' _ _
   intro a F
   rw [show (nuK x sz).length=4 from rfl] at hw4
   have hnk:=J2 x.kind
   have hzi:=nS_ink (x:=x) (sz:=sz) (i:=i) hN.2.1 hN.2.2.1 hN.2.2.2.1 hz
   have hzl:=R9 hzi
   revert a
   refine Ac<|Ae rfl<|Ar (fun a F=>Bu (F.ev rfl) (F.ev rfl) (by (first | omega | (simp only [List.length_append,List.length_cons,List.length_nil];omega)))) rfl<|A2 Bd.k rfl rfl<|Bi B7 M 2 rfl rfl rfl rfl<|A2 Bd.k rfl rfl<|Bi B7 M 2 rfl rfl rfl rfl<|A2 Bd.k rfl rfl<|Bi B7 M 2 rfl rfl rfl rfl<|Ae rfl<|fun a F=>?_
   refine Ef F M Vm.k B7 (ps:=[(0,.int .i64 x.at_),(1,.int .i64 x.count),(2,.int .i64 x.to),(3,.int .i64 sz)]) (cs:=[[.int .i64 x.at_],[.int .i64 x.count],[.int .i64 x.to],[.int .i64 sz]]) (fl:=[.int .i64 x.at_,.int .i64 x.count,.int .i64 x.to,.int .i64 sz]) rfl rfl (by simp [Kw,Value.cells]) (by simp [ti3]) rfl (by simp [Value.oneCell']) (by decide) (by decide) rfl ?_;clear F M a;intro v8 w a M F
   obtain ⟨av8,cv8,rfl,hlev8,hcmv8,hlv8⟩:=M.row_shape (k:=0) rfl
   have Ez:Els rdZ 1 G [.int .i64 x.at_,.int .i64 x.count,.int .i64 x.to,.int .i64 sz] [nS x sz 0,nS x sz 1,nS x sz 2,nS x sz 3]:=Aki (zs:=[nS x sz 0,nS x sz 1,nS x sz 2,nS x sz 3])
   revert a
   refine Ae rfl<|?_
   obtain ⟨be9,_,Ie9,hme9,_,Ae9,rfl⟩:=M.atRow (k:=0) rfl (by decide) Ez (nS_cell (x:=x) (sz:=sz) (i:=i) (by omega))
   refine Ds Vm.k B7 Ie9 rfl rfl<|Agv B7 Ae9 0 rfl rfl (by omega) rfl<|Bw ent132 rfl rfl (Adz (z:=(nS x sz i)) M hzi)<|?_;clear M;rintro _ w M rfl
   refine Ar (fun a F=>Bu (F.ev rfl) (F.ev rfl) (by (first | omega | (simp only [List.length_append,List.length_cons,List.length_nil];omega)))) rfl<|Af rfl<|Aa<|C0<|Ad<|Ac<|Ae rfl<|B9 rfl rfl<|Af rfl<|Aa<|Ad<|?_
   have hsn:((B1 x.kind++Bz (fm ((nuK x sz).take i)))++([32]:List UInt8))++(Lib.itoa (nS x sz i))=B1 x.kind++Bz (fm ((nuK x sz).take (i+1))):=Ail (by omega) (by assumption)
   intro a F
   rw [hsn] at F
   exact ⟨_,by omega,i+1,rfl,F.to ⟨rfl,rfl,rfl,rfl,rfl,trivial⟩,(M.weaken (.cons _ (.cons_cons _ (.cons_cons _ (.cons_cons _ (sR _)))))),by omega⟩
  ·intro h10b
   have h10:=dF h10b
   refine Aq<|C0<|Ad<|Ac<|Ae rfl<|B9 rfl rfl<|Af rfl<|Aa<|Ad<|?_
   have hsn:B1 x.kind++Bz (fm ((nuK x sz).take i))=B1 x.kind++Bz (fm ((nuK x sz).take (i+1))):=line_no (by omega) (by assumption)
   intro a F
   rw [hsn] at F
   exact ⟨_,by omega,i+1,rfl,F.to ⟨rfl,rfl,rfl,rfl,rfl,trivial⟩,M,by omega⟩
 ·intro h11b
  have h11:=dF h11b
  refine B5<|B0<|B0<|Dr<|Ad<|Ab<|?_
  have hwl:=Iv (zs:=fm ((nuK x sz).take i)) fun y hy=>hnu y (Acv hy)
  have hwt:=O9 ((nuK x sz).take i)
  have hw4:((nuK x sz).take i).length≤(nuK x sz).length:=List.length_take_le' _ _
  intro a F
  rw [show (nuK x sz).length=4 from rfl] at hw4
  have hnk:=J2 x.kind
  revert a
  refine Ac<|Ae rfl<|Ar (fun a F=>Bu (F.ev rfl) (F.ev rfl) (by (first | omega | (simp only [List.length_append,List.length_cons,List.length_nil];omega)))) rfl<|Af rfl<|Aa<|Ad<|Ak<|Aj rfl rfl<|?_
  exact ⟨M.weaken (.cons _ (.cons _ (.cons _ (sR _)))),by rw [Ain (by omega)]⟩
open Go Go.Y Go.Proofs
set_option linter.unusedSimpArgs false
set_option linter.unusedVariables false
theorem Xq {w0 w:World} {G:A4} {L:List Res} (M:Mem w0 G L w) {an:Option Addr} {cn:Nat} {ns:List NotD} (SN:Az Ff 5 G (.slice an ns.length cn) ns):Calls Tryz.prog 31 #[.slice an ns.length cn] w (Ci w0 G L fun v=>v=.tuple #[.string (str (Ge ns)),.int .i64 (Fv ns)]):=by
 have bN:=SN.bound
 refine A0 (vs:=[_]) Tryz.func31 rfl (n:=82) rfl rfl<|Ab<|Ac<|Af rfl<|Af rfl<|Aa<|Ad<|Ab<|Ab<|Ac<|Ae rfl<|B8 Dd.k rfl<|Df rfl rfl<|Aa<|Ad<|Ax rfl ?_ ?_
 ·intro h1b
  have h1:=dT h1b
  refine Ab<|Ac<|Af rfl<|Af rfl<|Aa<|Ad<|Ak<|Au<|Gs rfl rfl rfl<|?_
  exact ⟨M,by rw [(nt_3 (by omega)).1,(nt_3 (by omega)).2];try rfl⟩
 ·intro h2b
  have h2:=dF h2b
  refine Aq<|Ad<|Ab<|Ac<|Af rfl<|Aa<|Ad<|Ab<|Ab<|Ac<|Af rfl<|Aa<|Ad<|A1<|?_
  have hz0:([]:List UInt8)=Ct (ns.take 0):=by simp [Ct]
  intro a F
  refine B2 (fun m a' w'=>∃ (i:Nat),m=ns.length - i∧Fits 82 a' [(0,.slice an ns.length cn),(4,.string (str (Ct (ns.take i)))),(5,.int .i64 ((i:Nat):Int))]∧Mem w0 G (L) w'∧(i≤ns.length)∧(Cc (Mi ns) i=0)∧((Ct (ns.take i)).length≤320000 * i)) _ ⟨0,rfl,F.to ⟨rfl,rfl,rfl,trivial⟩,M,Nat.zero_le _,rfl,by simp [Ct]⟩ ?_
  clear F M
  rintro m a w ⟨i,rfl,F,M,hi,hS,hlen⟩
  revert a
  refine Ab<|Ab<|Ac<|Ae rfl<|Ae rfl<|B8 Dd.k rfl<|C9 rfl rfl<|Aa<|Ad<|Ax rfl ?_ ?_
  ·intro h3b
   have h3:=dT h3b
   refine Aq<|Ad<|Ab<|A1<|Ab<|Ab<|Ac<|Ae rfl<|Ae rfl<|?_
   obtain ⟨Xe4,hXe4⟩:=Bc (xs:=ns) (i:=i) (by omega)
   obtain ⟨be4,oe4,_,Ie4,_,Ae4,hTe4⟩:=SN.at hXe4
   obtain ⟨nae4,nce4,rfl,h1e4,h2e4,h3e4,h4e4,h5e4,SIe4⟩:=hTe4
   have hNe4:Xe4.kind < 256∧Aw .i64 Xe4.at_∧Aw .i64 Xe4.count∧Aw .i64 Xe4.to∧Xe4.items.length≤9223372036854775807:=⟨h1e4,h2e4,h3e4,h4e4,h5e4⟩
   refine Ds Dd.k Bd Ie4 rfl rfl<|Ar (fun a F=>Ao Bd rfl (F.ev rfl) (cs:=[.int .u8 ((Xe4.kind:Nat):Int),.int .i64 Xe4.at_,.int .i64 Xe4.count,.int .i64 Xe4.to,.slice nae4 Xe4.items.length nce4]) rfl (M.cellsA Ae4 0 (by omega) rfl)) rfl<|Bw ent38 rfl rfl (Nr (x:=Xe4) M hNe4 SIe4)<|?_;clear M;rintro _ w M rfl
   refine Df rfl rfl<|Aa<|Ad<|Ax rfl ?_ ?_
   ·intro h5b
    have h5:=dT h5b
    refine Ab<|Ac<|Ae rfl<|Ae rfl<|?_
    obtain ⟨be6,oe6,_,Ie6,_,Ae6,hTe6⟩:=SN.at hXe4
    obtain ⟨nae6,nce6,rfl,h1e6,h2e6,h3e6,h4e6,h5e6,SIe6⟩:=hTe6
    have hNe6:Xe4.kind < 256∧Aw .i64 Xe4.at_∧Aw .i64 Xe4.count∧Aw .i64 Xe4.to∧Xe4.items.length≤9223372036854775807:=⟨h1e6,h2e6,h3e6,h4e6,h5e6⟩
    refine Ds Dd.k Bd Ie6 rfl rfl<|Ar (fun a F=>Ao Bd rfl (F.ev rfl) (cs:=[.int .u8 ((Xe4.kind:Nat):Int),.int .i64 Xe4.at_,.int .i64 Xe4.count,.int .i64 Xe4.to,.slice nae6 Xe4.items.length nce6]) rfl (M.cellsA Ae6 0 (by omega) rfl)) rfl<|Bw ent38 rfl rfl (Nr (x:=Xe4) M hNe6 SIe6)<|?_;clear M;rintro _ w M rfl
    refine Af rfl<|Af rfl<|Aa<|Ad<|Ak<|Au<|Bk<|Au<|Au<|Bk<|Au<|Gs rfl rfl rfl<|?_
    exact ⟨M,by rw [(Tm (by omega) hS hXe4 (by rw [Sn (by omega)];omega)).1,(Tm (by omega) hS hXe4 (by rw [Sn (by omega)];omega)).2,Sn (show D6 Xe4≠0 by omega)];try rfl⟩
   ·intro h7b
    have h7:=dF h7b
    refine Aq<|Ad<|Ab<|Ab<|?_
    have hne:D6 Xe4=0:=by have:=note_nn Xe4;omega
    have hkk:=(H0.1 hne).1
    refine Ac<|Ae rfl<|Ae rfl<|?_
    obtain ⟨be8,oe8,_,Ie8,_,Ae8,hTe8⟩:=SN.at hXe4
    obtain ⟨nae8,nce8,rfl,h1e8,h2e8,h3e8,h4e8,h5e8,SIe8⟩:=hTe8
    have hNe8:Xe4.kind < 256∧Aw .i64 Xe4.at_∧Aw .i64 Xe4.count∧Aw .i64 Xe4.to∧Xe4.items.length≤9223372036854775807:=⟨h1e8,h2e8,h3e8,h4e8,h5e8⟩
    refine Ds Dd.k Bd Ie8 rfl rfl<|A2 Bd.k rfl rfl<|C2 Bp M Ae8 4 rfl rfl rfl rfl<|B8 Bp.k rfl<|Df rfl rfl<|Aa<|Ad<|Ax rfl ?_ ?_
    ·intro h9b
     have h9:=dT h9b
     refine Ab<|Ac<|Af rfl<|Af rfl<|Aa<|Ad<|Ak<|Au<|Bk<|Au<|Au<|Bk<|Au<|Gs rfl rfl rfl<|?_
     exact ⟨M,by rw [(Tm (by omega) hS hXe4 (by rw [Kv hne,(Jw (by omega)).1];decide)).1,(Tm (by omega) hS hXe4 (by rw [Kv hne,(Jw (by omega)).1];decide)).2,Kv hne,(Jw (by omega)).1];try rfl⟩
    ·intro h10b
     have h10:=dF h10b
     refine Aq<|Ad<|Ab<|fun a F=>Fb [(.free,0),(.free,1),(.free,2),(.free,3),(.pure,4),(.free,5),(.free,6),(.free,7),(.free,8),(.pure,9),(.pure,10),(.keep,11),(.free,12),(.free,13)] [] (Keep G []) rfl (by kernel_rfl) (fun c a d v w h=>by cases d <;> exact h) ((M.drew _).keep (Gle.refl _) (by simp)) ?_
     replace M:=M.drew (w.drawn+1)
     revert a
     refine k_f (fun a F w _=>Cg F rfl) rfl<|k_f (fun a F w _=>Cg F rfl) rfl<|k_f (fun a F w _=>Cg F rfl) rfl<|?_
     obtain ⟨be11,oe11,_,Ie11,_,Ae11,hTe11⟩:=SN.at hXe4
     obtain ⟨nae11,nce11,rfl,h1e11,h2e11,h3e11,h4e11,h5e11,SIe11⟩:=hTe11
     have hNe11:Xe4.kind < 256∧Aw .i64 Xe4.at_∧Aw .i64 Xe4.count∧Aw .i64 Xe4.to∧Xe4.items.length≤9223372036854775807:=⟨h1e11,h2e11,h3e11,h4e11,h5e11⟩
     refine k_f (fun a F w _=>Ce Dd.k Bd (F.ev rfl) (F.ev rfl) (by omega) Ie11) rfl<|k_p (fun a F w M=>Ao Bd rfl (F.ev rfl) (cs:=[.int .u8 ((Xe4.kind:Nat):Int),.int .i64 Xe4.at_,.int .i64 Xe4.count,.int .i64 Xe4.to,.slice nae11 Xe4.items.length nce11]) rfl (M.cellsA Ae11 0 (by omega) rfl)) rfl<|k_f (fun a F w _=>Cg F rfl) rfl<|k_f (fun a F w _=>Cg F rfl) rfl<|?_
     obtain ⟨be12,oe12,_,Ie12,_,Ae12,hTe12⟩:=SN.at hXe4
     obtain ⟨nae12,nce12,rfl,h1e12,h2e12,h3e12,h4e12,h5e12,SIe12⟩:=hTe12
     have hNe12:Xe4.kind < 256∧Aw .i64 Xe4.at_∧Aw .i64 Xe4.count∧Aw .i64 Xe4.to∧Xe4.items.length≤9223372036854775807:=⟨h1e12,h2e12,h3e12,h4e12,h5e12⟩
     refine k_f (fun a F w _=>Ce Dd.k Bd (F.ev rfl) (F.ev rfl) (by omega) Ie12) rfl<|k_f (fun a F w _=>Cm Bd.k rfl F rfl) rfl<|k_p (fun a F w M=>Ap (agf Bp rfl) (F.ev rfl) (M.cellA Ae12 4 rfl rfl)) rfl<|k_p (fun a F w M=>Dm Bp.k (F.ev rfl)) rfl<|?_
     have hnu:=Ou (x:=Xe4) (sz:=((Xe4.items.length:Nat):Int)) hNe11.2.1 hNe11.2.2.1 hNe11.2.2.2.1 (Cu (by omega) (by omega))
     have hnl:=Afe hnu
     refine k_k rfl<|Bw ent81 rfl rfl (Xs (x:=Xe4) (sz:=((Xe4.items.length:Nat):Int)) M hNe11 SIe11 (Cu (by omega) (by omega)) (by omega))<|?_;clear M;rintro _ w M rfl
     refine Aa<|eK (C':=Keep G []) (M.keep (Gle.refl _) (by simp)) (fun w h=>h.mono (Gle.refl _) (by simp))<|k_f (fun a F w _=>Bu (F.ev rfl) (F.ev rfl) (by (first | omega | (simp only [List.length_append,List.length_cons,List.length_nil];omega)))) rfl<|k_f (fun a F w _=>Hg F rfl) rfl<|D1<|Ad<|Ab<|Ac<|Af rfl<|Aa<|Ad<|A1<|?_
     have hz2:Ct (ns.take i)++D7 Xe4 ((Xe4.items.length:Nat):Int)=Ct (ns.take i)++D7 Xe4 ((Xe4.items.length:Nat):Int)++Cx (Xe4.items.take 0):=by simp [Cx]
     intro a F
     rw [hz2] at F
     refine B2 (fun m a' w'=>∃ (k:Nat),m=Xe4.items.length - k∧Fits 82 a' [(0,.slice an ns.length cn),(5,.int .i64 ((i:Nat):Int)),(4,.string (str (Ct (ns.take i)++D7 Xe4 ((Xe4.items.length:Nat):Int)++Cx (Xe4.items.take k)))),(6,.int .i64 ((k:Nat):Int))]∧Mem w0 G (L) w'∧(k≤Xe4.items.length)∧(∀ (q:Nat) (y:ItemD),q < k→Xe4.items[q]?=some y→ItemOk 8 y)∧((Cx (Xe4.items.take k)).length≤301 * k)) _ ⟨0,rfl,F.to ⟨rfl,rfl,rfl,rfl,trivial⟩,M,Nat.zero_le _,fun q y h=>by omega,by simp [Cx]⟩ ?_
     clear F M
     rintro m a w ⟨k,rfl,F,M,hk,hA,hlk⟩
     revert a
     refine Ab<|Ab<|Ac<|Ae rfl<|Ae rfl<|Ae rfl<|?_
     obtain ⟨be13,oe13,_,Ie13,_,Ae13,hTe13⟩:=SN.at hXe4
     obtain ⟨nae13,nce13,rfl,h1e13,h2e13,h3e13,h4e13,h5e13,SIe13⟩:=hTe13
     have hNe13:Xe4.kind < 256∧Aw .i64 Xe4.at_∧Aw .i64 Xe4.count∧Aw .i64 Xe4.to∧Xe4.items.length≤9223372036854775807:=⟨h1e13,h2e13,h3e13,h4e13,h5e13⟩
     refine Ds Dd.k Bd Ie13 rfl rfl<|A2 Bd.k rfl rfl<|C2 Bp M Ae13 4 rfl rfl rfl rfl<|B8 Bp.k rfl<|C9 rfl rfl<|Aa<|Ad<|Ax rfl ?_ ?_
     ·intro h14b
      have h14:=dT h14b
      refine Aq<|Ad<|Ab<|A1<|Ab<|Ab<|Ac<|Ae rfl<|Ae rfl<|?_
      obtain ⟨be15,oe15,_,Ie15,_,Ae15,hTe15⟩:=SN.at hXe4
      obtain ⟨nae15,nce15,rfl,h1e15,h2e15,h3e15,h4e15,h5e15,SIe15⟩:=hTe15
      have hNe15:Xe4.kind < 256∧Aw .i64 Xe4.at_∧Aw .i64 Xe4.count∧Aw .i64 Xe4.to∧Xe4.items.length≤9223372036854775807:=⟨h1e15,h2e15,h3e15,h4e15,h5e15⟩
      refine Ds Dd.k Bd Ie15 rfl rfl<|A2 Bd.k rfl rfl<|C2 Bp M Ae15 4 rfl rfl rfl rfl<|Ae rfl<|?_
      obtain ⟨Xe16,hXe16⟩:=Bc (xs:=Xe4.items) (i:=k) (by omega)
      obtain ⟨be16,oe16,_,Ie16,_,Ae16,hTe16⟩:=SIe15.at hXe16
      obtain ⟨mae16,mce16,rfl,hke16,hte16,hxe16,hne16,SMe16⟩:=hTe16
      have hIe16:(Xe16.key < 18446744073709551616∧Xe16.typ < 256∧Xe16.text.length≤9223372036854775807):=⟨hke16,hte16,hxe16⟩
      refine Ds Bp.k Bf Ie16 rfl rfl<|Ar (fun a F=>Ao Bf rfl (F.ev rfl) (cs:=[.int .u64 ((Xe16.key:Nat):Int),.int .u8 ((Xe16.typ:Nat):Int),.string (str Xe16.text),.slice mae16 Xe16.marks.length mce16]) rfl (M.cellsA Ae16 0 (by omega) rfl)) rfl<|Bw ent57 rfl rfl (Py (x:=Xe16) (t:=8) M hIe16 SMe16)<|?_;clear M;rintro _ w M rfl
      refine Df rfl rfl<|Aa<|Ad<|Ax rfl ?_ ?_
      ·intro h17b
       have h17:=dT h17b
       refine Ab<|?_
       have hbad:¬ ItemOk 8 Xe16:=fun h_=>by have:=Dh h_;omega
       refine Ac<|Af rfl<|Af rfl<|Aa<|Ad<|Ak<|Au<|Bk<|Au<|Au<|Bk<|Bk<|Au<|Au<|Bk<|Au<|Gs rfl rfl rfl<|?_
       exact ⟨M,by rw [(Tm (by omega) hS hXe4 (by rw [Kv hne,(Jy (by omega) (Ih.no hXe16 hbad)).1];decide)).1,(Tm (by omega) hS hXe4 (by rw [Kv hne,(Jy (by omega) (Ih.no hXe16 hbad)).1];decide)).2,Kv hne,(Jy (by omega) (Ih.no hXe16 hbad)).1];try rfl⟩
      ·intro h18b
       have h18:=dF h18b
       refine Aq<|Ad<|?_
       have hokX:ItemOk 8 Xe16:=by first | exact Dp.1 (by omega) | exact itmF_le (by omega)
       refine Ac<|Ae rfl<|Ae rfl<|Ae rfl<|?_
       obtain ⟨be19,oe19,_,Ie19,_,Ae19,hTe19⟩:=SN.at hXe4
       obtain ⟨nae19,nce19,rfl,h1e19,h2e19,h3e19,h4e19,h5e19,SIe19⟩:=hTe19
       have hNe19:Xe4.kind < 256∧Aw .i64 Xe4.at_∧Aw .i64 Xe4.count∧Aw .i64 Xe4.to∧Xe4.items.length≤9223372036854775807:=⟨h1e19,h2e19,h3e19,h4e19,h5e19⟩
       refine Ds Dd.k Bd Ie19 rfl rfl<|A2 Bd.k rfl rfl<|C2 Bp M Ae19 4 rfl rfl rfl rfl<|Ae rfl<|?_
       obtain ⟨be20,oe20,_,Ie20,_,Ae20,hTe20⟩:=SIe19.at hXe16
       obtain ⟨mae20,mce20,rfl,hke20,hte20,hxe20,hne20,SMe20⟩:=hTe20
       have hIe20:(Xe16.key < 18446744073709551616∧Xe16.typ < 256∧Xe16.text.length≤9223372036854775807):=⟨hke20,hte20,hxe20⟩
       refine Ds Bp.k Bf Ie20 rfl rfl<|Ar (fun a F=>Ao Bf rfl (F.ev rfl) (cs:=[.int .u64 ((Xe16.key:Nat):Int),.int .u8 ((Xe16.typ:Nat):Int),.string (str Xe16.text),.slice mae20 Xe16.marks.length mce20]) rfl (M.cellsA Ae20 0 (by omega) rfl)) rfl<|Bw ent59 rfl rfl (Aae (x:=Xe16) M hIe20 SMe20 hokX)<|?_;clear M;rintro _ w M rfl
       have hlll21:=Le (x:=Xe16) hokX hIe20.1 hIe20.2.1
       refine Ar (fun a F=>Bu (F.ev rfl) (F.ev rfl) (by (first | omega | (simp only [List.length_append,List.length_cons,List.length_nil];omega)))) rfl<|Af rfl<|Aa<|C0<|Ad<|Ac<|Ae rfl<|B9 rfl rfl<|Af rfl<|Aa<|Ad<|?_
       have hsn:(Ct (ns.take i)++D7 Xe4 ((Xe4.items.length:Nat):Int)++Cx (Xe4.items.take k))++(Dj Xe16++[10])=Ct (ns.take i)++D7 Xe4 ((Xe4.items.length:Nat):Int)++Cx (Xe4.items.take (k+1)):=by rw [Mo hXe16];simp only [List.append_assoc]
       intro a F
       rw [hsn] at F
       exact ⟨_,by omega,k+1,rfl,F.to ⟨rfl,rfl,rfl,rfl,trivial⟩,M,by omega,E9 hA hXe16 hokX,by rw [Mo hXe16];simp only [List.length_append,List.length_cons,List.length_nil];omega⟩
     ·intro h22b
      have h22:=dF h22b
      refine B5<|B0<|B0<|Dr<|C0<|Ad<|Ac<|Ae rfl<|B9 rfl rfl<|Af rfl<|Aa<|Ad<|?_
      have hsn:Ct (ns.take i)++D7 Xe4 ((Xe4.items.length:Nat):Int)++Cx (Xe4.items.take k)=Ct (ns.take (i+1)):=Aeq hXe4 (by omega)
      intro a F
      rw [hsn] at F
      exact ⟨_,by omega,i+1,rfl,F.to ⟨rfl,rfl,rfl,trivial⟩,M,by omega,by rw [Gf hS,Pa hXe4,Kv hne];exact (Qf (by omega) (Ej hA (by omega))).1,by rw [← hsn];simp only [List.length_append];omega⟩
  ·intro h23b
   have h23:=dF h23b
   refine B5<|B0<|B0<|Dr<|Ad<|Ab<|Ab<|Ac<|Ae rfl<|Ar (fun a F=>Cr Bq.k (F.ev rfl)) rfl<|Df rfl rfl<|Aa<|Ad<|Ax rfl ?_ ?_
   ·intro h24b
    have h24:=dT h24b
    refine Ab<|Ac<|Af rfl<|Af rfl<|Aa<|Ad<|Ak<|Au<|Gs rfl rfl rfl<|?_
    exact ⟨M,by rw [(V7 (by omega) hS (by omega) (by omega)).1,(V7 (by omega) hS (by omega) (by omega)).2];try rfl⟩
   ·intro h25b
    have h25:=dF h25b
    refine Aq<|Ad<|Ab<|Ac<|Ae rfl<|Af rfl<|Af rfl<|Aa<|Ad<|Ak<|Gs rfl rfl rfl<|?_
    exact ⟨M,by rw [(Aht (by omega) hS (by omega) (by omega)).1,(Aht (by omega) hS (by omega) (by omega)).2];try rfl⟩
end Go.Proofs.YtmmhmcplegpenaaGreatDoor
