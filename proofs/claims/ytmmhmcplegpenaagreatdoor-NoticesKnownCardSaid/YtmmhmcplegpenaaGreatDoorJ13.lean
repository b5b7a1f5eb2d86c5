/- Own lemmas and walks. -/
import Derived.Test.YtmmhmcplegpenaaGreatDoorJ11
import Derived.Lib.ItoaMem
import Derived.Test.YtmmhmcplegpenaaGreatDoorJ12
import Derived.Lib.AtoiAll
set_option linter.unusedSimpArgs false
set_option linter.unusedVariables false
set_option maxRecDepth 10000
set_option maxHeartbeats 1600000
open Go.Value renaming slice→vS,string→vT,int→vI,bool→vB,pointer→vP
open Go.IntKind renaming i64→kI,u64→kU
open Go.Lib renaming cut→xC
open Go.Proofs.Tryz renaming prog→pG
open Go.Y.Res renaming blk→rB,row→rR
open Go.Y (pP qT iI iB iU sN)
open List renaming length_append→lA,length_cons→lC,length_nil→lN,length_take→lT,length_drop→lD,mem_of_getElem?→mG,mem_cons→mC,length_map→lM
namespace Go.Proofs.YtmmhmcplegpenaaGreatDoor
open Go Go.Y Go.RowKit
def fm {α:Type} (l:List (Bool × α)):List α:=(l.filter (·.1)).map (·.2)
section
variable {ρ:Operand→Value} {P:Program} {d:Option Tmp} {t:TypeId} {p:String} {af:Array Edge} {g:Option (Nat × Bool)} {w:World}
theorem Awo {x:Operand} {ty:TypeId} {k:IntKind} {a:Int} (D:ρ x=vI k a) (h:Al k (-a)):(execOp ρ ⟨d,.unOp .neg ty x,t,p,af,g⟩).run P w=.ok (.value (vI k (-a))) w:=by
 have A:=K7 h
 simp [execOp,D,Op.unary,Op.intArith,A]
end
theorem Pt {α:Type} {l:List (Bool × α)} {i:Nat} {x:Bool × α} (h:l[i]?=some x):fm (l.take (i+1))=fm (l.take i)++(if x.1=true then [x.2] else []):=by
 unfold fm;rw [List.take_add_one,h];simp only [Option.toList_some,List.filter_append,List.map_append]
 congr 1
 by_cases hx:x.1=true
 ·simp [hx]
 simp [hx]
theorem Tq {α:Type} (l:List (Bool × α)):(fm l).length≤l.length:=by
 unfold fm;rw [lM];exact List.length_filter_le _ _
def Hh (k b b2:Nat):List (Bool × (Nat × Nat)):=[(decide (uAt k),(b,1)),(decide (uCo k),(b,2)),(decide (uTo k),(b,3)),(decide (uIt k),(b2,0))]
def nuK (x:NotD) (sz:Int):List (Bool × Int):=[(decide (uAt x.kind),x.at_),(decide (uCo x.kind),x.count),(decide (uTo x.kind),x.to),(decide (uIt x.kind),sz)]
def Axf:Rd (Nat × Nat):=fun _ cs p=>cs=[vP (some ⟨p.1,p.2,none⟩)]
theorem Mg:Hx Axf:=fun _ _ _ _ _ h=>h
def rdUP:Rd (Bool × (Nat × Nat)):=fun _ cs p=>cs=[vB p.1,vP (some ⟨p.2.1,p.2.2,none⟩)]
theorem Arz:Hx rdUP:=fun _ _ _ _ _ h=>h
theorem els_ups {G:Av} {a b c d:Bool} {A b2 D E H I N O:Nat}:Els rdUP 2 G [vB a,vP (some ⟨A,H,none⟩),vB b,vP (some ⟨b2,I,none⟩),vB c,vP (some ⟨D,N,none⟩),vB d,vP (some ⟨E,O,none⟩)] [(a,(A,H)),(b,(b2,I)),(c,(D,N)),(d,(E,O))] :=
 ⟨[vB a,vP (some ⟨A,H,none⟩)],_,rfl,rfl,rfl,[vB b,vP (some ⟨b2,I,none⟩)],_,rfl,rfl,rfl,[vB c,vP (some ⟨D,N,none⟩)],_,rfl,rfl,rfl,[vB d,vP (some ⟨E,O,none⟩)],[],rfl,rfl,rfl,rfl⟩
theorem els_pt {G:Av} {p:Nat × Nat}:Els Axf 1 G [vP (some ⟨p.1,p.2,none⟩)] [p]:=⟨[vP (some ⟨p.1,p.2,none⟩)],[],rfl,rfl,rfl,rfl⟩
theorem fld_get {x:NotD} {b b2 i:Nat} {sz:Int} {p:Nat × Nat} (h:(fm (Hh x.kind b b2))[i]?=some p) :
  ∃ z,(fm (nuK x sz))[i]?=some z∧((p=(b,1)∧z=x.at_)∨(p=(b,2)∧z=x.count)∨(p=(b,3)∧z=x.to)∨(p=(b2,0)∧z=sz)):=by
 unfold Hh fm at h;unfold nuK fm
 rcases bE (decide (uAt x.kind)) with A | A <;> rcases bE (decide (uCo x.kind)) with D | D <;>
 rcases bE (decide (uTo x.kind)) with E | E <;> rcases bE (decide (uIt x.kind)) with H | H <;> rw [A,D,E,H] at h ⊢ <;>
 simp only [List.filter_cons,List.filter_nil,if_true,if_false,Bool.false_eq_true,List.map_cons,List.map_nil] at h ⊢ <;>
 rcases i with _ | _ | _ | _ | i <;> simp only [List.getElem?_cons_zero,List.getElem?_cons_succ,List.getElem?_nil,Option.some.injEq,reduceCtorEq] at h <;>
 first | contradiction | (subst h;exact ⟨_,rfl,by simp⟩)
theorem Ve {x:NotD} {b b2:Nat} {sz:Int}:(fm (Hh x.kind b b2)).length=(fm (nuK x sz)).length:=by
 unfold Hh nuK fm
 rcases bE (decide (uAt x.kind)) with A | A <;> rcases bE (decide (uCo x.kind)) with D | D <;>
 rcases bE (decide (uTo x.kind)) with E | E <;> rcases bE (decide (uIt x.kind)) with H | H <;> rw [A,D,E,H] <;> rfl
def Bn (zs:List Int):List UInt8:=zs.flatMap fun z=>32::Lib.itoa z
theorem Aiu {zs:List Int} {i:Nat} {z:Int} (h:zs[i]?=some z):Bn (zs.take (i+1))=Bn (zs.take i)++(32::Lib.itoa z):=by
 unfold Bn;rw [List.take_add_one,h];simp
theorem Aqg {a b:List Int}:Bn (a++b)=Bn a++Bn b:=by unfold Bn;simp
def Cm (x:NotD) (sz:Int):List UInt8:=Cb x.kind++Bn (fm (nuK x sz))++[10]
def It (x:NotD):List UInt8:=Cm x ((x.iZ.length:Nat):Int)++Ce x.iZ
def Bz (l:List NotD):List UInt8:=l.flatMap It
theorem Wy {l:List NotD} {i:Nat} {x:NotD} (h:l[i]?=some x):Bz (l.take (i+1))=Bz (l.take i)++It x:=by
 unfold Bz;rw [List.take_add_one,h];simp
def Fz (x:NotD):Int:=if Dm x≠0 then Dm x else K9 x.iZ
def Ot (l:List NotD) (i:Nat):Int:=match l[i]? with
 | some x=>Fz x
 | none=>0
theorem Tt {l:List NotD} {i:Nat} {x:NotD} (h:l[i]?=some x):Ot l i=Fz x:=by unfold Ot;rw [h]
def Dk (l:List NotD):Int:=if 32 < l.length then 3 else if Bv (Ot l) l.length≠0 then Bv (Ot l) l.length else if 1048576 < (Bz l).length then 3 else 0
def D2 (l:List NotD):List UInt8:=if Dk l=0 then Bz l else []
section
variable {l:List NotD} {i:Nat} {x:NotD}
theorem Axt (h:32 < l.length):Dk l=3∧D2 l=[]:=by
 have A:Dk l=3:=by unfold Dk;rw [if_pos h]
 exact ⟨A,by unfold D2;rw [if_neg tM]⟩
theorem Ww (h:¬ 32 < l.length) (I:Bv (Ot l) i=0) (E:l[i]?=some x) (D:Fz x≠0):Dk l=Fz x∧D2 l=[]:=by
 have A:=Kz I (A3 E) (by rw [Tt E];exact D);rw [Tt E] at A;have H:Dk l=Fz x:=by unfold Dk;rw [if_neg h,if_pos (by rw [A];exact D),A]
 exact ⟨H,by unfold D2;rw [if_neg (by rw [H];exact D)]⟩
theorem Wx (h:¬ 32 < l.length) (E:Bv (Ot l) i=0) (H:i=l.length) (A:1048576 < (Bz (l.take i)).length):Dk l=3∧D2 l=[]:=by
 subst H;rw [List.take_length] at A;have D:Dk l=3:=by unfold Dk;rw [if_neg h,if_neg (not_not_intro E),if_pos A]
 exact ⟨D,by unfold D2;rw [if_neg tM]⟩
theorem Axu (h:¬ 32 < l.length) (E:Bv (Ot l) i=0) (H:i=l.length) (D:¬ 1048576 < (Bz (l.take i)).length):Dk l=0∧D2 l=Bz (l.take i):=by
 subst H;rw [List.take_length] at D ⊢;have A:Dk l=0:=by unfold Dk;rw [if_neg h,if_neg (not_not_intro E),if_neg D]
 exact ⟨A,by unfold D2;rw [if_pos A]⟩
end
theorem O7 {l:List ItemD} (h:K9 l=0):(l.length≤1024∧Ih l)∧Np l=Ce l:=by
 by_cases h1:1024 < l.length
 ·rw [(Kj h1).1] at h;cases h
 by_cases h2:Ih l
 ·exact ⟨⟨tM,h2⟩,(Mt tM h2).2⟩
 rw [(Ma tM h2).1] at h;cases h
theorem Xy {x:NotD} (h:Dm x≠0):Fz x=Dm x:=by unfold Fz;rw [if_pos h]
theorem Jy {x:NotD} (h:Dm x=0):Fz x=K9 x.iZ:=by unfold Fz;rw [if_neg (not_not_intro h)]
theorem Ait {k:List UInt8} {zs:List Int} {i:Nat} {z:Int} (h:zs[i]?=some z):k++Bn (zs.take i)++([32]++Lib.itoa z)=k++Bn (zs.take (i+1)):=by
 rw [Aiu h];simp only [List.append_assoc,List.cons_append,List.nil_append]
theorem Axw {l:List NotD} {i:Nat} {x:NotD} (h:l[i]?=some x) {zs:List Int} {j:Nat} (E:zs=fm (nuK x ((x.iZ.length:Nat):Int))) (A:zs.length≤j) {t:List UInt8} (D:t=Ce x.iZ) :
  Bz (l.take i)++Cb x.kind++Bn (zs.take j)++([10]++t)=Bz (l.take (i+1)):=by
 subst E D;rw [List.take_of_length_le A,Wy h];simp only [It,Cm,List.append_assoc,List.cons_append,List.nil_append]
def W7:List (List UInt8):=[Cb 0,Cb 1,Cb 2,Cb 3,Cb 4,Cb 5]
theorem Aoh {k:Nat} (h:k≤5):W7[k]?=some (Cb k):=by
 rcases (show k=0∨k=1∨k=2∨k=3∨k=4∨k=5 by omega) with rfl | rfl | rfl | rfl | rfl | rfl <;> rfl
def nS (x:NotD) (sz:Int) (i:Nat):Int:=match i with
 | 0=>x.at_
 | 1=>x.count
 | 2=>x.to
 | _=>sz
theorem nS_cell {x:NotD} {sz:Int} {i:Nat} (h:i < 4):([nS x sz 0,nS x sz 1,nS x sz 2,nS x sz 3]:List Int)[i]?=some (nS x sz i):=by
 rcases (show i=0∨i=1∨i=2∨i=3 by omega) with rfl | rfl | rfl | rfl <;> rfl
theorem Akx {x:NotD} {sz:Int} {i:Nat} (A:Al .i64 x.at_) (D:Al .i64 x.count) (E:Al .i64 x.to) (H:Al .i64 sz):Al .i64 (nS x sz i):=by
 unfold nS;split <;> assumption
theorem u_one {p:Prop} [Decidable p]:(if p then (1:Int) else 0)=1↔p:=by split <;> simp_all
theorem Axs {x:NotD} {sz:Int} {i:Nat} (h:i < 4):(nuK x sz)[i]?=some (decide (uG x.kind i=1),nS x sz i):=by
 rcases (show i=0∨i=1∨i=2∨i=3 by omega) with rfl | rfl | rfl | rfl <;> simp only [nuK,uG,nS,u_one,List.getElem?_cons_zero,List.getElem?_cons_succ]
theorem Ayr {x:NotD} {sz:Int} {i:Nat} (h:i < 4) (A:uG x.kind i=1):Cb x.kind++Bn (fm ((nuK x sz).take i))++[32]++Lib.itoa (nS x sz i)=Cb x.kind++Bn (fm ((nuK x sz).take (i+1))):=by
 rw [Pt (Axs h),if_pos (decide_eq_true A),Aqg]
 simp [Bn]
theorem line_no {x:NotD} {sz:Int} {i:Nat} (h:i < 4) (A:¬ uG x.kind i=1):Cb x.kind++Bn (fm ((nuK x sz).take i))=Cb x.kind++Bn (fm ((nuK x sz).take (i+1))):=by
 rw [Pt (Axs h),if_neg (by rw [decide_eq_false A];exact Bool.false_ne_true),List.append_nil]
theorem Ayt {x:NotD} {sz:Int} {i:Nat} (h:4≤i):Cb x.kind++Bn (fm ((nuK x sz).take i))++[10]=Cm x sz:=by
 rw [List.take_of_length_le (show (nuK x sz).length≤i from h)];rfl
theorem itoa_m {z:Int} {u:Nat} (h:z < 0) (A:(u:Int) = -z):[45]++Lib.decDigits u=Lib.itoa z:=by
 have:z = -(u:Int):=by omega
 subst this;rw [Lib.itoa_neg u tM];rfl
theorem itoa_p {z:Int} {u:Nat} (A:(u:Int)=z):Lib.decDigits u=Lib.itoa z:=by subst A;rw [Lib.itoa_nonneg]
theorem Art {l:List NotD} {i:Nat} {x:NotD} (h:l[i]?=some x) {j:Nat} (A:x.iZ.length≤j) :
  Bz (l.take i)++Cm x ((x.iZ.length:Nat):Int)++Ce (x.iZ.take j)=Bz (l.take (i+1)):=by
 rw [List.take_of_length_le A,Wy h];simp only [It,List.append_assoc]
theorem Me (k:Nat):(Cb k).length≤6:=by unfold Cb;split <;> simp
theorem Xm {z:Int} (h:Al .i64 z):(Lib.itoa z).length≤21:=by
 obtain ⟨A,D⟩:=h;have A:-9223372036854775808≤z:=A;have D:z≤9223372036854775807:=D;unfold Lib.itoa
 split
 ·have:=C7 z.natAbs tM;simp only [lC,lA,lN];omega
 have:=C7 z.toNat tM
 omega
theorem J9:∀ {zs:List Int},(∀ z∈zs,Al .i64 z)→(Bn zs).length≤22 * zs.length
 | [],_=>by simp [Bn]
 | z::zs,h=>by
  have h1:=Xm (h z (by simp));have h2:=J9 (zs:=zs) fun y hy=>h y (by simp [hy]);simp only [Bn,List.flatMap_cons,lA,lC] at h2 ⊢
  omega
theorem Oh {x:NotD} {sz:Int} (E:Al .i64 x.at_) (H:Al .i64 x.count) (I:Al .i64 x.to) (N:Al .i64 sz):∀ z∈fm (nuK x sz),Al .i64 z:=by
 intro z D;unfold fm nuK at D;simp only [List.mem_map,List.mem_filter,mC,List.not_mem_nil,or_false] at D;obtain ⟨⟨b,y⟩,⟨A | A | A | A,_⟩,rfl⟩:=D <;> (simp only [Prod.mk.injEq] at A;obtain ⟨_,rfl⟩:=A;assumption)
theorem Th {x:NotD} {sz:Int} (h:∀ z∈fm (nuK x sz),Al .i64 z):(Cm x sz).length≤95:=by
 have A:=J9 h;have D:=Tq (nuK x sz);have E:(nuK x sz).length=4:=rfl;have H:=Me x.kind;simp only [Cm,lA,lC,lN];omega
open Go Go.Y Go.Proofs
variable {w0 w:World} {G:Av} {L:List Res}
theorem Ahn (M:Mem w0 G L w) (HG:Globs 0 1 2 3 G) {z:Int} (A:Al .i64 z):Calls pG 133 #[iI z] w (B5 w0 G L fun v=>v=qT (Lib.itoa z)):=by
 refine Ap (vs:=[_]) Tryz.func133 rfl (n:=5) rfl rfl<|wk ?_;refine A2 A0v rfl rfl (Aho (n:=z) M HG (by first | assumption | exact ⟨tD,tD⟩ | exact wrap_ink _ _ | exact Bi tM tM))<|?_;clear M;rintro _ w M rfl
 refine wk ?_;refine Af rfl rfl<|?_
 exact ⟨M,rfl⟩
theorem Xn (M:Mem w0 G L w) (HG:Globs 0 1 2 3 G) {z:Int} (A:Al .i64 z):Calls pG 83 #[iI z] w (B5 w0 G L fun v=>v=qT (Lib.itoa z)):=by
 refine Ap (vs:=[_]) Tryz.func83 rfl (n:=5) rfl rfl<|wk ?_;refine A2 A1c rfl rfl (Ahn (z:=z) M HG A)<|?_;clear M;rintro _ w M rfl
 refine wk ?_;refine Af rfl rfl<|?_
 exact ⟨M,rfl⟩
theorem Avg {w0 w:World} {G:Av} {L:List Res} {b n c:Nat} {ad:Option Addr} {l:List UInt8} {p:Value} (M:Mem w0 G (rB b [p,vS ad n c] 101::rR (vS ad n c) n (bc l) 5 1::L) w) (A:n=l.length) :
  Calls pG 84 #[pP b] w (B5 w0 G (rB b [p,vS ad n c] 101::rR (vS ad n c) n (bc l) 5 1::L) fun v=>v=iI ((l.length:Nat):Int)):=by
 refine Ap (vs:=[_]) Tryz.func84 rfl (n:=8) rfl rfl<|wk ?_;refine Af rfl rfl<|?_
 exact ⟨M,by rw [A]⟩
theorem Z4 (M:Mem w0 G L w) {k b b2:Nat}:Calls pG 82 #[.agg #[qT (Cb k),vB (decide (uAt k)),vB (decide (uCo k)),vB (decide (uTo k)),vB (decide (uIt k)),.func (.func (Gs k)) #[] #[]],pP b,pP b2] w (Ret w0 G L fun G' v=>∃ (a:Option Addr) (cc:Nat),v=vS a (fm (Hh k b b2)).length cc∧Aj Axf 1 G' (vS a (fm (Hh k b b2)).length cc) (fm (Hh k b b2))):=by
 refine Ap (vs:=[_,_,_]) Tryz.func82 rfl (n:=47) rfl rfl<|?_
 refine Bt<|?_
 refine Ch M rfl rfl rfl<|?_;clear M;intro b1 w M
 refine wk ?_;refine fun a F=>Dv [(true,0),(true,1),(true,2),(true,3),(true,4),(true,5),(true,6),(true,7),(true,8),(true,9),(true,10),(true,11),(true,12),(true,13),(true,14),(true,15),(true,16),(true,17),(true,18),(true,19),(true,20),(true,21),(true,24),(false,22),(true,23)] (Keep G [rB b1 [qT (Cb k),vB (decide (uAt k)),vB (decide (uCo k)),vB (decide (uTo k)),vB (decide (uIt k)),.func (.func (Gs k)) #[] #[]] 138]) rfl kR kF (Aw (M.drew _)) ?_;replace M:=M.drew (w.drawn+1);revert a;refine wk ?_;refine l_r (fun a F w M=>Am (cs:=[vB (decide (uAt k)),vP (some ⟨b,0+1,none⟩)]) I8.k rfl I8 (F.evp rfl) rfl) rfl<|wk ?_;refine l_r (fun a F w M=>Am (cs:=[vB (decide (uCo k)),vP (some ⟨b,0+2,none⟩)]) I8.k rfl I8 (F.evp rfl) rfl) rfl<|wk ?_;refine l_r (fun a F w M=>Am (cs:=[vB (decide (uTo k)),vP (some ⟨b,0+3,none⟩)]) I8.k rfl I8 (F.evp rfl) rfl) rfl<|wk ?_;refine l_r (fun a F w M=>Am (cs:=[vB (decide (uIt k)),pP b2]) I8.k rfl I8 (F.evp rfl) rfl) rfl<|wk ?_;refine l_a rfl<|?_
 intro a F;refine Bw F M Avy.k I8 (ps:=[(0,.agg #[vB (decide (uAt k)),vP (some ⟨b,0+1,none⟩)]),(1,.agg #[vB (decide (uCo k)),vP (some ⟨b,0+2,none⟩)]),(2,.agg #[vB (decide (uTo k)),vP (some ⟨b,0+3,none⟩)]),(3,.agg #[vB (decide (uIt k)),pP b2])]) (cs:=[[vB (decide (uAt k)),vP (some ⟨b,0+1,none⟩)],[vB (decide (uCo k)),vP (some ⟨b,0+2,none⟩)],[vB (decide (uTo k)),vP (some ⟨b,0+3,none⟩)],[vB (decide (uIt k)),pP b2]]) (fl:=[vB (decide (uAt k)),vP (some ⟨b,0+1,none⟩),vB (decide (uCo k)),vP (some ⟨b,0+2,none⟩),vB (decide (uTo k)),vP (some ⟨b,0+3,none⟩),vB (decide (uIt k)),pP b2]) rfl rfl (by simp [Gt,Value.cells]) (by simp [Awc]) rfl tS tD tD rfl ?_;clear F M a;intro v2 w a M F;obtain ⟨V,ab,rfl,an,al,au⟩:=M.rS (k:=0) rfl;revert a;refine Ao<|?_
 refine eQ (Aw M)<|?_
 have Eu:Els rdUP 2 G [vB (decide (uAt k)),vP (some ⟨b,0+1,none⟩),vB (decide (uCo k)),vP (some ⟨b,0+2,none⟩),vB (decide (uTo k)),vP (some ⟨b,0+3,none⟩),vB (decide (uIt k)),pP b2] (Hh k b b2):=els_ups;refine wk ?_;have M:=M.nilrow 150 1;replace M:=z_M M;intro a F;refine Bd (fun m a' w'=>∃ (i:Nat),∃ (ar:Option Addr),∃ (S:Nat),∃ (cr:Nat),∃ (E:List Value),m=4 - i∧Fits 47 a' [(32,vS V 4 (ab)),(33,iI ((4:Nat):Int)),(7,vS ar S cr),(34,iI ((i:Nat):Int))]∧Mem w0 G (rR (vS ar S cr) (S) (E) 150 1::rR (vS V 4 (ab)) 4 ([vB (decide (uAt k)),vP (some ⟨b,0+1,none⟩),vB (decide (uCo k)),vP (some ⟨b,0+2,none⟩),vB (decide (uTo k)),vP (some ⟨b,0+3,none⟩),vB (decide (uIt k)),pP b2]) 215 2::rB b1 [qT (Cb k),vB (decide (uAt k)),vB (decide (uCo k)),vB (decide (uTo k)),vB (decide (uIt k)),.func (.func (Gs k)) #[] #[]] 138::L) w'∧(i≤4)∧(Els Axf 1 G E (fm ((Hh k b b2).take i)))∧(S≤i)) _ ⟨0,none,0,0,[],rfl,fU,M,tM,Els.nil,tM⟩ ?_;clear F M;rintro m a w ⟨i,ar,S,cr,E,rfl,F,M,hi,Er,a3⟩;revert a;refine wk ?_;refine qD rfl ?_ ?_
 ·intro h3;refine wk ?_;obtain ⟨A,D⟩:=Aq (xs:=(Hh k b b2)) (i:=i) (by (show i < 4;omega));obtain ⟨az,_,ax,aw,_,ai,rfl⟩:=M.atRow (k:=1) rfl tD Eu D;refine wk ?_;refine Ak (fun a F=>Cv I8 rfl (F.ev rfl) (cs:=[vB (A.1),vP (some ⟨A.2.1,A.2.2,none⟩)]) rfl (Yg ai 0 tM rfl)) rfl<|B0 M I8 rfl rfl<|?_;clear M;intro b5 w M
  intro a F;refine Bf F M I8 0<|sZ ?_;clear F M a;intro w M;refine wk ?_;refine Ag rfl ?_ ?_
  ·intro ak;have h7:(A.1)=true:=ak;refine wk ?_;intro a F;refine Ar F M Ajg.k Ajf rfl rfl (cs:=[vP (some ⟨A.2.1,A.2.2,none⟩)]) rfl rfl tS tD rfl ?_;clear F M a;intro v8 w a M F;obtain ⟨ay,a0,rfl,ao,am,av⟩:=M.rS (k:=0) rfl;have aj:Els Axf 1 G [vP (some ⟨A.2.1,A.2.2,none⟩)] [A.2]:=els_pt;refine A4 F M (k:=2) (k2:=0) rfl rfl Ajg.k Ajf rfl rfl tD rfl rfl tX tO rfl ?_;clear F M a;intro a4 w a M F;have T:=Els.append Er aj;obtain ⟨U,aa,rfl,ah,ag,ap⟩:=M.rS (k:=2) rfl;revert a;refine wk ?_;intro a F
   exact ⟨_,tM,i+1,(U),(S+1),(aa),E++([vP (some ⟨A.2.1,A.2.2,none⟩)]),rfl,fU,(M.wn tW),tM,by have h_:=T;first | (rw [Pt D,if_pos tA];exact h_) | (rw [Pt D,if_neg (by simp_all),List.append_nil];exact h_),tM⟩
  intro ae;have a1:(A.1)=false:=ae;refine wk ?_;intro a F
  exact ⟨_,tM,i+1,(ar),(S),(cr),E,rfl,fU,(M.wn tW),tM,by have h_:=Er;first | (rw [Pt D,if_pos tA];exact h_) | (rw [Pt D,if_neg (by simp_all),List.append_nil];exact h_),tM⟩
 intro a2;refine wk ?_;intro a F;rw [List.take_of_length_le (show (Hh k b b2).length≤i by show 4≤i;omega)] at Er;obtain ⟨O,aq,Y,ac,H,N,I,M⟩:=M.fZ Mg (k:=0) rfl Er tD;clear N Y ac;rw [O] at F I;revert a;refine wk ?_;refine Af rfl rfl<|?_
 exact ⟨_,H,M.wn dS2,_,_,rfl,I⟩
theorem H5 {w0 w:World} {G:Av} {L:List Res} (M:Mem w0 G L w) (HG:Globs 0 1 2 3 G) {an:Option Addr} {cn:Nat} {ns:List NotD} (SN:Aj Ct 5 G (vS an ns.length cn) ns):Calls pG 32 #[vS an ns.length cn] w (Ret w0 G L fun G' v=>v=.tuple #[qT (D2 ns),iI (Dk ns)]):=by
 have bN:=SN.bound;refine Ap (vs:=[_]) Tryz.func32 rfl (n:=68) rfl rfl<|wk ?_;refine qD rfl ?_ ?_
 ·intro h1;refine wk ?_;refine Co rfl rfl rfl<|?_
  exact ⟨_,(Gle.refl _),M,by rw [(Axt tM).1,(Axt tM).2];try rfl⟩
 intro h2;refine wk ?_;refine B0 M Ss rfl rfl<|?_;clear M;intro b3 w M
 refine wk ?_;replace M:=z_M M;have M:=(M.nilrow 5 1).perm (List.Perm.swap _ _ _);intro a F;rw [show ([]:List Value)=bc [] from rfl] at M;revert a;refine wk ?_;have bg:([]:List UInt8)=Bz (ns.take 0):=by simp [Bz]
 intro a F;rw [bg] at M;refine Bd (fun m a' w'=>∃ (i:Nat),∃ (am:Option Addr),∃ (nm:Nat),∃ (cm:Nat),∃ (pm:Value),m=ns.length - i∧∃ G5,Gle G G5∧Fits 68 a' [(4,pP b3),(17,vS an ns.length cn),(18,iI ((ns.length:Nat):Int)),(19,iI ((i:Nat):Int))]∧Mem w0 G5 (rB b3 [pm,vS am nm cm] 101::rR (vS am nm cm) (nm) (bc (Bz (ns.take i))) 5 1::L) w'∧(i≤ns.length)∧(Bv (Ot ns) i=0)∧((Bz (ns.take i)).length≤320000 * i)∧(pm=vP none∨pm=pP b3)∧(nm=(Bz (ns.take i)).length)∧((Bz (ns.take i))=[]→am=none)) _ ⟨0,(none),(0),(0),(vP none),rfl,G,Gle.refl _,fU,M,Nat.zero_le _,rfl,by simp [Bz],(Or.inl rfl),rfl,(fun _=>rfl)⟩ ?_;clear F M;rintro m a w ⟨i,am,nm,cm,pm,rfl,G5,U,F,M,hi,hS,bl,ba,ax,ah⟩;replace HG:=HG.mono U;replace SN:=SN.mono Aa U;revert a;refine wk ?_;refine qD rfl ?_ ?_
 ·intro h6;refine wk ?_;obtain ⟨A,I⟩:=Aq (xs:=ns) (i:=i) tM;obtain ⟨bo,b5,_,bn,_,Ae7,aJ⟩:=SN.at I;obtain ⟨ao,ap,rfl,aE,aF,aG,aH,aI,SIe7⟩:=aJ;have H:A.kind < 256∧Al .i64 A.at_∧Al .i64 A.count∧Al .i64 A.to∧A.iZ.length≤9223372036854775807:=⟨aE,aF,aG,aH,aI⟩;refine wk ?_;refine B0 M Ba rfl rfl<|?_;clear M;intro V w M
  intro a F;refine Bf F M Ba 0 ?_;clear F M a;intro w a M F;revert a;refine Ca<|Bt<|Vw Ba M 0 rfl rfl rfl rfl<|?_
  refine A2 Ahw rfl rfl (Ia (x:=A) M H SIe7)<|?_;clear M;rintro _ w M rfl
  refine Dq rfl<|Bt<|Cd rfl<|Awi rfl rfl<|Ao<|Gd<|?_
  refine Ag rfl ?_ ?_
  ·intro aA;have bp:=dF (Ad aA);refine Bt<|Cd rfl<|Dq rfl<|Dq rfl<|Fl<|Fu<|Iw<|Fu<|Fu<|Iw<|Fu<|?_
   refine Co rfl rfl rfl<|?_
   exact ⟨_,U,M.wn dS3,by rw [(Ww tM hS I (by rw [Xy tM];omega)).1,(Ww tM hS I (by rw [Xy tM];omega)).2,Xy (show Dm A≠0 by omega)];try rfl⟩
  intro aB;have bq:=dT (Ae aB);refine D8<|Ca<|?_
  have Y:Dm A=0:=by omega
  refine Hg<|Io Ba.k rfl rfl<|Ns Ci M 0 rfl rfl rfl rfl<|?_
  refine A2 ent11 rfl rfl (Aqi (xs:=A.iZ) M HG SIe7)<|?_;clear M;rintro _ w M rfl
  refine Cd rfl<|s_ex rfl rfl<|s_ex rfl rfl<|Dq rfl<|Dq rfl<|Ca<|Bt<|Cd rfl<|Awi rfl rfl<|Ao<|Gd<|?_
  refine Ag rfl ?_ ?_
  ·intro aC;have br:=dF (Ad aC);refine Bt<|Cd rfl<|Dq rfl<|Dq rfl<|Fl<|Fu<|Iw<|Fu<|Fu<|Iw<|Fu<|?_
   refine Co rfl rfl rfl<|?_
   exact ⟨_,U,M.wn dS3,by rw [(Ww tM hS I (by rw [Jy Y];omega)).1,(Ww tM hS I (by rw [Jy Y];omega)).2,Jy Y];try rfl⟩
  intro aD;have bt:=dT (Ae aD);refine D8<|Ca<|?_
  have aa:=O7 (l:=A.iZ) tM;have ay:=Zh aa.1.2 (Vb SIe7);intro a F;rw [← aa.2] at ay;have aY:=(Ft.1 Y).1;have aq:=Me A.kind;have ar:=Oh (x:=A) (sz:=((A.iZ.length:Nat):Int)) H.2.1 H.2.2.1 H.2.2.2.1 (Bi tM tM);have ae:=Tq (nuK A ((A.iZ.length:Nat):Int));rw [show (nuK A ((A.iZ.length:Nat):Int)).length=4 from rfl] at ae;refine I6 (fun a' w'=>∃ (N D:Nat),Fits 68 a' [(4,pP b3),(6,pP V),(8,qT (Np A.iZ)),(17,vS an ns.length cn),(18,iI ((ns.length:Nat):Int)),(19,iI ((i:Nat):Int)),(10,pP N),(11,pP D)]∧Mem w0 G5 (rB D [iI ((A.iZ.length:Nat):Int)] 3::rB N [qT (Cb A.kind),vB (decide (uAt A.kind)),vB (decide (uCo A.kind)),vB (decide (uTo A.kind)),vB (decide (uIt A.kind)),.func (.func (Gs A.kind)) #[] #[]] 138::rB V [iB ((A.kind:Nat):Int),iI A.at_,iI A.count,iI A.to,vS ao A.iZ.length ap] 65::rB b3 [pm,vS am nm cm] 101::rR (vS am nm cm) (nm) (bc (Bz (ns.take i))) 5 1::L) w') ?_ ?_
  ·skip
   have aa:=O7 (l:=A.iZ) tM;have ay:=Zh aa.1.2 (Vb SIe7);rw [← aa.2] at ay;have aY:=(Ft.1 Y).1;have aq:=Me A.kind;have ar:=Oh (x:=A) (sz:=((A.iZ.length:Nat):Int)) H.2.1 H.2.2.1 H.2.2.2.1 (Bi tM tM);have ae:=Tq (nuK A ((A.iZ.length:Nat):Int));rw [show (nuK A ((A.iZ.length:Nat):Int)).length=4 from rfl] at ae;refine Ik (.run 1 (.run 2 (.run 4 (.run 5 (.run 6 (.act 0 (.run 3 (.act 7 (.act 8 (.act 9 (.act 10 .fin .no) .no) .no) (.act 8 (.act 7 (.act 9 (.act 10 .fin .no) .no) .no) .no))) (.act 7 (.act 0 (.run 3 (.act 8 (.act 9 (.act 10 .fin .no) .no) .no)) (.act 8 (.act 0 (.run 3 (.act 9 (.act 10 .fin .no) .no)) .no) .no)) (.act 8 (.act 0 (.run 3 (.act 7 (.act 9 (.act 10 .fin .no) .no) .no)) (.act 7 (.act 0 (.run 3 (.act 9 (.act 10 .fin .no) .no)) .no) .no)) .no)))))))) (Keep G5 [rB V [iB ((A.kind:Nat):Int),iI A.at_,iI A.count,iI A.to,vS ao A.iZ.length ap] 65]) rfl kR kF (Aw (M.drew _)) ?_;replace M:=M.drew (w.drawn+1);revert a;refine wk ?_;refine fun a F=>A0 ?_ rfl ?_
   ·skip
    revert a;refine A2 Sb rfl rfl (Gv M)<|?_;clear M;rintro _ w M rfl
    refine Ao<|?_
    refine eQ (Aw M)<|t_r (fun a F w M=>Gr (j:=A.kind) Ha.k C4 rfl (F.ev rfl) (F.ev rfl) rfl tM (us:=[qT (Cb A.kind),vB (decide (uAt A.kind)),vB (decide (uCo A.kind)),vB (decide (uTo A.kind)),vB (decide (uIt A.kind)),.func (.func (Gs A.kind)) #[] #[]]) (Jr tM)) rfl<|fun a F=>A0 ?_ rfl ?_
    ·skip
     revert a;refine B0 M C4 rfl rfl<|?_;clear M;intro aP w M
     refine Ao<|?_
     refine eQ (Aw M)<|fun a F=>A0 ?_ rfl Bl
     revert a;refine B0 M Cj rfl rfl<|?_;clear M;intro aQ w M
     refine Ao<|?_
     refine eQ (Aw M)<|fun a F=>A0 ?_ rfl Bl
     refine Bf F M C4 1<|sZ ?_;clear F M a;intro w M;refine Ao<|?_
     refine eQ (Aw M)<|fun a F=>A0 ?_ rfl Bl
     revert a;refine D0 Cj M 0 rfl rfl rfl rfl rfl rfl<|?_;clear M;intro w M
     refine Ao<|?_
     refine eQ (Aw M)<|?_
     refine Mc<|?_
     intro a F
     exact ⟨aP,aQ,fU,M⟩
    refine A0 ?_ rfl ?_
    ·skip
     revert a;refine B0 M Cj rfl rfl<|?_;clear M;intro aR w M
     refine Ao<|?_
     refine eQ (Aw M)<|fun a F=>A0 ?_ rfl Bl
     revert a;refine B0 M C4 rfl rfl<|?_;clear M;intro aS w M
     refine Ao<|?_
     refine eQ (Aw M)<|fun a F=>A0 ?_ rfl Bl
     refine Bf F M C4 0<|sZ ?_;clear F M a;intro w M;refine Ao<|?_
     refine eQ (Aw M)<|fun a F=>A0 ?_ rfl Bl
     revert a;refine D0 Cj M 1 rfl rfl rfl rfl rfl rfl<|?_;clear M;intro w M
     refine Ao<|?_
     refine eQ (Aw M)<|?_
     refine Mc<|?_
     have M:=M.perm (List.Perm.swap _ _ _);intro a F
     exact ⟨aS,aR,fU,M⟩
    exact Bl
   refine A0 ?_ rfl ?_
   ·skip
    revert a;refine B0 M C4 rfl rfl<|?_;clear M;intro a4 w M
    refine Ao<|?_
    refine eQ (Aw M)<|fun a F=>A0 ?_ rfl ?_
    ·skip
     revert a;refine A2 Sb rfl rfl (Gv M)<|?_;clear M;rintro _ w M rfl
     refine Ao<|?_
     refine eQ (Aw M)<|t_r (fun a F w M=>Gr (j:=A.kind) Ha.k C4 rfl (F.ev rfl) (F.ev rfl) rfl tM (us:=[qT (Cb A.kind),vB (decide (uAt A.kind)),vB (decide (uCo A.kind)),vB (decide (uTo A.kind)),vB (decide (uIt A.kind)),.func (.func (Gs A.kind)) #[] #[]]) (Jr tM)) rfl<|fun a F=>A0 ?_ rfl Bl
     revert a;refine B0 M Cj rfl rfl<|?_;clear M;intro aT w M
     refine Ao<|?_
     refine eQ (Aw M)<|fun a F=>A0 ?_ rfl Bl
     refine Bf F M C4 1<|sZ ?_;clear F M a;intro w M;refine Ao<|?_
     refine eQ (Aw M)<|fun a F=>A0 ?_ rfl Bl
     revert a;refine D0 Cj M 0 rfl rfl rfl rfl rfl rfl<|?_;clear M;intro w M
     refine Ao<|?_
     refine eQ (Aw M)<|?_
     refine Mc<|?_
     intro a F
     exact ⟨a4,aT,fU,M⟩
    refine A0 ?_ rfl ?_
    ·skip
     revert a;refine B0 M Cj rfl rfl<|?_;clear M;intro aU w M
     refine Ao<|?_
     refine eQ (Aw M)<|fun a F=>A0 ?_ rfl Bl
     revert a;refine A2 Sb rfl rfl (Gv M)<|?_;clear M;rintro _ w M rfl
     refine Ao<|?_
     refine eQ (Aw M)<|t_r (fun a F w M=>Gr (j:=A.kind) Ha.k C4 rfl (F.ev rfl) (F.ev rfl) rfl tM (us:=[qT (Cb A.kind),vB (decide (uAt A.kind)),vB (decide (uCo A.kind)),vB (decide (uTo A.kind)),vB (decide (uIt A.kind)),.func (.func (Gs A.kind)) #[] #[]]) (Jr tM)) rfl<|fun a F=>A0 ?_ rfl Bl
     refine Bf F M C4 1<|sZ ?_;clear F M a;intro w M;refine Ao<|?_
     refine eQ (Aw M)<|fun a F=>A0 ?_ rfl Bl
     revert a;refine D0 Cj M 0 rfl rfl rfl rfl rfl rfl<|?_;clear M;intro w M
     refine Ao<|?_
     refine eQ (Aw M)<|?_
     refine Mc<|?_
     intro a F
     exact ⟨a4,aU,fU,M⟩
    exact Bl
   refine A0 ?_ rfl ?_
   ·skip
    revert a;refine B0 M Cj rfl rfl<|?_;clear M;intro a5 w M
    refine Ao<|?_
    refine eQ (Aw M)<|fun a F=>A0 ?_ rfl ?_
    ·skip
     revert a;refine A2 Sb rfl rfl (Gv M)<|?_;clear M;rintro _ w M rfl
     refine Ao<|?_
     refine eQ (Aw M)<|t_r (fun a F w M=>Gr (j:=A.kind) Ha.k C4 rfl (F.ev rfl) (F.ev rfl) rfl tM (us:=[qT (Cb A.kind),vB (decide (uAt A.kind)),vB (decide (uCo A.kind)),vB (decide (uTo A.kind)),vB (decide (uIt A.kind)),.func (.func (Gs A.kind)) #[] #[]]) (Jr tM)) rfl<|fun a F=>A0 ?_ rfl Bl
     revert a;refine B0 M C4 rfl rfl<|?_;clear M;intro aV w M
     refine Ao<|?_
     refine eQ (Aw M)<|fun a F=>A0 ?_ rfl Bl
     refine Bf F M C4 0<|sZ ?_;clear F M a;intro w M;refine Ao<|?_
     refine eQ (Aw M)<|fun a F=>A0 ?_ rfl Bl
     revert a;refine D0 Cj M 1 rfl rfl rfl rfl rfl rfl<|?_;clear M;intro w M
     refine Ao<|?_
     refine eQ (Aw M)<|?_
     refine Mc<|?_
     have M:=M.perm (List.Perm.swap _ _ _);intro a F
     exact ⟨aV,a5,fU,M⟩
    refine A0 ?_ rfl ?_
    ·skip
     revert a;refine B0 M C4 rfl rfl<|?_;clear M;intro aW w M
     refine Ao<|?_
     refine eQ (Aw M)<|fun a F=>A0 ?_ rfl Bl
     revert a;refine A2 Sb rfl rfl (Gv M)<|?_;clear M;rintro _ w M rfl
     refine Ao<|?_
     refine eQ (Aw M)<|t_r (fun a F w M=>Gr (j:=A.kind) Ha.k C4 rfl (F.ev rfl) (F.ev rfl) rfl tM (us:=[qT (Cb A.kind),vB (decide (uAt A.kind)),vB (decide (uCo A.kind)),vB (decide (uTo A.kind)),vB (decide (uIt A.kind)),.func (.func (Gs A.kind)) #[] #[]]) (Jr tM)) rfl<|fun a F=>A0 ?_ rfl Bl
     refine Bf F M C4 0<|sZ ?_;clear F M a;intro w M;refine Ao<|?_
     refine eQ (Aw M)<|fun a F=>A0 ?_ rfl Bl
     revert a;refine D0 Cj M 1 rfl rfl rfl rfl rfl rfl<|?_;clear M;intro w M
     refine Ao<|?_
     refine eQ (Aw M)<|?_
     refine Mc<|?_
     have M:=M.perm (List.Perm.swap _ _ _);intro a F
     exact ⟨aW,a5,fU,M⟩
    exact Bl
   exact Bl
  clear F M;rintro a w ⟨N,D,F,M⟩;revert a;refine wk ?_;replace M:=M.perm (Ah _ 4 _ rfl);replace M:=M.perm (Ah _ 4 _ rfl);replace M:=z_M M;refine Sy App rfl rfl (O5 (s:=(Cb A.kind)) ba M ax ah (by (first | omega | (simp only [lA,lC,lN];omega))))<|?_;clear M;rintro _ _ w M ⟨rfl,a1,aM,a7,rfl,ai,O⟩
  refine wk ?_;refine C3 ent82 rfl rfl (Z4 (k:=A.kind) (b:=V) (b2:=D) M)<|?_;clear M;rintro _ av w E M ⟨a0,a6,rfl,az⟩
  replace HG:=HG.mono E;replace Ae7:=Ae7.mono E;refine wk ?_;have bh:(Bz (ns.take i))++(Cb A.kind)=Bz (ns.take i)++Cb A.kind++Bn ((fm (nuK A ((A.iZ.length:Nat):Int))).take 0):=by simp [Bn]
  intro a F;rw [bh] at M ai O;have b1:=Ve (x:=A) (b:=V) (b2:=D) (sz:=((A.iZ.length:Nat):Int));refine Bd (fun m a' w'=>∃ (j:Nat),∃ (ak:Option Addr),∃ (nk:Nat),∃ (ck:Nat),∃ (pk:Value),m=(fm (Hh A.kind V D)).length - j∧Fits 68 a' [(4,pP b3),(6,pP V),(8,qT (Np A.iZ)),(10,pP N),(11,pP D),(17,vS an ns.length cn),(18,iI ((ns.length:Nat):Int)),(19,iI ((i:Nat):Int)),(48,vS a0 ((fm (Hh A.kind V D)).length) (a6)),(49,iI ((((fm (Hh A.kind V D)).length:Nat):Int))),(50,iI ((j:Nat):Int))]∧Mem w0 av (rB b3 [pk,vS ak nk ck] 101::rR (vS ak nk ck) (nk) (bc (Bz (ns.take i)++Cb A.kind++Bn ((fm (nuK A ((A.iZ.length:Nat):Int))).take j))) 5 1::rB D [iI ((A.iZ.length:Nat):Int)] 3::rB N [qT (Cb A.kind),vB (decide (uAt A.kind)),vB (decide (uCo A.kind)),vB (decide (uTo A.kind)),vB (decide (uIt A.kind)),.func (.func (Gs A.kind)) #[] #[]] 138::rB V [iB ((A.kind:Nat):Int),iI A.at_,iI A.count,iI A.to,vS ao A.iZ.length ap] 65::L) w'∧(j≤(fm (Hh A.kind V D)).length)∧(pk=vP none∨pk=pP b3)∧(nk=(Bz (ns.take i)++Cb A.kind++Bn ((fm (nuK A ((A.iZ.length:Nat):Int))).take j)).length)∧((Bz (ns.take i)++Cb A.kind++Bn ((fm (nuK A ((A.iZ.length:Nat):Int))).take j))=[]→ak=none)) _ ⟨0,(a1),(aM),(a7),(pP b3),rfl,fU,M,Nat.zero_le _,(Or.inr rfl),ai,O⟩ ?_
  clear F M;rintro m a w ⟨j,ak,nk,ck,pk,rfl,F,M,hj,aK,aq,ag⟩;revert a;refine wk ?_;refine qD rfl ?_ ?_
  ·intro bu;refine wk ?_;obtain ⟨aw,ac⟩:=Aq (xs:=(fm (Hh A.kind V D))) (i:=j) tM;obtain ⟨bk,bm,_,bj,_,bi,rfl⟩:=az.at ac;refine wk ?_;obtain ⟨z,hz,bb⟩:=fld_get (sz:=((A.iZ.length:Nat):Int)) ac;have aL:=ar z (mG hz);have b4:=Xm aL;have be:=J9 (zs:=(fm (nuK A ((A.iZ.length:Nat):Int))).take j) fun y hy=>ar y (List.mem_of_mem_take hy);have bf:((fm (nuK A ((A.iZ.length:Nat):Int))).take j).length≤(fm (nuK A ((A.iZ.length:Nat):Int))).length:=List.length_take_le' _ _;have aZ:w.cell? ⟨aw.1,aw.2,none⟩=some (iI z):=by rcases bb with ⟨ab,rfl⟩ | ⟨ab,rfl⟩ | ⟨ab,rfl⟩ | ⟨ab,rfl⟩ <;> rw [ab];exact M.cellL (k:=4) rfl rfl;exact M.cellL (k:=4) rfl rfl;exact M.cellL (k:=4) rfl rfl;exact M.cellL (k:=2) rfl rfl
   refine wk ?_;refine Ak (fun a F=>Cw (agf Cj rfl) (F.ev rfl) aZ) rfl<|A2 Apk rfl rfl (Xn (z:=z) M HG aL)<|?_;clear M;rintro _ w M rfl
   refine Ak (fun a F=>Bg (F.ev rfl) (F.ev rfl) (by (first | omega | (simp only [lA,lC,lN];omega)))) rfl<|?_
   replace M:=M.perm (Ah _ 1 _ rfl);replace M:=M.perm (Ah _ 1 _ rfl);replace M:=z_M M;refine Sy App rfl rfl (O5 (s:=(([32]:List UInt8)++(Lib.itoa z))) aK M aq ag (by (first | omega | (simp only [lA,lC,lN];omega))))<|?_;clear M;rintro _ _ w M ⟨rfl,a2,aN,a8,rfl,aj,S⟩
   refine wk ?_;have au:(Bz (ns.take i)++Cb A.kind++Bn ((fm (nuK A ((A.iZ.length:Nat):Int))).take j))++(([32]:List UInt8)++(Lib.itoa z))=Bz (ns.take i)++Cb A.kind++Bn ((fm (nuK A ((A.iZ.length:Nat):Int))).take (j+1)):=Ait hz;intro a F;rw [au] at M aj S
   exact ⟨_,tM,j+1,(a2),(aN),(a8),(pP b3),rfl,fU,M,tM,(Or.inr rfl),aj,S⟩
  intro bv;refine wk ?_;have aX:(fm (Hh A.kind V D)).length≤j:=by omega
  have be:=J9 (zs:=(fm (nuK A ((A.iZ.length:Nat):Int))).take j) fun y hy=>ar y (List.mem_of_mem_take hy);have bf:((fm (nuK A ((A.iZ.length:Nat):Int))).take j).length≤(fm (nuK A ((A.iZ.length:Nat):Int))).length:=List.length_take_le' _ _;refine wk ?_;refine Ak (fun a F=>Bg (F.ev rfl) (F.ev rfl) (by (first | omega | (simp only [lA,lC,lN];omega)))) rfl<|?_
  replace M:=M.perm (Ah _ 1 _ rfl);replace M:=M.perm (Ah _ 1 _ rfl);replace M:=z_M M;refine Sy App rfl rfl (O5 (s:=(([10]:List UInt8)++(Np A.iZ))) aK M aq ag (by (first | omega | (simp only [lA,lC,lN];omega))))<|?_;clear M;rintro _ _ w M ⟨rfl,a3,aO,a9,rfl,al,T⟩
  refine wk ?_;have au:(Bz (ns.take i)++Cb A.kind++Bn ((fm (nuK A ((A.iZ.length:Nat):Int))).take j))++(([10]:List UInt8)++(Np A.iZ))=Bz (ns.take (i+1)):=Axw I rfl (by have b0:=Ve (x:=A) (b:=0) (b2:=0) (sz:=((A.iZ.length:Nat):Int));have ab:=aX;omega) aa.2;intro a F;rw [au] at M al T
  exact ⟨_,tM,i+1,(a3),(aO),(a9),(pP b3),rfl,av,(U.trans E),fU,(M.wn tW),tM,by rw [F9 hS,Tt I,Jy Y];omega,by rw [← au];simp only [lA,lC,lN];omega,(Or.inr rfl),al,T⟩
 intro bw;refine wk ?_;replace M:=M.perm (Ah _ 1 _ rfl);replace M:=M.perm (Ah _ 1 _ rfl);replace M:=z_M M;refine A2 ent84 rfl rfl (Avg M ax)<|?_;clear M;rintro _ w M rfl
 refine wk ?_;refine qD rfl ?_ ?_
 ·intro bx;refine wk ?_;refine Co rfl rfl rfl<|?_
  exact ⟨_,U,M.wn dS2,by rw [(Wx tM hS tM tM).1,(Wx tM hS tM tM).2];try rfl⟩
 intro bz;refine wk ?_;replace M:=M.perm (Ah _ 1 _ rfl);replace M:=M.perm (Ah _ 1 _ rfl);replace M:=z_M M;refine A2 ent43 rfl rfl (Abc M ax ah)<|?_;clear M;rintro _ w M rfl
 refine wk ?_;refine Co rfl rfl rfl<|?_
 exact ⟨_,U,M,by rw [(Axu tM hS tM tM).1,(Axu tM hS tM tM).2];try rfl⟩
theorem Tb (M:Mem w0 G L w) {z:Int} (N:Al .i64 z):Calls pG 132 #[iI z] w (B5 w0 G L fun v=>v=qT (Lib.itoa z)):=by
 obtain ⟨A,D⟩:=id N;have A:-9223372036854775808≤z:=A;have D:z≤9223372036854775807:=D;refine Ap (vs:=[_]) Tryz.func132 rfl (n:=15) rfl rfl<|wk ?_;refine qD rfl ?_ ?_
 ·intro O;refine wk ?_;refine Ak (fun a F=>Awo (F.ev rfl) (Bi tM tM)) rfl<|Ak (fun a F=>Bb Gh.k ⟨_,by rw [Be Vn.k]⟩ (F.ev rfl) (Gn tM tM)) rfl<|Ak (fun a F=>Fx (F.ev rfl) (F.ev rfl) (Gn tM tM)) rfl<|?_
  have E:((-(z+1))+1:Int)=((((-(z+1))+1).toNat:Nat):Int):=by omega
  intro a F;rw [E] at F;revert a;refine A2 Ov rfl rfl (Jc (u:=((-(z+1))+1).toNat) M tM)<|?_;clear M;rintro _ w M rfl
  refine Ak (fun a F=>Bg (F.ev rfl) (F.ev rfl) (by (first | omega | (have I:=C7 (-(z+1)+1).toNat tM;simp only [lA,lC,lN];omega)))) rfl<|wk ?_;refine Af rfl rfl<|?_
  exact ⟨M,by rw [← itoa_m (z:=z) (u:=(-(z+1)+1).toNat) tM tM]⟩
 intro S;refine wk ?_;refine Ak (fun a F=>Bb Gh.k ⟨_,by rw [Be Vn.k]⟩ (F.ev rfl) (Gn tM tM)) rfl<|?_
 have H:(z:Int)=(((z).toNat:Nat):Int):=by omega
 intro a F;rw [H] at F;revert a;refine A2 Ov rfl rfl (Jc (u:=(z).toNat) M tM)<|?_;clear M;rintro _ w M rfl
 refine wk ?_;refine Af rfl rfl<|?_
 exact ⟨M,by rw [← itoa_p (z:=z) (u:=z.toNat) tM]⟩
theorem Apg {α:Type} {l:List (Bool × α)} {i:Nat} {y:α} (h:y∈fm (l.take i)):y∈fm l:=by
 unfold fm at h ⊢;obtain ⟨q,A,D⟩:=List.mem_map.1 h;obtain ⟨E,H⟩:=List.mem_filter.1 A
 exact List.mem_map.2 ⟨q,List.mem_filter.2 ⟨List.mem_of_mem_take E,H⟩,D⟩
theorem Ug (M:Mem w0 G L w) {x:NotD} {na:Option Addr} {nc:Nat} (E:x.kind < 256∧Al .i64 x.at_∧Al .i64 x.count∧Al .i64 x.to∧x.iZ.length≤9223372036854775807) (SI:Aj Bp 4 G (vS na x.iZ.length nc) x.iZ) {sz:Int} (hz:Al .i64 sz) (hk:x.kind≤5):Calls pG 81 #[.agg #[iB ((x.kind:Nat):Int),iI x.at_,iI x.count,iI x.to,vS na x.iZ.length nc],iI sz] w (B5 w0 G L fun v=>v=qT (Cm x sz)):=by
 have I:=Oh (x:=x) (sz:=sz) E.2.1 E.2.2.1 E.2.2.2.1 hz;refine Ap (vs:=[_,_]) Tryz.func81 rfl (n:=41) rfl rfl<|?_
 refine Bt<|?_
 refine Ch M rfl rfl rfl<|?_;clear M;intro b1 w M
 refine wk ?_;intro a F;refine Bw F M Dx.k Dg (ps:=[(0,qT []),(1,qT [105,110,115,101,114,116]),(2,qT [114,101,109,111,118,101]),(3,qT [109,111,118,101]),(4,qT [99,104,97,110,103,101]),(5,qT [114,101,115,101,116])]) (cs:=[[qT []],[qT [105,110,115,101,114,116]],[qT [114,101,109,111,118,101]],[qT [109,111,118,101]],[qT [99,104,97,110,103,101]],[qT [114,101,115,101,116]]]) (fl:=[qT [],qT [105,110,115,101,114,116],qT [114,101,109,111,118,101],qT [109,111,118,101],qT [99,104,97,110,103,101],qT [114,101,115,101,116]]) rfl rfl (by simp [Gt,Value.cells]) (by simp [ti9]) rfl tS tD tD rfl ?_;clear F M a;intro v2 w a M F;obtain ⟨T,U,rfl,aa,V,aj⟩:=M.rS (k:=0) rfl;have En:Els Cr 1 G [qT [],qT [105,110,115,101,114,116],qT [114,101,109,111,118,101],qT [109,111,118,101],qT [99,104,97,110,103,101],qT [114,101,115,101,116]] W7:=Hp W7 (by intro y H;simp only [W7,mC,List.not_mem_nil,or_false] at H;rcases H with rfl | rfl | rfl | rfl | rfl | rfl <;> decide);revert a;refine wk ?_;obtain ⟨aq,_,an,al,_,O,⟨rfl,ae⟩⟩:=M.atRow (k:=0) rfl tD En (Aoh tM);refine wk ?_;refine Afi Dg O 0 rfl rfl tM rfl<|wk ?_;refine A2 A0e rfl rfl (Qi (k:=x.kind) M)<|?_;clear M;rintro _ w M rfl
 refine B0 M Cz rfl rfl<|?_;clear M;intro b4 w M
 intro a F;refine Bf F M Cz 0<|sZ ?_;clear F M a;intro w M;refine wk ?_;have ai:Cb x.kind=Cb x.kind++Bn (fm ((nuK x sz).take 0)):=by simp [Bn,fm]
 intro a F;rw [ai] at F;refine Bd (fun m a' w'=>∃ (i:Nat),m=4 - i∧Fits 41 a' [(1,iI sz),(2,pP b1),(6,pP b4),(5,qT (Cb x.kind++Bn (fm ((nuK x sz).take i)))),(7,iI ((i:Nat):Int))]∧Mem w0 G (rB b4 [iI (uG x.kind 0),iI (uG x.kind 1),iI (uG x.kind 2),iI (uG x.kind 3)] 167::rR (vS T 6 (U)) 6 ([qT [],qT [105,110,115,101,114,116],qT [114,101,109,111,118,101],qT [109,111,118,101],qT [99,104,97,110,103,101],qT [114,101,115,101,116]]) 9 1::rB b1 [iB ((x.kind:Nat):Int),iI x.at_,iI x.count,iI x.to,vS na x.iZ.length nc] 65::L) w'∧(i≤4)) _ ⟨0,rfl,fU,M,tM⟩ ?_;clear F M;rintro m a w ⟨i,rfl,F,M,hi⟩;revert a;refine wk ?_;refine qD rfl ?_ ?_
 ·intro h6;refine wk ?_;refine Ak (fun a F=>Br (j:=i) Cz.k Cj rfl (F.ev rfl) (F.ev rfl) tM tM) rfl<|Ak (fun a F=>Cw (agf Cj rfl) (F.ev rfl) (M.cellL (k:=0) rfl (Aix (i:=i) tM))) rfl<|wk ?_;refine qD rfl ?_ ?_
  ·intro h7;have ag:=J9 (zs:=fm ((nuK x sz).take i)) fun y H=>I y (Apg H);have ah:=Tq ((nuK x sz).take i);have D:((nuK x sz).take i).length≤(nuK x sz).length:=List.length_take_le' _ _;intro a F;rw [show (nuK x sz).length=4 from rfl] at D;have ac:=Me x.kind;have N:=Akx (x:=x) (sz:=sz) (i:=i) E.2.1 E.2.2.1 E.2.2.2.1 hz;have ax:=Xm N;revert a;refine Hg<|Cd rfl<|?_
   refine Ak (fun a F=>Bg (F.ev rfl) (F.ev rfl) (by (first | omega | (simp only [lA,lC,lN];omega)))) rfl<|wk ?_;intro a F;refine Bw F M Ajd.k Cj (ps:=[(0,iI x.at_),(1,iI x.count),(2,iI x.to),(3,iI sz)]) (cs:=[[iI x.at_],[iI x.count],[iI x.to],[iI sz]]) (fl:=[iI x.at_,iI x.count,iI x.to,iI sz]) rfl rfl (by simp [Gt,Value.cells]) (by simp [ti3]) rfl tS tD tD rfl ?_;clear F M a;intro v8 w a M F;obtain ⟨ap,au,rfl,ab,Y,ak⟩:=M.rS (k:=0) rfl;have Ez:Els rdZ 1 G [iI x.at_,iI x.count,iI x.to,iI sz] [nS x sz 0,nS x sz 1,nS x sz 2,nS x sz 3]:=A1m (zs:=[nS x sz 0,nS x sz 1,nS x sz 2,nS x sz 3]);revert a;refine Cd rfl<|?_
   obtain ⟨ar,_,ao,am,_,S,rfl⟩:=M.atRow (k:=0) rfl tD Ez (nS_cell (x:=x) (sz:=sz) (i:=i) tM);refine wk ?_;refine Afi Cj S 0 rfl rfl tM rfl<|A2 Alp rfl rfl (Tb (z:=(nS x sz i)) M N)<|?_;clear M;rintro _ w M rfl
   refine Ak (fun a F=>Bg (F.ev rfl) (F.ev rfl) (by (first | omega | (simp only [lA,lC,lN];omega)))) rfl<|wk ?_;have A:((Cb x.kind++Bn (fm ((nuK x sz).take i)))++([32]:List UInt8))++(Lib.itoa (nS x sz i))=Cb x.kind++Bn (fm ((nuK x sz).take (i+1))):=Ayr tM tA;intro a F;rw [A] at F
   exact ⟨_,tM,i+1,rfl,fU,(M.wn tW),tM⟩
  intro av;refine wk ?_;have A:Cb x.kind++Bn (fm ((nuK x sz).take i))=Cb x.kind++Bn (fm ((nuK x sz).take (i+1))):=line_no tM tA;intro a F;rw [A] at F
  exact ⟨_,tM,i+1,rfl,fU,M,tM⟩
 intro aw;refine wk ?_;have ag:=J9 (zs:=fm ((nuK x sz).take i)) fun y H=>I y (Apg H);have ah:=Tq ((nuK x sz).take i);have D:((nuK x sz).take i).length≤(nuK x sz).length:=List.length_take_le' _ _;intro a F;rw [show (nuK x sz).length=4 from rfl] at D;have ac:=Me x.kind;revert a;refine wk ?_;refine Ak (fun a F=>Bg (F.ev rfl) (F.ev rfl) (by (first | omega | (simp only [lA,lC,lN];omega)))) rfl<|wk ?_;refine Af rfl rfl<|?_
 exact ⟨M.wn dS3,by rw [Ayt tM]⟩
theorem Afn {w0 w:World} {G:Av} {L:List Res} (M:Mem w0 G L w) {an:Option Addr} {cn:Nat} {ns:List NotD} (U:Aj Ct 5 G (vS an ns.length cn) ns):Calls pG 31 #[vS an ns.length cn] w (B5 w0 G L fun v=>v=.tuple #[qT (D2 ns),iI (Dk ns)]):=by
 have bN:=U.bound;refine Ap (vs:=[_]) Tryz.func31 rfl (n:=82) rfl rfl<|wk ?_;refine qD rfl ?_ ?_
 ·intro h1;refine wk ?_;refine Co rfl rfl rfl<|?_
  exact ⟨M,by rw [(Axt tM).1,(Axt tM).2];try rfl⟩
 intro h2;refine wk ?_;have cD:([]:List UInt8)=Bz (ns.take 0):=by simp [Bz]
 intro a F;refine Bd (fun m a' w'=>∃ (i:Nat),m=ns.length - i∧Fits 82 a' [(0,vS an ns.length cn),(4,qT (Bz (ns.take i))),(5,iI ((i:Nat):Int))]∧Mem w0 G (L) w'∧(i≤ns.length)∧(Bv (Ot ns) i=0)∧((Bz (ns.take i)).length≤320000 * i)) _ ⟨0,rfl,fU,M,Nat.zero_le _,rfl,by simp [Bz]⟩ ?_;clear F M;rintro m a w ⟨i,rfl,F,M,hi,O,cf⟩;revert a;refine wk ?_;refine qD rfl ?_ ?_
 ·intro h3;refine wk ?_;obtain ⟨A,D⟩:=Aq (xs:=ns) (i:=i) tM;obtain ⟨cy,cE,_,cw,_,cu,b1⟩:=U.at D;obtain ⟨cg,cj,rfl,bi,bl,bo,br,bv,bg⟩:=b1;have bz:A.kind < 256∧Al .i64 A.at_∧Al .i64 A.count∧Al .i64 A.to∧A.iZ.length≤9223372036854775807:=⟨bi,bl,bo,br,bv⟩;refine wk ?_;refine A2 Apq rfl rfl (J2 (x:=A) M bz bg)<|?_;clear M;rintro _ w M rfl
  refine wk ?_;refine qD rfl ?_ ?_
  ·intro h5;refine Bt<|Cd rfl<|Cd rfl<|?_
   obtain ⟨cz,cF,_,b9,_,b8,b3⟩:=U.at D;obtain ⟨b5,b6,rfl,bj,bm,bp,bt,bw,bh⟩:=b3;have b0:A.kind < 256∧Al .i64 A.at_∧Al .i64 A.count∧Al .i64 A.to∧A.iZ.length≤9223372036854775807:=⟨bj,bm,bp,bt,bw⟩;refine Mx Du.k Ba b9 rfl rfl<|Ak (fun a F=>Cv Ba rfl (F.ev rfl) (cs:=[iB ((A.kind:Nat):Int),iI A.at_,iI A.count,iI A.to,vS b5 A.iZ.length b6]) rfl (M.cellsA b8 0 tM rfl)) rfl<|?_
   refine A2 Apq rfl rfl (J2 (x:=A) M b0 bh)<|?_;clear M;rintro _ w M rfl
   refine wk ?_;refine Co rfl rfl rfl<|?_
   exact ⟨M,by rw [(Ww tM O D (by rw [Xy tM];omega)).1,(Ww tM O D (by rw [Xy tM];omega)).2,Xy (show Dm A≠0 by omega)];try rfl⟩
  intro h7;refine wk ?_;have I:Dm A=0:=by have:=Adb A;omega
  have cA:=(Ft.1 I).1;refine wk ?_;obtain ⟨c0,cG,_,cx,_,cv,b4⟩:=U.at D;obtain ⟨ci,ck,rfl,bk,bn,bq,bu,bx,bW⟩:=b4;have ce:A.kind < 256∧Al .i64 A.at_∧Al .i64 A.count∧Al .i64 A.to∧A.iZ.length≤9223372036854775807:=⟨bk,bn,bq,bu,bx⟩;refine wk ?_;refine qD rfl ?_ ?_
  ·intro h9;refine wk ?_;refine Co rfl rfl rfl<|?_
   exact ⟨M,by rw [(Ww tM O D (by rw [Jy I,(Kj tM).1];decide)).1,(Ww tM O D (by rw [Jy I,(Kj tM).1];decide)).2,Jy I,(Kj tM).1];try rfl⟩
  intro c1;refine wk ?_;refine fun a F=>D5 [(.free,0),(.free,1),(.free,2),(.free,3),(.pure,4),(.free,5),(.free,6),(.free,7),(.free,8),(.pure,9),(.pure,10),(.keep,11),(.free,12),(.free,13)] [] (Keep G []) rfl kR kF (Aw (M.drew _)) ?_;replace M:=M.drew (w.drawn+1);revert a;refine fMv rfl<|fMv rfl<|fMv rfl<|?_
  obtain ⟨bX,cl,_,aY,_,aS,a9⟩:=U.at D;obtain ⟨aQ,aR,rfl,ag,al,ar,ay,a3,Y⟩:=a9;have H:A.kind < 256∧Al .i64 A.at_∧Al .i64 A.count∧Al .i64 A.to∧A.iZ.length≤9223372036854775807:=⟨ag,al,ar,ay,a3⟩;refine k_f (fun a F w _=>Fw Du.k Ba (F.ev rfl) (F.ev rfl) tM aY) rfl<|k_p (fun a F w M=>Cv Ba rfl (F.ev rfl) (cs:=[iB ((A.kind:Nat):Int),iI A.at_,iI A.count,iI A.to,vS aQ A.iZ.length aR]) rfl (M.cellsA aS 0 tM rfl)) rfl<|fMv rfl<|fMv rfl<|?_
  obtain ⟨bY,cm,_,aZ,_,aT,aA⟩:=U.at D;obtain ⟨bL,bQ,rfl,ah,am,au,az,a4,bA⟩:=aA;have bC:A.kind < 256∧Al .i64 A.at_∧Al .i64 A.count∧Al .i64 A.to∧A.iZ.length≤9223372036854775807:=⟨ah,am,au,az,a4⟩;refine k_f (fun a F w _=>Fw Du.k Ba (F.ev rfl) (F.ev rfl) tM aZ) rfl<|fFa Ba.k rfl rfl<|k_p (fun a F w M=>Cw (agf Ci rfl) (F.ev rfl) (M.cellA aT 4 rfl rfl)) rfl<|k_p (fun a F w M=>Jb Ci.k (F.ev rfl)) rfl<|?_
  have bJ:=Oh (x:=A) (sz:=((A.iZ.length:Nat):Int)) H.2.1 H.2.2.1 H.2.2.2.1 (Bi tM tM);have hnl:=Th bJ;refine k_k rfl<|A2 ent81 rfl rfl (Ug (x:=A) (sz:=((A.iZ.length:Nat):Int)) M H Y (Bi tM tM) tM)<|?_;clear M;rintro _ w M rfl
  refine Ao<|?_
  refine eQ (Aw M)<|k_f (fun a F w _=>Bg (F.ev rfl) (F.ev rfl) (by (first | omega | (simp only [lA,lC,lN];omega)))) rfl<|wk ?_;have bK:Bz (ns.take i)++Cm A ((A.iZ.length:Nat):Int)=Bz (ns.take i)++Cm A ((A.iZ.length:Nat):Int)++Ce (A.iZ.take 0):=by simp [Ce]
  intro a F;rw [bK] at F;refine Bd (fun m a' w'=>∃ (k:Nat),m=A.iZ.length - k∧Fits 82 a' [(0,vS an ns.length cn),(5,iI ((i:Nat):Int)),(4,qT (Bz (ns.take i)++Cm A ((A.iZ.length:Nat):Int)++Ce (A.iZ.take k))),(6,iI ((k:Nat):Int))]∧Mem w0 G (L) w'∧(k≤A.iZ.length)∧(∀ (q:Nat) (y:ItemD),q < k→A.iZ[q]?=some y→ItemOk 8 y)∧((Ce (A.iZ.take k)).length≤301 * k)) _ ⟨0,rfl,fU,M,Nat.zero_le _,fun q y h=>by omega,by simp [Ce]⟩ ?_;clear F M;rintro m a w ⟨k,rfl,F,M,hk,hA,cB⟩;revert a;refine wk ?_;obtain ⟨bZ,co,_,bV,_,bU,aB⟩:=U.at D;obtain ⟨bM,bR,rfl,ai,ao,av,a0,a5,bB⟩:=aB;have bD:A.kind < 256∧Al .i64 A.at_∧Al .i64 A.count∧Al .i64 A.to∧A.iZ.length≤9223372036854775807:=⟨ai,ao,av,a0,a5⟩;refine wk ?_;refine qD rfl ?_ ?_
  ·intro c2;refine D8<|Ca<|H2<|Ca<|Bt<|Cd rfl<|Cd rfl<|?_
   obtain ⟨ca,cp,_,ba,_,aU,aC⟩:=U.at D;obtain ⟨bO,bS,rfl,aj,ap,aw,a1,a6,aa⟩:=aC;have bF:A.kind < 256∧Al .i64 A.at_∧Al .i64 A.count∧Al .i64 A.to∧A.iZ.length≤9223372036854775807:=⟨aj,ap,aw,a1,a6⟩;refine Mx Du.k Ba ba rfl rfl<|Io Ba.k rfl rfl<|Vv Ci M aU 4 rfl rfl rfl rfl<|Cd rfl<|?_
   obtain ⟨Xe16,E⟩:=Aq (xs:=A.iZ) (i:=k) tM;obtain ⟨cb,cq,_,bb,_,aV,aD⟩:=aa.at E;obtain ⟨aM,aO,rfl,aG,aI,aK,bH,ac⟩:=aD;have a8:(Xe16.key < 18446744073709551616∧Xe16.typ < 256∧Xe16.text.length≤9223372036854775807):=⟨aG,aI,aK⟩;refine Mx Ci.k Bc bb rfl rfl<|Ak (fun a F=>Cv Bc rfl (F.ev rfl) (cs:=[iU ((Xe16.key:Nat):Int),iB ((Xe16.typ:Nat):Int),qT Xe16.text,vS aM Xe16.mZ.length aO]) rfl (M.cellsA aV 0 tM rfl)) rfl<|?_
   refine A2 Apo rfl rfl (H9 (x:=Xe16) (t:=8) M a8 ac)<|?_;clear M;rintro _ w M rfl
   refine wk ?_;refine qD rfl ?_ ?_
   ·intro c4;refine Ca<|?_
    have S:¬ ItemOk 8 Xe16:=fun h_=>by have:=Dc h_;omega
    refine wk ?_;refine Co rfl rfl rfl<|?_
    exact ⟨M,by rw [(Ww tM O D (by rw [Jy I,(Ma tM (Ih.no E S)).1];decide)).1,(Ww tM O D (by rw [Jy I,(Ma tM (Ih.no E S)).1];decide)).2,Jy I,(Ma tM (Ih.no E S)).1];try rfl⟩
   intro c5;refine D8<|Gd<|?_
   have T:ItemOk 8 Xe16:=by first | exact De.1 tM | exact J6 tM
   refine Hg<|Cd rfl<|Cd rfl<|Cd rfl<|?_
   obtain ⟨cc,cr,_,be,_,aW,aE⟩:=U.at D;obtain ⟨bP,bT,rfl,ak,aq,ax,a2,a7,ab⟩:=aE;have bG:A.kind < 256∧Al .i64 A.at_∧Al .i64 A.count∧Al .i64 A.to∧A.iZ.length≤9223372036854775807:=⟨ak,aq,ax,a2,a7⟩;refine Mx Du.k Ba be rfl rfl<|Io Ba.k rfl rfl<|Vv Ci M aW 4 rfl rfl rfl rfl<|Cd rfl<|?_
   obtain ⟨cd,ct,_,bf,_,aX,aF⟩:=ab.at E;obtain ⟨aN,aP,rfl,aH,aJ,aL,bI,ae⟩:=aF;have N:(Xe16.key < 18446744073709551616∧Xe16.typ < 256∧Xe16.text.length≤9223372036854775807):=⟨aH,aJ,aL⟩;refine Mx Ci.k Bc bf rfl rfl<|Ak (fun a F=>Cv Bc rfl (F.ev rfl) (cs:=[iU ((Xe16.key:Nat):Int),iB ((Xe16.typ:Nat):Int),qT Xe16.text,vS aN Xe16.mZ.length aP]) rfl (M.cellsA aX 0 tM rfl)) rfl<|?_
   refine A2 A0g rfl rfl (Qn (x:=Xe16) M N ae T)<|?_;clear M;rintro _ w M rfl
   have b7:=Kr (x:=Xe16) T N.1 N.2.1;refine Ak (fun a F=>Bg (F.ev rfl) (F.ev rfl) (by (first | omega | (simp only [lA,lC,lN];omega)))) rfl<|wk ?_;have V:(Bz (ns.take i)++Cm A ((A.iZ.length:Nat):Int)++Ce (A.iZ.take k))++(Cx Xe16++[10])=Bz (ns.take i)++Cm A ((A.iZ.length:Nat):Int)++Ce (A.iZ.take (k+1)):=by rw [Qh E];simp only [List.append_assoc]
   intro a F;rw [V] at F
   exact ⟨_,tM,k+1,rfl,fU,M,tM,D9 hA E T,by rw [Qh E];simp only [lA,lC,lN];omega⟩
  intro c6;refine wk ?_;have V:Bz (ns.take i)++Cm A ((A.iZ.length:Nat):Int)++Ce (A.iZ.take k)=Bz (ns.take (i+1)):=Art D tM;intro a F;rw [V] at F
  exact ⟨_,tM,i+1,rfl,fU,M,tM,by rw [F9 O,Tt D,Jy I];exact (Mt tM (E3 hA tM)).1,by rw [← V];simp only [lA];omega⟩
 intro c7;refine wk ?_;refine qD rfl ?_ ?_
 ·intro c8;refine wk ?_;refine Co rfl rfl rfl<|?_
  exact ⟨M,by rw [(Wx tM O tM tM).1,(Wx tM O tM tM).2];try rfl⟩
 intro c9;refine wk ?_;refine Co rfl rfl rfl<|?_
 exact ⟨M,by rw [(Axu tM O tM tM).1,(Axu tM O tM tM).2];try rfl⟩
section
variable {P:Program} {w:World} {ρ:Operand→Value} {dd:Option Tmp} {g:Option (Nat × Bool)} {t:TypeId} {p:String} {af:Array Edge}
theorem Yu {A et:TypeId} {i:TI} {x:Operand} {n b:Nat} (D:tk P A=.array n et) (E:TOK P et i) (H:ρ x=pP b) :
  (execOp ρ ⟨dd,.slice A x none none none,t,p,af,g⟩).run P w=.ok (.value (vS (some ⟨b,0,none⟩) n n)) w:=by
 simp [execOp,Instr.sliceAt,B9 (F7 D),H,Instr.sureAddr,Instr.sliceBounds,Instr.sliceBound,E.sizeOf,Fv]
theorem Afm {A et:TypeId} {i:TI} {x y:Operand} {m b o:Nat} {k:IntKind} {z:Int} {j:Nat} (D:tk P A=.array m et) (H:TOK P et i) (I:ρ x=vP (some ⟨b,o,none⟩)) (N:ρ y=vI k z) (O:z=(j:Int)) (E:j < m) :
  (execOp ρ ⟨dd,.indexAddr A x y,t,p,af,g⟩).run P w=.ok (.value (vP (some ⟨b,o+j * i.size,none⟩))) w:=by
 subst O;have S:(0:Int)≤(j:Int):=by omega
 have T:(j:Int) < (m:Int):=by omega
 simp [execOp,Instr.indexAt,I,N,asIntOf,B9 (F7 D),E,H.sizeOf,Fv,Instr.sureAddr]
end
def kfn (k:Nat):Value:=if k=0 then .nilFunc else .func (.func (Gs k)) #[] #[]
theorem Xe {k:Nat} (h:k < 6):(Lu.drop (0+k * 6)).take 6=[qT (Cb k),vB (decide (uAt k)),vB (decide (uCo k)),vB (decide (uTo k)),vB (decide (uIt k)),kfn k]:=by
 rcases (show k=0∨k=1∨k=2∨k=3∨k=4∨k=5 by omega) with rfl | rfl | rfl | rfl | rfl | rfl <;> rfl
def Cy (s:List UInt8):List (List UInt8):=Lib.split s [32]
def Ij (r:List (List UInt8)):List UInt8:=r.flatMap fun s=>32::s
theorem Uc:∀ (k:Nat) (s:List UInt8) (p:List UInt8),p∈Lib.splitK [32] 0 k s→p.length≤s.length
 | 0,s,p,h=>by simp only [Lib.splitK,List.mem_singleton] at h;subst h;exact Nat.le_refl _
 | k+1,s,p,h=>by
  unfold Lib.splitK at h
  split at h
  ·simp only [List.mem_singleton] at h;subst h;exact Nat.le_refl _
  ·rcases List.mem_cons.1 h with rfl | h
   ·simp only [lT];omega
   ·have:=Uc k _ p h;simp only [lD] at this;omega
theorem Vq {s p:List UInt8} (h:p∈Cy s):p.length≤s.length:=Uc _ _ _ h
theorem Afb {d r:List UInt8} (k:Nat) (h:(32:UInt8) ∉ d):Lib.splitK [32] 0 (k+1) (d++32::r)=d::Lib.splitK [32] 0 k r:=by
 have A:Lib.index (d++32::r) [32]=((d.length:Nat):Int):=by rw [Mm,Adp h,if_pos (by simp)]
 rw [Lib.splitK,A,if_neg (by rw [beq_iff_eq];omega)]
 congr 1
 ·simp
 congr 1;simp
theorem Nx {s:List UInt8} {r:List (List UInt8)}:Ij (s::r)=32::(s++Ij r):=by simp [Ij]
theorem P7:∀ (d:List UInt8) (r:List (List UInt8)),(∀ s∈d::r,(32:UInt8) ∉ s)→Lib.splitK [32] 0 r.length (d++Ij r)=d::r
 | d,[],_=>by simp [Ij,Lib.splitK]
 | d,y::r,h=>by
  rw [Nx,lC,Afb _ (h d (by simp)),P7 y r (fun s hs=>h s (by simp [hs]))]
theorem Ux:∀ (d:List UInt8) (r:List (List UInt8)),(∀ s∈d::r,(32:UInt8) ∉ s)→(d++Ij r).count 32=r.length
 | d,[],h=>by simpa [Ij] using List.count_eq_zero.2 (h d (by simp))
 | d,y::r,h=>by
  rw [Nx,List.count_append,List.count_cons_self,Ux y r (fun s hs=>h s (by simp [hs])),List.count_eq_zero.2 (h d (by simp)),lC]
  omega
theorem Aby {d:List UInt8} {r:List (List UInt8)} (h:∀ s∈d::r,(32:UInt8) ∉ s):Cy (d++Ij r)=d::r:=by
 unfold Cy Lib.split;rw [Lib.count_one,Ux d r h,P7 d r h]
theorem Ri:∀ (k:Nat) (s:List UInt8),∃ d r,Lib.splitK [32] 0 k s=d::r∧s=d++Ij r
 | 0,s=>⟨s,[],rfl,by simp [Ij]⟩
 | k+1,s=>by
  unfold Lib.splitK
  by_cases hi:ix 32 s < s.length
  ·have h1:Lib.index s [32]=((ix 32 s:Nat):Int):=by rw [Mm,if_pos hi]
   rw [h1,if_neg (by rw [beq_iff_eq];omega)];obtain ⟨d,r,e1,e2⟩:=Ri k (s.drop (((ix 32 s:Nat):Int).toNat+([32]:List UInt8).length));refine ⟨_,_,rfl,?_⟩;rw [e1,Nx,← e2];have h2:=Aze 32 s hi;have h3:s.drop (ix 32 s)=32::s.drop (ix 32 s+1):=by
    rw [List.drop_eq_getElem_cons hi]
    congr 1
    rw [List.getElem?_eq_getElem hi] at h2
    exact Option.some.inj h2
   have h4:s=s.take (ix 32 s)++32::s.drop (ix 32 s+1):=by rw [← h3,List.take_append_drop]
   simpa using h4
  ·have h1:Lib.index s [32] = -1:=by rw [Mm,if_neg hi]
   rw [h1]
   exact ⟨s,[],by simp,by simp [Ij]⟩
theorem Ua (s:List UInt8):∃ d r,Cy s=d::r∧s=d++Ij r:=Ri _ s
theorem Aer (zs:List Int):Bn zs=Ij (zs.map Lib.itoa):=by unfold Bn Ij;rw [List.flatMap_map]
theorem Xl {c:UInt8} {z:Int} (h:¬ Nr c) (D:c≠45):c ∉ Lib.itoa z:=by
 unfold Lib.itoa
 split
 ·intro A
  rcases List.mem_cons.1 A with A | A
  ·exact D A
  exact Pw h A
 exact Pw h
theorem Te {k:Nat} {c:UInt8} (h:c=10∨c=32):c ∉ Cb k:=by
 unfold Cb
 split <;> rcases h with rfl | rfl <;> decide
theorem Aeq {zs:List Int}:(10:UInt8) ∉ Bn zs:=by
 unfold Bn;simp only [List.mem_flatMap,not_exists,not_and,mC,not_or]
 exact fun z _=>⟨tD,Xl tD tD⟩
theorem Kw {x:NotD} {sz:Int} {r:List UInt8}:xC (Cm x sz++r) [10]=(Cb x.kind++Bn (fm (nuK x sz)),r,true):=by
 have:Cm x sz++r=(Cb x.kind++Bn (fm (nuK x sz)))++10::r:=by unfold Cm;simp
 rw [this,Iy];intro h
 rcases List.mem_append.1 h with h | h
 ·exact Te (Or.inl rfl) h
 exact Aeq h
theorem Kv {k:Nat} {zs:List Int}:Cy (Cb k++Bn zs)=Cb k::zs.map Lib.itoa:=by
 rw [Aer,Aby];intro s A
 rcases List.mem_cons.1 A with rfl | A
 ·exact Te (Or.inr rfl)
 obtain ⟨z,_,rfl⟩:=List.mem_map.1 A
 exact Xl tD tD
theorem Mf {j k:Nat} (A:1≤j∧j≤5) (D:1≤k∧k≤5) (h:Cb j=Cb k):j=k:=by
 rcases (show j=1∨j=2∨j=3∨j=4∨j=5 by omega) with rfl | rfl | rfl | rfl | rfl <;>
 rcases (show k=1∨k=2∨k=3∨k=4∨k=5 by omega) with rfl | rfl | rfl | rfl | rfl <;> first | rfl | (exact absurd h tD)
theorem Afz:∀ (l:List UInt8) (acc:Nat),(∀ c∈l,Nr c)→L5 l acc≤18446744073709551615→Lib.parseUint10 acc l=.ok (L5 l acc)
 | [],acc,_,_=>rfl
 | c::r,acc,hd,hv=>by
  have hc:48≤c.toNat∧c.toNat≤57:=hd c (by simp);simp only [L5] at hv ⊢;have:=Abm r (10 * acc+(c.toNat - 48));unfold Lib.parseUint10;rw [if_pos hc,if_neg tM,if_neg tM,Nat.mul_comm acc 10]
  exact Afz r _ (fun x hx=>hd x (by simp [hx])) hv
theorem Aon {u:Nat} (h:u≤18446744073709551615):Lib.parseMag (Lib.decDigits u)=.ok u:=by
 unfold Lib.parseMag;rw [if_neg (Aef u),Afz _ 0 (Lm u) (by rw [J1];exact h),J1]
theorem Tm {z:Int} (h:Al .i64 z):Lib.atoiAll (Lib.itoa z)=.ok z:=by
 obtain ⟨D,E⟩:=h;have D:-9223372036854775808≤z:=D;have E:z≤9223372036854775807:=E
 rcases Int.lt_or_le z 0 with A | A
 ·obtain ⟨u,O⟩:=Int.eq_ofNat_of_zero_le (show 0≤-z by omega);have N:z = -(u:Int):=by omega
  subst N;rw [Lib.itoa_neg u tM];unfold Lib.atoiAll;simp only [show (45:UInt8).toNat=45 from rfl,or_true,if_true,Aon (show u≤18446744073709551615 by omega),not_true_eq_false,false_and,if_false,true_and];rw [if_neg tM]
 ·obtain ⟨u,rfl⟩:=Int.eq_ofNat_of_zero_le A;rw [Lib.itoa_nonneg]
  cases hd:Lib.decDigits u with
  | nil=>exact absurd hd (Aef u)
  | cons c r =>
   have H:=Lm u c (by rw [hd];simp);have I:48≤c.toNat∧c.toNat≤57:=H;unfold Lib.atoiAll;simp only [show ¬ (c.toNat=43∨c.toNat=45) by omega,if_false,← hd];rw [Aon (show u≤18446744073709551615 by omega)];simp only [show ¬ c.toNat=45 by omega,not_false_eq_true,true_and,false_and,if_false];rw [if_neg tM]
theorem Ahi {z y:Int} (E:Al .i64 z) (D:Al .i64 y) (h:Lib.itoa z=Lib.itoa y):z=y:=by
 have A:=Tm E;rw [h,Tm D] at A
 exact (Lib.NumEnd.ok.inj A).symm
structure Head (x:NotD) (sz:Int):Prop where
 kd:1≤x.kind∧x.kind≤5
 fa:uAt x.kind∨x.at_=0
 fc:uCo x.kind∨x.count=0
 ft:uTo x.kind∨x.to=0
 fi:uIt x.kind∨sz=0
 it:x.iZ=[]
 ra:Al .i64 x.at_
 rc:Al .i64 x.count
 rt:Al .i64 x.to
 rs:0≤sz∧sz≤1024
structure FlH (x:NotD) (sz:Int):Prop where
 kd:1≤x.kind∧x.kind≤5
 fa:uAt x.kind∨x.at_=0
 fc:uCo x.kind∨x.count=0
 ft:uTo x.kind∨x.to=0
 fi:uIt x.kind∨sz=0
 it:x.iZ=[]
 ra:Al .i64 x.at_
 rc:Al .i64 x.count
 rt:Al .i64 x.to
 rz:Al .i64 sz
theorem Head.fl {x:NotD} {sz:Int} (h:Head x sz):FlH x sz:=⟨h.kd,h.fa,h.fc,h.ft,h.fi,h.it,h.ra,h.rc,h.rt,Bi (by have:=h.rs;omega) (by have:=h.rs;omega)⟩
theorem FlH.head {x:NotD} {sz:Int} (h:FlH x sz) (A:0≤sz∧sz≤1024):Head x sz:=⟨h.kd,h.fa,h.fc,h.ft,h.fi,h.it,h.ra,h.rc,h.rt,A⟩
theorem FlH.ink {x:NotD} {sz:Int} (h:FlH x sz):∀ z∈fm (nuK x sz),Al .i64 z:=Oh h.ra h.rc h.rt h.rz
theorem Head.ink {x:NotD} {sz:Int} (h:Head x sz):∀ z∈fm (nuK x sz),Al .i64 z:=Oh h.ra h.rc h.rt (Bi (by have:=h.rs;omega) (by have:=h.rs;omega))
def H7 (c:List UInt8):Prop:=∃ x sz r,Head x sz∧c=Cm x sz++r
theorem J4:∀ {a b:List Int},(∀ z∈a,Al .i64 z)→(∀ z∈b,Al .i64 z)→a.map Lib.itoa=b.map Lib.itoa→a=b
 | [],[],_,_,_=>rfl
 | [],y::b,_,_,h=>by cases h
 | z::a,[],_,_,h=>by cases h
 | z::a,y::b,h1,h2,h=>by
  simp only [List.map_cons,List.cons.injEq] at h;rw [Ahi (h1 z (by simp)) (h2 y (by simp)) h.1,J4 (fun q hq=>h1 q (by simp [hq])) (fun q hq=>h2 q (by simp [hq])) h.2]
theorem Aph {α:Type} {b:Bool} {v:α} {l:List (Bool × α)}:fm ((b,v)::l)=(if b=true then [v] else [])++fm l:=by
 unfold fm;cases b <;> simp
theorem Aks {x y:NotD} {sz tz:Int} (E:x.kind=y.kind) (H:FlH x sz) (I:FlH y tz) (h:fm (nuK x sz)=fm (nuK y tz)):x=y∧sz=tz:=by
 have key:∀ (b:Bool) (a c:Int) (l r:List Int),l.length=r.length→(if b=true then [a] else [])++l=(if b=true then [c] else [])++r→l=r∧(b=true→a=c):=by
  intro b a c l r hl h
  cases b
  ·exact ⟨by simpa using h,fun h=>by cases h⟩
  simp only [if_true,List.cons_append,List.nil_append,List.cons.injEq] at h;exact ⟨h.2,fun _=>h.1⟩
 have D:∀ (b:Bool) (a c:Int) (l r:List Int),l.length=r.length→((if b=true then [a] else [])++l).length=((if b=true then [c] else [])++r).length:=by
  intro b a c l r hl;cases b <;> simp [hl]
 unfold nuK at h;rw [E] at h;simp only [Aph] at h;have T:(fm ([]:List (Bool × Int))).length=(fm ([]:List (Bool × Int))).length:=rfl;have N:=D (decide (uIt y.kind)) sz tz _ _ T;have O:=D (decide (uTo y.kind)) x.to y.to _ _ N;have U:=D (decide (uCo y.kind)) x.count y.count _ _ O;obtain ⟨h1,V⟩:=key _ _ _ _ _ U h;obtain ⟨h2,Y⟩:=key _ _ _ _ _ O h1;obtain ⟨h3,g3⟩:=key _ _ _ _ _ N h2;obtain ⟨_,g4⟩:=key _ _ _ _ _ T h3;have A:∀ {u v:Prop} {a c:Int} [Decidable v],(u↔v)→(u∨a=0)→(v∨c=0)→(decide v=true→a=c)→a=c:=by
  intro u v a c _ S ha hc hg
  by_cases hv:v
  ·exact hg (decide_eq_true hv)
  rw [ha.resolve_left (fun h=>hv (S.1 h)),hc.resolve_left hv]
 have i1:x.at_=y.at_:=A (by rw [E]) H.fa I.fa V;have i2:x.count=y.count:=A (by rw [E]) H.fc I.fc Y;have i3:x.to=y.to:=A (by rw [E]) H.ft I.ft g3;have i4:sz=tz:=A (by rw [E]) H.fi I.fi g4;refine ⟨?_,i4⟩;have i5:x.iZ=y.iZ:=by rw [H.it,I.it]
 clear H I key D A N O U h1 h2 h3 h V Y g3 g4
 cases x;cases y
 simp only [NotD.mk.injEq] at *
 exact ⟨E,i1,i2,i3,i5⟩
theorem Pr {x y:NotD} {sz A:Int} {r q:List UInt8} (H:Head x sz) (I:Head y A) (h:Cm x sz++r=Cm y A++q):x=y∧sz=A∧r=q:=by
 have D:xC (Cm x sz++r) [10]=xC (Cm y A++q) [10]:=by rw [h]
 rw [Kw,Kw] at D;simp only [Prod.mk.injEq,and_true] at D;have E:Cy (Cb x.kind++Bn (fm (nuK x sz)))=Cy (Cb y.kind++Bn (fm (nuK y A))):=by rw [D.1]
 rw [Kv,Kv,List.cons.injEq] at E;have S:=Mf H.kd I.kd E.1;obtain ⟨N,O⟩:=Aks S H.fl I.fl (J4 H.ink I.ink E.2)
 exact ⟨N,O,D.2⟩
def okI (ys:List ItemD):Prop:=∀ y∈ys,ItemOk 8 y∧y.key < 18446744073709551616∧y.typ < 256
def O4 (c:List UInt8):Prop:=∃ y r,(ItemOk 8 y∧y.key < 18446744073709551616∧y.typ < 256)∧c=Cx y++10::r
theorem Oq {y:ItemD} {r:List UInt8} (h:ItemOk 8 y):xC (Cx y++10::r) [10]=(Cx y,r,true):=Iy (Qx h)
theorem Su {a b:List ItemD}:Ce (a++b)=Ce a++Ce b:=by unfold Ce;simp
theorem Zg {y:ItemD}:Ce [y]=Cx y++[10]:=by unfold Ce;simp
theorem Qy:∀ {a b:List ItemD} {r q:List UInt8},okI a→okI b→a.length=b.length→Ce a++r=Ce b++q→a=b∧r=q
 | [],[],r,q,_,_,_,h=>⟨rfl,by simpa [Ce] using h⟩
 | [],y::b,_,_,_,_,h,_=>by cases h
 | x::a,[],_,_,_,_,h,_=>by cases h
 | x::a,y::b,r,q,h1,h2,h3,h=>by
  have e1:Ce (x::a)++r=Cx x++10::(Ce a++r):=by unfold Ce;simp
  have e2:Ce (y::b)++q=Cx y++10::(Ce b++q):=by unfold Ce;simp
  rw [e1,e2] at h;have hx:=h1 x (by simp);have hy:=h2 y (by simp);have h4:xC (Cx x++10::(Ce a++r)) [10]=xC (Cx y++10::(Ce b++q)) [10]:=by rw [h]
  rw [Oq hx.1,Oq hy.1] at h4;simp only [Prod.mk.injEq,and_true] at h4;have e:=Aai hx.1 hy.1 hx.2.1 hy.2.1 h4.1;obtain ⟨e3,e4⟩:=Qy (fun z hz=>h1 z (by simp [hz])) (fun z hz=>h2 z (by simp [hz])) (by simpa using h3) h4.2
  exact ⟨by rw [e,e3],e4⟩
theorem Pp {a b:List ItemD} {r q:List UInt8} (H:okI a) (D:okI b) (N:a.length < b.length) (h:Ce a++r=Ce b++q):O4 r:=by
 have E:b=b.take a.length++b.drop a.length:=(List.take_append_drop _ _).symm;rw [E,Su,List.append_assoc] at h;obtain ⟨_,A⟩:=Qy H (fun y I=>D y (List.mem_of_mem_take I)) (by rw [lT];omega) h
 cases hd:b.drop a.length with
 | nil=>have:=congrArg List.length hd;simp only [lD,lN] at this;omega
 | cons y t =>
  rw [hd] at A;refine ⟨y,Ce t++q,D y (List.mem_of_mem_drop (by rw [hd];simp)),?_⟩;rw [A];unfold Ce;simp
def nlN (xs:List NotD):Nat:=(xs.map fun x=>1+x.iZ.length).sum
theorem Oj {xs:List NotD} {x:NotD}:nlN (xs++[x])=nlN xs+(1+x.iZ.length):=by unfold nlN;simp
inductive PR:List NotD→List UInt8→List NotD × Nat × Int→Prop
 | done {xs}:PR xs [] (xs,0,0)
 | nohead {xs c}:c≠[]→¬ H7 c→PR xs c ([],nlN xs+1,5)
 | full {xs c}:H7 c→xs.length=32→PR xs c ([],nlN xs+1,3)
 | bad {xs c x sz ys r}:Head x sz→xs.length≠32→c=Cm x sz++(Ce ys++r)→okI ys→((ys.length:Nat):Int) < sz→¬ O4 r→PR xs c ([],nlN xs+1+ys.length+1,5)
 | step {xs c x sz ys r q}:Head x sz→xs.length≠32→c=Cm x sz++(Ce ys++r)→okI ys→((ys.length:Nat):Int)=sz→PR (xs++[{ x with iZ:=ys }]) r q→PR xs c q
theorem R5 {x:NotD} {sz:Int} {r:List UInt8}:Cm x sz++r≠[]:=by unfold Cm;simp
theorem Apb {c:List UInt8} (h:H7 c):c≠[]:=by
 obtain ⟨x,sz,r,_,rfl⟩:=h;exact R5
theorem PR.uniq {xs:List NotD} {c:List UInt8} {a b:List NotD × Nat × Int} (H:PR xs c a):PR xs c b→a=b:=by
 induction H with
 | done =>
  intro D
  cases D with
  | done=>rfl
  | nohead h _=>exact absurd rfl h
  | full h _=>exact absurd rfl (Apb h)
  | bad _ _ h=>exact absurd h.symm R5
  | step _ _ h=>exact absurd h.symm R5
 | nohead h hn =>
  intro D
  cases D with
  | done=>exact absurd rfl h
  | nohead=>rfl
  | full h3 _=>exact absurd h3 hn
  | bad h3 _ A=>exact absurd ⟨_,_,_,h3,A⟩ hn
  | step h3 _ A=>exact absurd ⟨_,_,_,h3,A⟩ hn
 | full h hl =>
  intro D
  cases D with
  | done=>exact absurd rfl (Apb h)
  | nohead _ h3=>exact absurd h h3
  | full=>rfl
  | bad _ h3=>exact absurd hl h3
  | step _ h3=>exact absurd hl h3
 | @bad xs c x sz ys r hh hl hc hok hlt hn =>
  intro D
  cases D with
  | done=>exact absurd hc.symm R5
  | nohead _ h3=>exact absurd ⟨_,_,_,hh,hc⟩ h3
  | full _ h3=>exact absurd h3 hl
  | @bad _ _ y tz zs q hh2 _ hc2 hok2 hlt2 hn2 =>
   rw [hc] at hc2;obtain ⟨_,rfl,A⟩:=Pr hh hh2 hc2
   rcases Nat.lt_trichotomy ys.length zs.length with E | E | E
   ·exact absurd (Pp hok hok2 E A) hn
   ·rw [E]
   ·exact absurd (Pp hok2 hok E A.symm) hn2
  | @step _ _ y tz zs q _ hh2 _ hc2 hok2 he2 _ =>
   rw [hc] at hc2;obtain ⟨_,rfl,A⟩:=Pr hh hh2 hc2
   exact absurd (Pp hok hok2 tM A) hn
 | @step xs c x sz ys r q hh hl hc hok he _ ih =>
  intro D
  cases D with
  | done=>exact absurd hc.symm R5
  | nohead _ h3=>exact absurd ⟨_,_,_,hh,hc⟩ h3
  | full _ h3=>exact absurd h3 hl
  | @bad _ _ y tz zs q2 hh2 _ hc2 hok2 hlt2 hn2 =>
   rw [hc] at hc2;obtain ⟨_,rfl,A⟩:=Pr hh hh2 hc2
   exact absurd (Pp hok2 hok tM A.symm) hn2
  | @step _ _ y tz zs q2 _ hh2 _ hc2 hok2 he2 hp =>
   rw [hc] at hc2;obtain ⟨rfl,rfl,A⟩:=Pr hh hh2 hc2;obtain ⟨rfl,rfl⟩:=Qy hok hok2 tM A
   exact ih hp
theorem Ox {c:UInt8} {s:List UInt8} (h:(xC s [c]).2.2=true):s=(xC s [c]).1++c::(xC s [c]).2.1:=by
 rw [Ni] at h ⊢
 by_cases hi:ix c s < s.length
 ·simp only [if_pos hi];have A:=Aze c s hi;have D:s.drop (ix c s)=c::s.drop (ix c s+1):=by
   rw [List.drop_eq_getElem_cons hi]
   congr 1
   rw [List.getElem?_eq_getElem hi] at A
   exact Option.some.inj A
  rw [← D,List.take_append_drop]
 rw [if_neg hi] at h;cases h
theorem Aim {s:List UInt8} {z:Int} (h:Lib.atoiAll s=.ok z):Al .i64 z:=by
 unfold Lib.atoiAll at h
 split at h
 ·cases h
 simp only at h
 split at h
 ·cases h
 ·cases h
 split at h
 ·cases h
 split at h
 ·cases h
 rename_i E H
 have A:=Lib.NumEnd.ok.inj h;subst A
 split
 ·rename_i D;exact Bi tM tM
 rename_i D;exact Bi tM tM
theorem Apc {c:List UInt8} {W:List UInt8} {wr:List (List UInt8)} (hw:Cy (xC c [10]).1=W::wr) (h:H7 c) :
  (xC c [10]).2.2=true∧∃ x sz,Head x sz∧W=Cb x.kind∧wr=(fm (nuK x sz)).map Lib.itoa:=by
 obtain ⟨x,sz,r,A,rfl⟩:=h;rw [Kw] at hw ⊢;rw [Kv,List.cons.injEq] at hw
 exact ⟨rfl,x,sz,A,hw.1.symm,hw.2.symm⟩
def A2i (z:Int) (W:List UInt8):Prop:=(z = -1∧∀ j,j < 6→Cb j≠W)∨∃ k:Nat,k < 6∧z=((k:Nat):Int)∧Cb k=W∧∀ j,j < k→Cb j≠W
theorem kind_z {z:Int} {k:Nat} (h:A2i z (Cb k)) (H:1≤k∧k≤5):z=((k:Nat):Int):=by
 rcases h with ⟨_,h⟩ | ⟨j,I,E,D,N⟩
 ·exact absurd rfl (h k tM)
 rcases Nat.eq_zero_or_pos j with A | A
 ·subst A
  rcases (show k=1∨k=2∨k=3∨k=4∨k=5 by omega) with rfl | rfl | rfl | rfl | rfl <;> exact absurd D tD
 rw [E,Mf ⟨A,tM⟩ H D]
theorem W4 {c W:List UInt8} {wr:List (List UInt8)} {z:Int} (hw:Cy (xC c [10]).1=W::wr) (H:A2i z W) (h:(xC c [10]).2.2=false∨z < 1):¬ H7 c:=by
 intro E;obtain ⟨A,x,sz,D,rfl,_⟩:=Apc hw E;have:=kind_z H D.kd
 rcases h with h | h
 ·rw [h] at A;cases A
 have:=D.kd;omega
theorem W3 {c W:List UInt8} {wr:List (List UInt8)} {k:Nat} (hw:Cy (xC c [10]).1=W::wr) (I:1≤k∧k≤5) (H:Cb k=W) (h:H7 c):∃ x sz,Head x sz∧x.kind=k∧wr=(fm (nuK x sz)).map Lib.itoa:=by
 obtain ⟨N,x,sz,A,D,E⟩:=Apc hw h
 exact ⟨x,sz,A,Mf A.kd I (by rw [H,D]),E⟩
theorem Agp {c W:List UInt8} {wr:List (List UInt8)} {k b b2:Nat} (hw:Cy (xC c [10]).1=W::wr) (E:1≤k∧k≤5) (D:Cb k=W) (H:¬ wr.length=(fm (Hh k b b2)).length):¬ H7 c:=by
 intro h;obtain ⟨x,sz,I,rfl,A⟩:=W3 hw E D h
 exact H (by rw [A,lM,Ve])
theorem Ago {c W w:List UInt8} {wr:List (List UInt8)} {k i:Nat} {z:Int} {b:Bool} (hw:Cy (xC c [10]).1=W::wr) (V:1≤k∧k≤5) (T:Cb k=W) (A:wr[i]?=some w)
  (U:(Lib.atoiAll w=.ok z∧b=true)∨((∀ x,Lib.atoiAll w≠.ok x)∧b=false)) (D:b=false∨Lib.itoa z≠w):¬ H7 c:=by
 intro h;obtain ⟨x,sz,N,rfl,O⟩:=W3 hw V T h;rw [O,List.getElem?_map] at A
 cases hy:(fm (nuK x sz))[i]? with
 | none=>rw [hy] at A;cases A
 | some y =>
  rw [hy] at A;simp only [Option.map_some,Option.some.injEq] at A;have H:=Tm (N.ink y (mG hy));rw [A] at H
  rcases U with ⟨E,I⟩ | ⟨E,I⟩
  ·rw [H] at E;have S:=Lib.NumEnd.ok.inj E;subst S
   rcases D with D | D
   ·rw [I] at D;cases D
   ·exact D A
  ·exact E _ H
def Wd (wr:List (List UInt8)) (x:NotD) (sz:Int) (i:Nat):Prop:=∀ j z,j < i→(fm (nuK x sz))[j]?=some z→wr[j]?=some (Lib.itoa z)
theorem wd_all {wr:List (List UInt8)} {x:NotD} {sz:Int} {i:Nat} (h:Wd wr x sz i) (D:wr.length=(fm (nuK x sz)).length) (A:(fm (nuK x sz)).length≤i):wr=(fm (nuK x sz)).map Lib.itoa:=by
 apply List.ext_getElem?
 intro j;rw [List.getElem?_map]
 cases hz:(fm (nuK x sz))[j]? with
 | none =>
  rw [List.getElem?_eq_none_iff] at hz;rw [List.getElem?_eq_none_iff.2 tM];rfl
 | some z=>rw [h j z (by have:=A3 hz;omega) hz];rfl
theorem Agn {c W:List UInt8} {wr:List (List UInt8)} {x:NotD} {sz:Int} (hw:Cy (xC c [10]).1=W::wr) (D:FlH x sz) (N:Cb x.kind=W) (E:wr=(fm (nuK x sz)).map Lib.itoa) (S:sz < 0∨1024 < sz):¬ H7 c:=by
 intro h;obtain ⟨y,T,A,H,I⟩:=W3 hw D.kd N h;obtain ⟨_,O⟩:=Aks H.symm D A.fl (J4 D.ink A.ink (by rw [← E,I]));have:=A.rs
 omega
theorem head_of {c W:List UInt8} {wr:List (List UInt8)} {x:NotD} {sz:Int} (hw:Cy (xC c [10]).1=W::wr) (I:Cb x.kind=W) (D:wr=(fm (nuK x sz)).map Lib.itoa) (N:(xC c [10]).2.2=true):c=Cm x sz++(xC c [10]).2.1:=by
 obtain ⟨d,r,A,H⟩:=Ua (xC c [10]).1;rw [hw] at A;simp only [List.cons.injEq] at A;obtain ⟨rfl,rfl⟩:=A;have E:=Ox N;rw [H,← I,D,← Aer] at E
 conv=>lhs;rw [E]
 unfold Cm;simp
def Oe (x:NotD) (sz:Int) (o:Nat) (v:Int):NotD × Int:=match o with
 | 1=>({ x with at_:=v },sz)
 | 2=>({ x with count:=v },sz)
 | 3=>({ x with to:=v },sz)
 | _=>(x,v)
theorem Amy {x:NotD} {b b2 i:Nat} {sz v:Int} {p:Nat × Nat} (h:(fm (Hh x.kind b b2))[i]?=some p) :
  fm (nuK (Oe x sz p.2 v).1 (Oe x sz p.2 v).2)=(fm (nuK x sz)).set i v∧((p=(b,1)∧uAt x.kind)∨(p=(b,2)∧uCo x.kind)∨(p=(b,3)∧uTo x.kind)∨(p=(b2,0)∧uIt x.kind)):=by
 unfold Hh fm at h;unfold nuK fm;have I:=fun h=>(decide_eq_true_iff (p:=uAt x.kind)).1 h;have N:=fun h=>(decide_eq_true_iff (p:=uCo x.kind)).1 h;have O:=fun h=>(decide_eq_true_iff (p:=uTo x.kind)).1 h;have S:=fun h=>(decide_eq_true_iff (p:=uIt x.kind)).1 h
 rcases bE (decide (uAt x.kind)) with A | A <;> rcases bE (decide (uCo x.kind)) with D | D <;>
 rcases bE (decide (uTo x.kind)) with E | E <;> rcases bE (decide (uIt x.kind)) with H | H <;> rw [A,D,E,H] at h <;>
 simp only [List.filter_cons,List.filter_nil,if_true,if_false,Bool.false_eq_true,List.map_cons,List.map_nil] at h <;>
 rcases i with _ | _ | _ | _ | i <;> simp only [List.getElem?_cons_zero,List.getElem?_cons_succ,List.getElem?_nil,Option.some.injEq,reduceCtorEq] at h <;>
 first | contradiction | (subst h;simp only [Oe,A,D,E,H,List.filter_cons,List.filter_nil,if_true,if_false,Bool.false_eq_true,List.map_cons,List.map_nil,List.set_cons_zero,List.set_cons_succ,true_and];simp_all)
theorem put_ok {x:NotD} {b b2 i:Nat} {sz v:Int} {p:Nat × Nat} {wr:List (List UInt8)} (h:(fm (Hh x.kind b b2))[i]?=some p) (A:FlH x sz) (hw:Wd wr x sz i) (H:Al .i64 v) (U:wr[i]?=some (Lib.itoa v)) :
  (Oe x sz p.2 v).1.kind=x.kind∧FlH (Oe x sz p.2 v).1 (Oe x sz p.2 v).2∧Wd wr (Oe x sz p.2 v).1 (Oe x sz p.2 v).2 (i+1):=by
 obtain ⟨O,S⟩:=Amy (sz:=sz) (v:=v) h;have T:(Oe x sz p.2 v).1.kind=x.kind:=by unfold Oe;split <;> rfl
 refine ⟨T,?_,?_⟩
 ·rcases S with ⟨rfl,D⟩ | ⟨rfl,D⟩ | ⟨rfl,D⟩ | ⟨rfl,D⟩
  ·exact ⟨A.kd,Or.inl D,A.fc,A.ft,A.fi,A.it,H,A.rc,A.rt,A.rz⟩
  ·exact ⟨A.kd,A.fa,Or.inl D,A.ft,A.fi,A.it,A.ra,H,A.rt,A.rz⟩
  ·exact ⟨A.kd,A.fa,A.fc,Or.inl D,A.fi,A.it,A.ra,A.rc,H,A.rz⟩
  exact ⟨A.kd,A.fa,A.fc,A.ft,Or.inl D,A.it,A.ra,A.rc,A.rt,H⟩
 intro j z V E;rw [O] at E
 rcases Nat.lt_succ_iff_lt_or_eq.1 V with I | I
 ·rw [List.getElem?_set_ne tM] at E;exact hw j z I E
 subst I;have N:=A3 E;rw [List.length_set] at N;rw [List.getElem?_set_self N] at E;rw [← Option.some.inj E];exact U
theorem Xo {s:List UInt8} (O:(10:UInt8) ∉ s):(∃ y,Rd8 s y∧(s.length≤1048575→D1 (s++[10])=([y],0,0)))∨((∀ y,¬ Rd8 s y)∧(D1 (s++[10])).2.2≠0):=by
 have H:xC (s++[10]) [10]=(s,[],true):=Iy O;have D:¬ (s++[10])=[]:=by simp
 by_cases A:∃ y,Rd8 s y
 ·obtain ⟨y,A⟩:=A;refine Or.inl ⟨y,A,fun S=>?_⟩;have E:¬ 1048576 < (s++[10]).length:=by simp only [lA,lC,lN];omega
  unfold D1;rw [if_neg E];have I:pGo ((s++[10]).length+1) [] (s++[10])=pGo (s++[10]).length ([]++[y]) []:=by
   conv=>lhs;unfold pGo
   rw [if_neg D,H];simp only [if_true,Qz A]
   rfl
  have N:(s++([10]:List UInt8)).length=s.length+1:=by simp
  rw [I,N];unfold pGo;rw [if_pos rfl];rfl
 refine Or.inr ⟨fun y h=>A ⟨y,h⟩,?_⟩;unfold D1
 split
 ·decide
 unfold pGo;rw [if_neg D,H];simp only [if_true,Aal (fun y h=>A ⟨y,h⟩)]
 decide
theorem cut_not {c:UInt8} {s:List UInt8}:c ∉ (xC s [c]).1:=by
 rw [Ni]
 by_cases hi:ix c s < s.length
 ·rw [if_pos hi];intro h;obtain ⟨j,A⟩:=List.mem_iff_getElem?.1 h;have D:=A3 A;rw [lT] at D;rw [List.getElem?_take,if_pos tM] at A
  exact Azd c s j c tM A rfl
 rw [if_neg hi];intro h;obtain ⟨j,A⟩:=List.mem_iff_getElem?.1 h
 exact Azd c s j c (by have:=A3 A;have:=ix_le c s;simp only at *;omega) A rfl
theorem Adq {c:List UInt8} (H:c.length≤1048576) (h:(xC c [10]).2.2=false∨(D1 ((xC c [10]).1++[10])).2.2≠0∨(D1 ((xC c [10]).1++[10])).1.length≠1):¬ O4 c:=by
 rintro ⟨y,r,A,rfl⟩;rw [Oq A.1] at h;simp only at h
 rcases h with h | h
 ·cases h
 rcases Xo (Qx A.1) with ⟨I,D,E⟩ | ⟨D,_⟩
 ·simp only [lA,lC] at H;rw [E tM] at h
  rcases h with h | h <;> exact h rfl
 exact D y ⟨A.1,A.2.1,rfl⟩
theorem Amx {s:List UInt8} {y:ItemD} (h:Rd8 s y):y.typ < 256:=by
 have:=h.1;unfold ItemOk at this
 omega
theorem Azf {c:List UInt8} (I:(xC c [10]).2.2=true) (h:(D1 ((xC c [10]).1++[10])).2.2=0) (N:(D1 ((xC c [10]).1++[10])).1.length=1) (O:c.length≤1048576) :
  ∃ y,(D1 ((xC c [10]).1++[10])).1=[y]∧(ItemOk 8 y∧y.key < 18446744073709551616∧y.typ < 256)∧c=Ce [y]++(xC c [10]).2.1:=by
 have D:=Ox I
 rcases Xo (cut_not (c:=10) (s:=c)) with ⟨y,A,H⟩ | ⟨_,A⟩
 ·have E:=congrArg List.length D;simp only [lA,lC] at E;refine ⟨y,by rw [H tM],⟨A.1,A.2.1,Amx A⟩,?_⟩;rw [Zg,A.2.2]
  simpa using D
 exact absurd h A
theorem kfn_pos {k:Nat} (h:1≤k):kfn k=.func (.func (Gs k)) #[] #[]:=by unfold kfn;rw [if_neg tM]
theorem fl_zero {k:Nat} (A:1≤k∧k≤5):FlH ⟨k,0,0,0,[]⟩ 0:=⟨A,Or.inr rfl,Or.inr rfl,Or.inr rfl,Or.inr rfl,rfl,(Bi (n:=0) tD tD),(Bi (n:=0) tD tD),(Bi (n:=0) tD tD),(Bi (n:=0) tD tD)⟩
theorem ok_of {s:List UInt8} {z:Int} {b:Bool} (h:(Lib.atoiAll s=.ok z∧b=true)∨((∀ x,Lib.atoiAll s≠.ok x)∧b=false)) (A:b=true):Lib.atoiAll s=.ok z:=by
 rcases h with h | ⟨_,h⟩
 ·exact h.1
 rw [h] at A;cases A
theorem Aug {z:Int} {W:List UInt8} (h:A2i z W) (H:¬ z < 1):∃ k:Nat,(1≤k∧k≤5)∧z=((k:Nat):Int)∧Cb k=W:=by
 rcases h with ⟨A,_⟩ | ⟨k,A,D,E,_⟩
 ·omega
 exact ⟨k,⟨tM,tM⟩,D,E⟩
end Go.Proofs.YtmmhmcplegpenaaGreatDoor
