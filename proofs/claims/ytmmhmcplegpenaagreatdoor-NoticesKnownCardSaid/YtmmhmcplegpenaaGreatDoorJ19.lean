/- Own lemmas and walks. -/
import Derived.Test.YtmmhmcplegpenaaGreatDoorJ14
import Derived.Test.YtmmhmcplegpenaaGreatDoorJ15
import Derived.Test.YtmmhmcplegpenaaGreatDoorJ17
import Derived.Test.YtmmhmcplegpenaaGreatDoorJ9
import Derived.Test.YtmmhmcplegpenaaGreatDoorJ18
set_option linter.unusedSimpArgs false
set_option linter.unusedVariables false
set_option maxRecDepth 10000
set_option maxHeartbeats 1600000
open Go.Value renaming slice→vS,string→vT,int→vI,bool→vB,pointer→vP
open Go.IntKind renaming i64→kI,u64→kU
open Go.Lib renaming cut→xC
open Go.Proofs.Tryz renaming prog→pG
open Go.Y.Res renaming blk→rB,row→rR
open Go.Y (pP qT iI iB iU sN)
open List renaming length_append→lA,length_cons→lC,length_nil→lN,length_take→lT,length_drop→lD,mem_of_getElem?→mG,mem_cons→mC,length_map→lM
namespace Go.Proofs.YtmmhmcplegpenaaGreatDoor
open Go Go.Y Go.RowKit
theorem Qu (x:NotD) (l:List NotD):Bz (x::l)=It x++Bz l:=by unfold Bz;simp
theorem Akn:∀ (r p:List NotD) {c:List UInt8} {q:List NotD × Nat × Int},(∀ x∈r,Fz x=0∧Abi x)→p.length+r.length≤32→PR (p++r) c q→PR p (Bz r++c) q
 | [],p,c,q,_,_,hq=>by rw [List.append_nil] at hq;exact hq
 | x::r,p,c,q,h,hl,hq=>by
  obtain ⟨h1,b1,b2,b3,b4⟩:=h x (by simp);obtain ⟨e1,e2,e3⟩:=Z5 h1;obtain ⟨e4,f1,f2,f3,f4⟩:=Ft.1 e1;have hr:=Akn r (p++[x]) (c:=c) (q:=q) (fun y hy=>h y (by simp [hy])) (by simp only [lA,lC,lN] at hl ⊢;omega) (by rw [List.append_assoc,List.singleton_append];exact hq);refine PR.step (x:={ x with iZ:=[] }) (sz:=((x.iZ.length:Nat):Int)) (ys:=x.iZ) (r:=Bz r++c) ⟨e4,f1,f2,f3,f4.imp id (fun h=>by rw [h];rfl),rfl,b1,b2,b3,tM⟩ (by simp only [lC] at hl;omega) ?_ (fun y hy=>⟨e3 y hy,b4 y hy⟩) rfl hr;rw [Qu];unfold It;rw [List.append_assoc,List.append_assoc];rfl
def mvN (i:Nat):NotD:=⟨3,((i:Nat):Int) % 3,1,(((i:Nat):Int)+1) % 3,[]⟩
def mvL (n:Nat):List NotD:=(List.range n).map mvN
theorem Ags (n:Nat):mvL (n+1)=mvL n++[mvN n]:=by unfold mvL;rw [List.range_succ,List.map_append];rfl
theorem Iu (n:Nat):(mvL n).length=n:=by unfold mvL;simp
theorem Ayg {n i:Nat} (h:i < n):(mvL n)[i]?=some (mvN i):=by unfold mvL;simp [h]
theorem Pj {n:Nat} {x:NotD} (h:x∈mvL n):∃ i,x=mvN i:=by
 obtain ⟨i,_,rfl⟩:=List.mem_map.1 h
 exact ⟨i,rfl⟩
theorem mvN_e (i:Nat):Dm (mvN i)=0:=Ft.2 ⟨⟨by show 1≤3;omega,by show 3≤5;omega⟩,Or.inl (show uAt 3 by decide),Or.inl (show uCo 3 by decide),Or.inl (show uTo 3 by decide),Or.inr rfl⟩
theorem Om (i:Nat):Fz (mvN i)=0∧Abi (mvN i):=by
 refine ⟨by rw [Jy (mvN_e i)];exact (Mt (l:=[]) tD (fun x A=>by cases A)).1,?_,?_,?_,fun y D=>by cases D⟩
 ·exact Bi (by show _≤((i:Nat):Int) % 3;omega) (by show ((i:Nat):Int) % 3≤_;omega)
 ·exact Bi (by show _≤(1:Int);omega) (by show (1:Int)≤_;omega)
 exact Bi (by show _≤(((i:Nat):Int)+1) % 3;omega) (by show (((i:Nat):Int)+1) % 3≤_;omega)
theorem Aye:∀ n,n≤32→(Ck c3 l3 (mvL 32) n).2=0∧(Ck c3 l3 (mvL 32) n).1.length=3
 | 0,_=>⟨rfl,rfl⟩
 | n+1,h=>by
  obtain ⟨h1,h2⟩:=Aye n tM;rw [Hk h1 (Ayg (show n < 32 by omega)),Abe (mvN_e n) rfl,Agu]
  ·exact ⟨rfl,(Agy _ _ _ _).length_eq.trans h2⟩
  ·rw [h2];unfold Ay mvN
   constructor
   ·show (0≤((n:Nat):Int) % 3∧((n:Nat):Int) % 3≤((3:Nat):Int))∧((0:Int)≤1∧(1:Int)≤((3:Nat):Int) - ((n:Nat):Int) % 3);omega
   ·show (0≤(((n:Nat):Int)+1) % 3∧(((n:Nat):Int)+1) % 3≤((3:Nat):Int) - 1)∧((0:Int)≤0∧(0:Int)≤((3:Nat):Int) - 1 - (((n:Nat):Int)+1) % 3);omega
theorem mv_all:∃ R,O2 c3 l3 (mvL 32)=(R,32,0)∧R.length=3:=by
 obtain ⟨A,D⟩:=Aye 32 (Nat.le_refl _)
 exact ⟨_,by rw [Lt Aej,Abh (i:=32) (by rw [Iu];decide) A (Iu _).symm,Iu],D⟩
theorem mv_more {x:NotD}:O2 c3 l3 (mvL 32++[x])=([],0,3):=by rw [Lt Aej,Aqd (by rw [lA,Iu];show 32 < 32+1;omega)]
theorem Wz {k:Nat}:∀ l:List NotD,(∀ x∈l,(It x).length≤k)→(Bz l).length≤k * l.length
 | [],_=>by simp [Bz]
 | x::l,h=>by
  have h1:=h x (by simp);have h2:=Wz l (fun y hy=>h y (by simp [hy]));rw [Qu,lA,lC,Nat.mul_succ];omega
theorem Agk {k:Nat}:∀ l:List NotD,(∀ x∈l,k≤(It x).length)→k * l.length≤(Bz l).length
 | [],_=>by simp
 | x::l,h=>by
  have h1:=h x (by simp);have h2:=Agk l (fun y hy=>h y (by simp [hy]));rw [Qu,lA,lC,Nat.mul_succ];omega
theorem mvN_len (i:Nat):(It (mvN i)).length≤95:=by
 obtain ⟨_,A,b2,D,_⟩:=Om i;have h:=Th (x:=mvN i) (sz:=0) (Oh A b2 D (Bi (n:=0) tD tD));have e:It (mvN i)=Cm (mvN i) 0:=by show Cm (mvN i) 0++Ce []=_;rw [show Ce []=[] from rfl,List.append_nil]
 rw [e];exact h
theorem Rz:Dk (mvL 32)=0∧D2 (mvL 32)=Bz (mvL 32)∧(Bz (mvL 32)).length≤3040:=by
 have E:=Wz (k:=95) (mvL 32) (fun x A=>by obtain ⟨i,rfl⟩:=Pj A;exact mvN_len i);rw [Iu] at E;have D:Dk (mvL 32)=0:=Ko.2 ⟨by rw [Iu];decide,fun x A=>by obtain ⟨i,rfl⟩:=Pj A;exact (Om i).1,tM⟩
 exact ⟨D,by unfold D2;rw [if_pos D],tM⟩
theorem Ayd {x:NotD}:Dk (mvL 32++[x])=3:=(Axt (by rw [lA,Iu];show 32 < 32+1;omega)).1
theorem Ayf:PF (Bz (mvL 32)) (mvL 32,0,0):=by
 have h:=Abw Rz.1 (fun x A=>by obtain ⟨i,rfl⟩:=Pj A;exact (Om i).2);rw [Rz.2.1] at h;exact h
theorem Ayc:∀ n,nlN (mvL n)=n
 | 0=>rfl
 | n+1=>by rw [Ags,Oj,Ayc n];rfl
theorem dg3:Lib.itoa 3=[51]:=by rw [show (3:Int)=((3:Nat):Int) from rfl,Lib.itoa_nonneg,Lib.decDigits,dif_pos tD];rfl
theorem ln_res3:Cm ⟨5,0,0,0,[]⟩ 3=[114,101,115,101,116,32,51,10]:=by
 unfold Cm;rw [show fm (nuK ⟨5,0,0,0,[]⟩ 3)=[3] from rfl,wn1,dg3];rfl
theorem dg1025:Lib.itoa 1025=[49,48,50,53]:=by
 rw [show (1025:Int)=((1025:Nat):Int) from rfl,Lib.itoa_nonneg,Lib.decDigits,dif_neg tD,Lib.decDigits,dif_neg tD,Lib.decDigits,dif_neg tD,Lib.decDigits,dif_pos tD];rfl
theorem Akz:Cm ⟨5,0,0,0,[]⟩ 1025=[114,101,115,101,116,32,49,48,50,53,10]:=by
 unfold Cm;rw [show fm (nuK ⟨5,0,0,0,[]⟩ 1025)=[1025] from rfl,wn1,dg1025];rfl
theorem Azv {z:Int} (h:Al .i64 z):FlH ⟨5,0,0,0,[]⟩ z:=⟨tD,Or.inr rfl,Or.inr rfl,Or.inr rfl,Or.inl (show uIt 5 by decide),rfl,Bi (n:=0) tD tD,Bi (n:=0) tD tD,Bi (n:=0) tD tD,h⟩
theorem mv_full:PF (Bz (mvL 32)++[114,101,115,101,116,32,51,10]) ([],33,3):=by
 refine Or.inr ⟨by have:=Rz.2.2;simp only [lA,lC,lN];omega,Akn (mvL 32) [] (fun x A=>by obtain ⟨i,rfl⟩:=Pj A;exact Om i) (by rw [Iu];decide) ?_⟩;rw [List.nil_append];have h:=PR.full (xs:=mvL 32) (c:=[114,101,115,101,116,32,51,10]) ⟨⟨5,0,0,0,[]⟩,3,[],(Azv (Bi (n:=3) tD tD)).head tD,by rw [ln_res3];rfl⟩ (Iu _);rw [Ayc] at h;exact h
theorem no_1025:¬ H7 [114,101,115,101,116,32,49,48,50,53,10]:=by
 rintro ⟨x,sz,r,A,h⟩;have H:=Azv (z:=1025) (Bi (n:=1025) tD tD);have I:Cm ⟨5,0,0,0,[]⟩ 1025++[]=Cm x sz++r:=by rw [Akz,← h];rfl
 have D:xC (Cm ⟨5,0,0,0,[]⟩ 1025++[]) [10]=xC (Cm x sz++r) [10]:=by rw [I]
 rw [Kw,Kw] at D;simp only [Prod.mk.injEq,and_true] at D;have E:=congrArg Cy D.1;rw [Kv,Kv,List.cons.injEq] at E;have N:=Mf (j:=5) tD A.kd E.1;have O:=(Aks (x:=⟨5,0,0,0,[]⟩) N H A.fl (J4 H.ink A.ink E.2)).2;have S:=A.rs
 omega
theorem mv_form:PF (Bz (mvL 32)++[114,101,115,101,116,32,49,48,50,53,10]) ([],33,5):=by
 refine Or.inr ⟨by have:=Rz.2.2;simp only [lA,lC,lN];omega,Akn (mvL 32) [] (fun x A=>by obtain ⟨i,rfl⟩:=Pj A;exact Om i) (by rw [Iu];decide) ?_⟩;rw [List.nil_append];have h:=PR.nohead (xs:=mvL 32) (c:=[114,101,115,101,116,32,49,48,50,53,10]) tD no_1025;rw [Ayc] at h;exact h
def kb (i:Nat):ItemD:=⟨i+1,0,W9,[]⟩
def kbL (n:Nat):List ItemD:=(List.range n).map kb
theorem Ayy (n:Nat):kbL (n+1)=kbL n++[kb n]:=by unfold kbL;rw [List.range_succ,List.map_append];rfl
theorem Aot (n:Nat):(kbL n).length=n:=by unfold kbL;simp
theorem kbL_at {n i:Nat} (h:i < n):(kbL n)[i]?=some (kb i):=by unfold kbL;simp [h]
theorem most_ok:Str W9:=by decide
theorem kb_ok (i:Nat):ItemOk 8 (kb i):=⟨by show ¬ (i+1=0);omega,by show ((0:Nat):Int) < 8;decide,most_ok,Nat.zero_le _,fun m A=>by cases A⟩
theorem kbL_ok:Ih (kbL 1024):=fun x A=>by
 obtain ⟨i,_,rfl⟩:=List.mem_map.1 A
 exact kb_ok i
theorem kbL_b (x:ItemD) (D:x∈kbL 1024):x.key < 18446744073709551616∧x.typ < 256:=by
 obtain ⟨i,A,rfl⟩:=List.mem_map.1 D;have:=List.mem_range.1 A
 exact ⟨by show i+1 < _;omega,by show 0 < _;omega⟩
theorem kb_line {i:Nat} (h:i < 1024):71≤(Cx (kb i)).length+1∧(Cx (kb i)).length+1≤74:=by
 have D:(Lib.decDigits (i+1)).length≤4:=by
  rcases (show i+1 < 10∨(10≤i+1∧i+1 < 100)∨(100≤i+1∧i+1 < 1000)∨1000≤i+1 by omega) with q | q | q | q
  ·rw [Ie q];simp
  ·rw [Fb,if_neg tM,Ie (show (i+1) / 10 < 10 by omega)];simp
  ·rw [Fb,if_neg tM,Fb,if_neg tM,Ie (show (i+1) / 10 / 10 < 10 by omega)];simp
  rw [Fb,if_neg tM,Fb,if_neg tM,Fb,if_neg tM,Ie (show (i+1) / 10 / 10 / 10 < 10 by omega)];simp
 have E:1≤(Lib.decDigits (i+1)).length:=List.length_pos_iff.2 (Aef _);rw [Tg (x:=kb i) rfl]
 show 71≤(Lib.decDigits (i+1)++[32]++Lib.decDigits 0++[32]++[45]++[32]++W9).length+1∧(Lib.decDigits (i+1)++[32]++Lib.decDigits 0++[32]++[45]++[32]++W9).length+1≤74
 have A:W9.length=64:=by decide
 simp only [lA,lC,lN,A,dd0]
 omega
theorem Amd {k:Nat}:∀ l:List ItemD,(∀ x∈l,(Cx x).length+1≤k)→(Ce l).length≤k * l.length
 | [],_=>by simp [Ce]
 | x::l,h=>by
  have h1:=h x (by simp);have h2:=Amd l (fun y hy=>h y (by simp [hy]));rw [Kk,lA,lC,lC,Nat.mul_succ];omega
theorem Ame {k:Nat}:∀ l:List ItemD,(∀ x∈l,k≤(Cx x).length+1)→k * l.length≤(Ce l).length
 | [],_=>by simp
 | x::l,h=>by
  have h1:=h x (by simp);have h2:=Ame l (fun y hy=>h y (by simp [hy]));rw [Kk,lA,lC,lC,Nat.mul_succ];omega
theorem Ahh:72704≤(Ce (kbL 1024)).length∧(Ce (kbL 1024)).length≤75776:=by
 have key:∀ x∈kbL 1024,71≤(Cx x).length+1∧(Cx x).length+1≤74:=fun x A=>by
  obtain ⟨i,H,rfl⟩:=List.mem_map.1 A
  exact kb_line (List.mem_range.1 H)
 have D:=Ame (k:=71) (kbL 1024) (fun x A=>(key x A).1);have E:=Amd (k:=74) (kbL 1024) (fun x A=>(key x A).2);rw [Aot] at D E
 omega
structure Many (K:List ItemD):Prop where
 len:K.length=1024
 ok:Ih K
 b:∀ x∈K,x.key < 18446744073709551616∧x.typ < 256
 lo:72704≤(Ce K).length
 hi:(Ce K).length≤75776
theorem kb_many {K:List ItemD} (h:K=kbL 1024):Many K:=by
 exact ⟨by rw [h];exact Aot 1024,by rw [h];exact kbL_ok,by rw [h];exact kbL_b,by rw [h];exact Ahh.1,by rw [h];exact Ahh.2⟩
def rsN (xs:List ItemD):NotD:=⟨5,0,0,0,xs⟩
section
variable {K:List ItemD} (h:Many K)
include h
theorem Ro:Fz (rsN K)=0∧Abi (rsN K):=by
 have A:Dm (rsN K)=0:=Ft.2 ⟨⟨by show 1≤5;omega,by show 5≤5;omega⟩,Or.inr rfl,Or.inr rfl,Or.inr rfl,Or.inl (show uIt 5 by decide)⟩
 exact ⟨by rw [Jy A];exact (Mt (Nat.le_of_eq h.len) h.ok).1,Bi (n:=0) tD tD,Bi (n:=0) tD tD,Bi (n:=0) tD tD,h.b⟩
theorem Aws:72704≤(It (rsN K)).length∧(It (rsN K)).length≤75871:=by
 have A:=Th (x:=rsN K) (sz:=((K.length:Nat):Int)) (Oh (Ro h).2.1 (Ro h).2.2.1 (Ro h).2.2.2.1 (Bi (by rw [h.len];decide) (by rw [h.len];decide)));have e:It (rsN K)=Cm (rsN K) ((K.length:Nat):Int)++Ce K:=rfl;have D:=h.lo;have E:=h.hi;rw [e,lA]
 omega
theorem rs_16:Dk (List.replicate 16 (rsN K))=3:=by
 have D:=Agk (k:=72704) (List.replicate 16 (rsN K)) (fun x A=>by rw [List.eq_of_mem_replicate A];exact (Aws h).1);rw [List.length_replicate] at D;have E:Bv (Ot (List.replicate 16 (rsN K))) (List.replicate 16 (rsN K)).length=0:=Aht.2 fun x A=>by rw [List.eq_of_mem_replicate A];exact (Ro h).1
 exact (Wx (i:=(List.replicate 16 (rsN K)).length) (by rw [List.length_replicate];decide) E rfl (by rw [List.take_length];omega)).1
theorem rs_10:Dk (List.replicate 10 (rsN K))=0∧PF (D2 (List.replicate 10 (rsN K))) (List.replicate 10 (rsN K),0,0)∧(D2 (List.replicate 10 (rsN K))).length≤1048576:=by
 have E:=Wz (k:=75871) (List.replicate 10 (rsN K)) (fun x A=>by rw [List.eq_of_mem_replicate A];exact (Aws h).2);rw [List.length_replicate] at E;have D:Dk (List.replicate 10 (rsN K))=0:=Ko.2 ⟨by rw [List.length_replicate];decide,fun x A=>by rw [List.eq_of_mem_replicate A];exact (Ro h).1,tM⟩
 exact ⟨D,Abw D (fun x A=>by rw [List.eq_of_mem_replicate A];exact (Ro h).2),by unfold D2;rw [if_pos D];omega⟩
theorem Azk {x:ItemD}:Dk [⟨1,0,0,0,K++[x]⟩]=3:=by
 have D:Dm ⟨1,0,0,0,K++[x]⟩=0:=Ft.2 ⟨⟨by show 1≤1;omega,by show 1≤5;omega⟩,Or.inl (show uAt 1 by decide),Or.inr rfl,Or.inr rfl,Or.inl (show uIt 1 by decide)⟩;have A:Fz ⟨1,0,0,0,K++[x]⟩=3:=by
  rw [Jy D];exact (Kj (by show 1024 < (K++[x]).length;rw [lA,h.len];show 1024 < 1024+1;omega)).1
 have E:=(Ww (l:=[⟨1,0,0,0,K++[x]⟩]) (i:=0) (by show ¬ 32 < 1;omega) rfl rfl (by rw [A];decide)).1;rw [E,A]
end
end Go.Proofs.YtmmhmcplegpenaaGreatDoor
namespace Go.Y
open Go
section
variable {α:Type} {rd:Rd α} {P:Program} {w0 w:World} {G:Av} {L:List Res}
theorem Mem.back2 {I U:List Res} {w':World} (M:Mem w0 G (I++L) w) (D:Mem w0 (P0 G I w) U w'):Mem w0 G (I++U) w':=by
 have O:=M.lend.1;have N:∀ x∈I,∀ b,x.foot=some b→∃ o,P0 G I w b=some o∧w.heap[b]?=some o:=fun x A b E=>by
  have S:=Res.foot_lt (M.own x (List.mem_append_left _ A)) E
  exact ⟨w.heap[b],by rw [Adl A E];exact Array.getElem?_eq_getElem S,Array.getElem?_eq_getElem S⟩
 refine ⟨D.os,D.tape,D.output,D.grow,fun r o Y=>D.pers r o (O r o Y),fun x A=>?_,fun x A b E=>?_,List.pairwise_append.2 ⟨(List.pairwise_append.1 M.apart).1,D.apart,fun x A y hy b E V=>?_⟩⟩
 ·rcases List.mem_append.1 A with A | A
  ·refine Res.holds_of (M.own x (List.mem_append_left _ A)) fun b E=>?_;obtain ⟨o,H,T⟩:=N x A b E;rw [D.pers b o H,T]
  ·exact D.own x A
 ·rcases List.mem_append.1 A with A | A
  ·exact M.free x (List.mem_append_left _ A) b E
  ·cases hg:G b with
   | none=>rfl
   | some o=>have H:=D.free x A b E;rw [O b o hg] at H;cases H
 ·obtain ⟨o,H,_⟩:=N x A b E;have T:=D.free y hy b V;rw [H] at T;cases T
theorem Mem.append_borrow (hm:Hx rd) (M:Mem w0 G L w) {k n N:Nat} {a:Option Addr} {cs:List Value} {t ty e:TypeId} {i:TI} (hk:L[k]?=some (rR (vS a n N) n cs e i.size)) (ht:tk P t=.slice e) (hi:TOK P e i) (hz:i.zero.cells.size=i.size) (hs:0 < i.size)
  {xs ys:List α} (E:Els rd i.size G cs xs) {ad:Addr} {c:Nat} {news:List Value} (En:Els rd i.size G news ys) (D:∀ j u,news[j]?=some u→w.cell? (ad.add j)=some u) (h1:∀ u∈news,u.oneCell' = true)
  (ac:xs.length+ys.length≤maxLen) (I:(xs.length+ys.length) * i.bytes≤140737488355328) :
  ∃ O c' w' G',(Builtin.append_ #[t,t] ty #[vS a n N,vS (some ad) ys.length c]).run P w=.ok (vS O (xs++ys).length c') w'∧Gle G G'∧Mem w0 G' (L.eraseIdx k) w' ∧
   Aj rd i.size G' (vS O (xs++ys).length c') (xs++ys)∧n=xs.length∧∀ Y w2,Mem w0 G' Y w2→Mem w0 G (rR (vS a n N) n cs e i.size::Y) w2:=by
 obtain ⟨A,h2⟩:=M.row_at hk;have hl:news.length=ys.length * i.size:=En.length;have hn:n=xs.length:=by
  have:=E.length;rw [A.1] at this
  exact Nat.eq_of_mul_eq_mul_right hs this
 subst hn;obtain ⟨x,ah,V,au,av⟩:=hi.info;have hu:=Df ht;obtain ⟨v',w',hr,M'⟩:=M.append (P:=P) (ty:=ty) (m:=ys.length) (c:=c) (ad:=ad) hk ht hi hz hs hl D h1 ac I;obtain ⟨ak,ae⟩:=Sv (y:=rR v' (xs.length+ys.length) (cs++news) e i.size) hk;obtain ⟨⟨a1,aq⟩,a0⟩:=M'.row_at ae;have ao:∃ O c',v' = vS O (xs++ys).length c':=by
  rcases aq with ⟨rfl,h0⟩ | ⟨g,aa,ai,rfl,_⟩
  ·exact ⟨none,0,by rw [lA,h0]⟩
  exact ⟨_,aa,by rw [lA]⟩
 obtain ⟨O,c',rfl⟩:=ao;have M1:Mem w0 G ([rR (vS O (xs++ys).length c') (xs++ys).length (cs++news) e i.size]++L.eraseIdx k) w':=by
  have:=M'.perm (Ah _ k _ ae);rw [ak] at this;rw [lA];rw [lA] at this
  exact this
 obtain ⟨hG,M2⟩:=M1.lend;have S:=Ks M1 (List.mem_singleton.2 rfl) ((E.append En).mono hm hG) hs
 rcases A.2 with ⟨h0,aj⟩ | ⟨g,aa,ai,hv,ax,az,an,am,ay,ap⟩
 ·refine ⟨O,c',w',_,hr,hG,M2,S,rfl,fun Y w2 M3=>?_⟩;have ar:xs=[]:=List.eq_nil_of_length_eq_zero aj;subst ar;simp only [lN,Value.slice.injEq,true_and] at h0;obtain ⟨rfl,rfl⟩:=h0;have al:cs=[]:=E;subst al
  exact ((M1.back2 M3).wn (cN (sR _))).nilrow e i.size
 simp only [Value.slice.injEq,true_and] at hv;obtain ⟨rfl,rfl⟩:=hv
 by_cases hroom:xs.length+ys.length≤N
 ·obtain ⟨w2,U,_⟩:=run_append_fits (P:=P) w 0 t ty e x i.size hu ah V g xs.length N cs A ad ys.length c news hl D h1 hroom;have H:=hr;rw [U] at H;simp only [Result.ok.injEq,Value.slice.injEq] at H;obtain ⟨⟨rfl,_,rfl⟩,_⟩:=H;refine ⟨_,_,w',_,hr,hG,M2,S,rfl,fun Y w3 M3=>?_⟩;have M4:Mem w0 G (rR (vS (some ⟨g,0,none⟩) (xs++ys).length N) (xs++ys).length (cs++news) e i.size::Y) w3:=M1.back2 M3;obtain ⟨⟨k1,k2⟩,k3⟩:=M4.row_at (k:=0) rfl
  rcases k2 with ⟨q,_⟩ | ⟨g',aw,ab,q1,q2,q3,q4,q5,q6,q7⟩
  ·cases q
  simp only [Value.slice.injEq,Option.some.injEq,Addr.mk.injEq,and_true,true_and] at q1;obtain ⟨rfl,rfl⟩:=q1;refine M4.swap_head (y:=rR (vS (some ⟨g,0,none⟩) xs.length N) xs.length cs e i.size) rfl ⟨⟨A.1,Or.inr ⟨g,N,ab,rfl,q2,q3,an,am,q6,?_⟩⟩,h2⟩ rfl rfl rfl rfl (fun _ _=>rfl);have h8:=congrArg (List.take (xs.length * i.size)) q7;rw [List.take_take,lA,Nat.add_mul,Nat.min_eq_left (Nat.le_add_right _ _),← A.1,List.take_left] at h8;rw [← A.1];exact h8
 have U:=run_append_grow (P:=P) w t ty e x i.zero hu ah av ⟨g,0,none⟩ xs.length N cs (by rw [V];exact A.1) (A.cells (g:=g) rfl) ad ys.length c news (by rw [V];exact hl) D tM
  (by simp only [maxLen] at ac;omega) (by rw [au];exact growslice_fits tM I)
 have H:=hr;rw [U] at H;simp only [Result.ok.injEq,Value.slice.injEq] at H;obtain ⟨⟨rfl,_,rfl⟩,rfl⟩:=H;have T:=M1.row_at (k:=0) rfl;have M5:Mem w0 G ([rR (vS (some ⟨w.heap.size,0,none⟩) (xs++ys).length (grownCap w (xs.length+ys.length) N e)) (xs++ys).length (cs++news) e i.size,rR (vS (some ⟨g,0,none⟩) xs.length N) xs.length cs e i.size]++L.eraseIdx k) _ :=
  (((M.perm (Ah L k _ hk)).drew _).new _).swap_head (x:=.obj w.heap.size _) rfl T rfl rfl rfl rfl (fun _ _=>rfl)
 obtain ⟨ag,M6⟩:=M5.lend;have S5:=Ks M5 List.mem_cons_self ((E.append En).mono hm ag) hs
 exact ⟨_,_,_,_,hr,ag,M6,S5,rfl,fun Y w3 M3=>(M5.back2 M3).wn dS1⟩
end
end Go.Y
namespace Go.Proofs.YtmmhmcplegpenaaGreatDoor
open Go Go.Y Go.Proofs
variable {w0 w:World} {G:Av} {L:List Res}
theorem W8 (M:Mem w0 G L w) {ns:List NotD} {R:List EntD × Nat × Int} (hR:O2 c3 l3 ns=R) {ka N E:Option Addr} {I O H:Nat} (T:Aj Cq 9 G (vS ka c3.kZ.length I) c3.kZ) (U:Aj Bj 6 G (vS N l3.length O) l3) (V:Aj Ct 5 G (vS E ns.length H) ns) (D:∀ x∈ns,x.iZ.length≤900000) :
  Calls pG 25 #[.agg #[vS ka c3.kZ.length I,iI 1],.agg #[vS N l3.length O],vS E ns.length H] w (B5 w0 G L fun v=>∃ A:Option Addr,v=.tuple #[.agg #[vS A R.1.length R.1.length],iI ((R.2.1:Nat):Int),iI R.2.2]):=by
 refine (Ade M hR T U V D).mono ?_;rintro e w' h
 cases e with
 | returned v =>
  obtain ⟨G',L',Y,S,A,cs,Lo,rfl,rfl,_⟩:=h
  exact ⟨R1 (S.wn (cN (List.sublist_append_right _ _))) Y,A,rfl⟩
 | panicked c=>exact h.elim
 | outgrown=>exact h.elim
theorem Rx (M:Mem w0 G L w) (HG:Globs 0 1 2 3 G) {ns:List NotD} {A:Option Addr} {D:Nat} (H:Aj Ct 5 G (vS A ns.length D) ns) :
  Calls pG 32 #[vS A ns.length D] w (B5 w0 G L fun v=>v=.tuple #[qT (D2 ns),iI (Dk ns)]):=by
 refine (H5 M HG H).mono ?_;rintro e w' h
 cases e with
 | returned v=>obtain ⟨N,I,E,rfl⟩:=h;exact ⟨R1 E I,rfl⟩
 | panicked c=>exact h.elim
 | outgrown=>exact h.elim
theorem Ti {w0 w:World} {G:Av} {L:List Res} {f:FuncId} {vs:Array Value} {Φ:Value→Prop} {a:Option Addr} {c:Nat} {cs:List Value} {ns:List NotD} (M:Mem w0 G (rR (vS a ns.length c) ns.length cs 65 5::L) w) (E:Els Ct 5 G cs ns)
  (h:∀ A,Gle G A→Mem w0 A L w→Aj Ct 5 A (vS a ns.length c) ns→Calls pG f vs w (B5 w0 A L Φ)):Calls pG f vs w (B5 w0 G (rR (vS a ns.length c) ns.length cs 65 5::L) Φ):=by
 have D:Mem w0 G ([rR (vS a ns.length c) ns.length cs 65 5]++L) w:=M;obtain ⟨H,I⟩:=D.lend;refine (h _ H I (Ks D (List.mem_singleton.2 rfl) (E.mono Aa H) tD)).mono ?_;rintro e w' h
 cases e with
 | returned v=>exact ⟨D.back h.1,h.2⟩
 | panicked c=>exact h.elim
 | outgrown=>exact h.elim
theorem Ht {α:Type} {rd:Rd α} {P:Program} {w0 w:World} {G:Av} {L:List Res} {I:Array Oper} {Q:Exit→Act→World→Prop} {n d:Nat} {a:Act} {T:Env} {s et t:TypeId} {p:String} {af:Array Edge} {r:List Oper} {i:TI} {x y:Operand} {k k2 m U sz Y c2:Nat} {V a2:Option Addr} {cs H:List Value} {xs ys:List α}
  (F:Fits n a T) (hm:Hx rd) (M:Mem w0 G L w) (hk:L[k]?=some (rR (vS V m Y) m cs et sz)) (aa:L[k2]?=some (rR (vS a2 U c2) U H et sz)) (hs:tk P s=.slice et) (ht:TOK P et i) (hz:i.zero.cells.size=i.size) (ae:i.size=sz) (A:0 < sz)
  (E:Els rd sz G cs xs) (E2:Els rd sz G H ys) (ap:0 < ys.length) (hx:ev T x=some (vS V m Y)) (hy:ev T y=some (vS a2 U c2))
  (hb:(xs.length+ys.length) * i.bytes≤140737488355328) (aj:xs.length+ys.length≤9223372036854775807) (hd:Nat.ble (d+1) n=true)
  (kk:∀ N S D w' O,Gle G D→Mem w0 D (L.eraseIdx k) w'→Aj rd sz D (vS N (xs++ys).length S) (xs++ys)→(∀ L2 w2,Mem w0 D L2 w2→Mem w0 G (rR (vS V m Y) m cs et sz::L2) w2)→Fits n O ((d,vS N (xs++ys).length S)::T)→rl P I Q r O w') :
  rl P I Q (⟨some d,.call ⟨.builtin .append,#[x,y],#[s,s]⟩,t,p,af,none⟩::r) a w:=by
 subst ae;obtain ⟨ho,h1⟩:=M.row_at aa;have ab:U=ys.length:=by
  have:=E2.length;rw [ho.1] at this
  exact Nat.eq_of_mul_eq_mul_right A this
 subst ab
 rcases ho.2 with ⟨_,h0⟩ | ⟨g,ah,ai,hv,ak,an,ao,al,am,ag⟩
 ·omega
 simp only [Value.slice.injEq,true_and] at hv;obtain ⟨rfl,rfl⟩:=hv;obtain ⟨N,S,w',D,hr,q1,q2,q3,rfl,q4⟩:=M.append_borrow (P:=P) (ty:=t) (c:=c2) (ad:=⟨g,0,none⟩) hm hk hs ht hz A E E2 (ho.cells (g:=g) rfl) h1 (by simp only [maxLen];omega) hb
 exact Bo F (Gb (F.ev hx) (F.ev hy) hr) hd fun O F'=>kk N S D w' O q1 q2 q3 q4 F'
theorem rl_lend {w0 w:World} {G:Av} {L:List Res} {a:Option Addr} {c:Nat} {cs:List Value} {xs:List ItemD} (M:Mem w0 G (rR (vS a xs.length c) xs.length cs 26 4::L) w) (E:Els Bp 4 G cs xs) :
  ∃ A,Gle G A∧Mem w0 A L w∧Aj Bp 4 A (vS a xs.length c) xs∧∀ D I,Mem w0 A D I→Mem w0 G (rR (vS a xs.length c) xs.length cs 26 4::D) I:=by
 have H:Mem w0 G ([rR (vS a xs.length c) xs.length cs 26 4]++L) w:=M;obtain ⟨N,O⟩:=H.lend
 exact ⟨_,N,O,Ks H (List.mem_singleton.2 rfl) (E.mono Ac N) tD,fun D I S=>H.back2 S⟩
def Aoa:List (List UInt8):=[[109,111,118,101,32,57,50,50,51,51,55,50,48,51,54,56,53,52,55,55,53,56,48,55,32,45,57,50,50,51,51,55,50,48,51,54,56,53,52,55,55,53,56,48,56,32,48,10],[109,111,118,101,32,57,50,50,51,51,55,50,48,51,54,56,53,52,55,55,53,56,48,56,32,48,32,48,10],[114,101,109,111,118,101,32,45,48,32,48,10],[114,101,109,111,118,101,32,48,32,48,32,10],[114,101,115,101,116,32,45,49,10],[105,110,115,101,114,116,32,49,10],[105,110,115,101,114,116,32,48,49,32,48,10],[114,101,115,101,116,32,49,10,49,32,48,32,45,32,120],[114,101,115,101,116,32,49,10],[114,101,115,101,116,32,48,10,10],[114,101,109,111,118,101,32,48,32,48,32,48,10],[114,101,115,101,116,32,49,10,114,101,115,101,116,32,48,10]]
theorem nb_of {i:Nat} (h:i < 256):(iB ((i:Nat):Int):Value)=iB (nb (UInt8.ofNat i)):=by
 simp only [nb,UInt8.toNat_ofNat',Nat.mod_eq_of_lt h]
set_option maxHeartbeats 4000000 in
theorem Akt (M:Mem w0 G L w) (HG:Globs 0 1 2 3 G):Calls pG 9 #[] w (Ret w0 G L fun G' v=>v=vB true):=by
 refine Ap (vs:=[]) Tryz.func9 rfl (n:=335) rfl rfl<|wk ?_;refine C3 ent36 rfl rfl (Vo M)<|?_;clear M;rintro _ aA w b3 M ⟨a3,a4,a5,a6,rfl,SCq1,SLq1⟩
 replace HG:=HG.mono b3;refine wk ?_;refine B0 M Fo rfl rfl<|?_;clear M;intro b2 w M
 refine B0 M Az rfl rfl<|?_;clear M;intro b4 w M
 intro a F;refine Bf F M Fo 1 ?_;clear F M a;intro w a M F;replace M:=z_M M;refine Bf F M Az 0<|sZ ?_;clear F M a;intro w M;refine wk ?_;have M:=M.nilrow 65 5;replace M:=z_M M;intro a F;refine Bd (fun m a' w'=>∃ (i:Nat),∃ (ax:Option Addr),∃ (nx:Nat),∃ (cx:Nat),∃ (aw:List Value),m=32 - i∧Fits 335 a' [(1,pP b2),(2,pP b4),(3,vS ax nx cx),(4,iI ((i:Nat):Int))]∧Mem w0 aA (rR (vS ax nx cx) (nx) (aw) 65 5::rB b4 [vS a5 l3.length a6] 54::rB b2 [vS a3 c3.kZ.length a4,iI 1] 51::L) w'∧(i≤32)∧(Els Ct 5 aA aw (mvL i))∧(nx=i)) _ ⟨0,none,0,0,[],rfl,fU,M,tM,Els.nil,rfl⟩ ?_;clear F M;rintro m a w ⟨i,ax,nx,cx,aw,rfl,F,M,hi,Ex,bZ⟩;revert a;refine wk ?_;refine qD rfl ?_ ?_
 ·intro h6;refine wk ?_;refine Ak (fun a F=>C5 (F.ev rfl) (F.ev rfl) tM tM) rfl<|wk ?_;refine Ak (fun a F=>C5 (F.ev rfl) (F.ev rfl) tM tM) rfl<|Ak (fun a F=>Am (cs:=[iB 3,iI (((i:Nat):Int) % 3),iI 1,iI ((((i:Nat):Int)+1) % 3),sN]) Ba.k rfl Ba (F.evp rfl) rfl) rfl<|fun a F=>?_
  refine Ar F M Du.k Ba rfl rfl (cs:=[iB 3,iI (((i:Nat):Int) % 3),iI 1,iI ((((i:Nat):Int)+1) % 3),sN]) rfl rfl tS tD rfl ?_;clear F M a;intro v7 w a M F;obtain ⟨fG,fQ,rfl,ed,dZ,f9⟩:=M.rS (k:=0) rfl;have Em:Els Ct 5 aA [iB 3,iI (((i:Nat):Int) % 3),iI 1,iI ((((i:Nat):Int)+1) % 3),sN] [mvN i]:=⟨[iB 3,iI (((i:Nat):Int) % 3),iI 1,iI ((((i:Nat):Int)+1) % 3),sN],[],rfl,rfl,⟨none,0,rfl,by show 3 < 256;omega,(Om i).2.1,(Om i).2.2.1,(Om i).2.2.2.1,Nat.zero_le _,Aj.nil⟩,rfl⟩;refine A4 F M (k:=1) (k2:=0) rfl rfl Du.k Ba rfl rfl tD rfl rfl tX tO rfl ?_;clear F M a;intro v8 w a M F;have dG:=Els.append Ex Em;obtain ⟨dM,dO,rfl,ee,ea,fA⟩:=M.rS (k:=1) rfl;revert a;refine wk ?_;intro a F
  exact ⟨_,tM,i+1,(dM),(nx+1),(dO),aw++([iB 3,iI (((i:Nat):Int) % 3),iI 1,iI ((((i:Nat):Int)+1) % 3),sN]),rfl,fU,(M.wn tW),tM,by rw [Ags];exact dG,tM⟩
 intro h9;refine wk ?_;obtain rfl:i=32:=by omega
 obtain ⟨X,hX⟩:∃ X,X=mvL 32:=⟨_,rfl⟩;have aO:X.length=32:=by rw [hX,Iu]
 have e0:nx=X.length:=by rw [aO];exact bZ
 subst e0;intro a F;rw [← hX] at Ex;obtain ⟨R,hR,gd⟩:=mv_all;rw [← hX] at hR;have ba:∀ x∈X,x.iZ.length≤900000:=fun x hx=>by rw [hX] at hx;obtain ⟨i,rfl⟩:=Pj hx;exact Nat.zero_le _
 have bo:∀ y,O2 c3 l3 (X++[y])=([],0,3):=fun y=>by rw [hX];exact mv_more
 have bQ:Dk X=0∧D2 X=Bz X∧(Bz X).length≤3040:=by rw [hX];exact Rz
 have dV:∀ y,Dk (X++[y])=3:=fun y=>by rw [hX];exact Ayd
 have dU:PF (Bz X) (X,0,0):=by rw [hX];exact Ayf
 have dR:PF (Bz X++[114,101,115,101,116,32,51,10]) ([],33,3):=by rw [hX];exact mv_full
 have dS:PF (Bz X++[114,101,115,101,116,32,49,48,50,53,10]) ([],33,5):=by rw [hX];exact mv_form
 have cQ:X[0]?=some (mvN 0):=by rw [hX];exact Ayg tD
 have ge:=bQ.2.2;revert a;refine wk ?_;replace M:=z_M M;refine A2 K0 rfl rfl (Ti M Ex (fun G' aX M' S'=>W8 M' hR (SCq1.mono Ai aX) (SLq1.mono Ab aX) S' ba))<|?_;clear M;rintro _ w M ⟨av,rfl⟩
 refine wk ?_;refine B0 M Az rfl rfl<|?_;clear M;intro aK w M
 intro a F;refine Bf F M Az 0<|sZ ?_;clear F M a;intro w M;refine Dq rfl<|Dq rfl<|Ca<|?_
 refine fun a F=>I6 (fun a' w'=>Fits 335 a' [(1,pP b2),(2,pP b4),(3,vS ax X.length cx),(5,pP aK),(6,iI ((32:Nat):Int)),(7,iI 0),(9,iI ((0:Nat):Int)),(10,iI 3)]∧Mem w0 aA (rB aK [vS av R.length R.length] 54::rR (vS ax X.length cx) (X.length) (aw) 65 5::rB b4 [vS a5 l3.length a6] 54::rB b2 [vS a3 c3.kZ.length a4,iI 1] 51::L) w') ?_ ?_
 ·skip
  refine Ik (.run 0 (.run 1 (.run 2 (.run 3 (.run 4 (.run 5 (.act 6 (.act 7 (.act 8 (.run 9 (.run 10 (.run 11 (.run 12 (.act 13 (.act 14 (.run 15 (.run 16 .fin)) .no) .no))))) (.act 13 (.act 8 (.run 9 (.run 10 (.run 11 (.run 12 (.act 14 (.run 15 (.run 16 .fin)) .no))))) .no) .no)) (.act 13 (.act 7 (.act 8 (.run 9 (.run 10 (.run 11 (.run 12 (.act 14 (.run 15 (.run 16 .fin)) .no))))) .no) .no) .no)) (.act 13 (.act 6 (.act 7 (.act 8 (.run 9 (.run 10 (.run 11 (.run 12 (.act 14 (.run 15 (.run 16 .fin)) .no))))) .no) .no) .no) .no)))))))) (Keep aA [rB aK [vS av R.length R.length] 54,rB b4 [vS a5 l3.length a6] 54,rB b2 [vS a3 c3.kZ.length a4,iI 1] 51,rR (vS ax X.length cx) (X.length) (aw) 65 5]) rfl kR kF (Aw (M.drew _)) ?_;replace M:=M.drew (w.drawn+1);revert a;refine wk ?_;obtain ⟨fp,_,eU,es,_,cc,bL⟩:=M.atRowK (k:=1) rfl tD Ex (Lr:=[rB aK [vS av R.length R.length] 54,rB b4 [vS a5 l3.length a6] 54,rB b2 [vS a3 c3.kZ.length a4,iI 1] 51,rR (vS ax X.length cx) (X.length) (aw) 65 5]) (k':=3) rfl cQ;obtain ⟨aq,ar,rfl,b5,b8,bB,bF,bI,SIe13⟩:=bL;have ae:(mvN 0).kind < 256∧Al .i64 (mvN 0).at_∧Al .i64 (mvN 0).count∧Al .i64 (mvN 0).to∧(mvN 0).iZ.length≤9223372036854775807:=⟨b5,b8,bB,bF,bI⟩;refine wk ?_;refine t_r (fun a F w M=>Cv Ba rfl (F.ev rfl) (cs:=[iB ((((mvN 0).kind:Nat):Int)),iI ((mvN 0).at_),iI ((mvN 0).count),iI ((mvN 0).to),vS aq ((mvN 0).iZ.length) (ar)]) rfl (Yg (cc w M) 0 tM rfl)) rfl<|fun a F=>A0 ?_ rfl ?_
  ·skip
   refine Ar F M Du.k Ba rfl rfl (cs:=[iB ((((mvN 0).kind:Nat):Int)),iI ((mvN 0).at_),iI ((mvN 0).count),iI ((mvN 0).to),vS aq ((mvN 0).iZ.length) (ar)]) rfl rfl tS tD rfl ?_;clear F M a;intro gj w a M F;obtain ⟨fi,f0,rfl,d1,dm,ef⟩:=M.rS (k:=0) rfl;revert a;refine Ao<|?_
   refine eQ (Aw M)<|fun a F=>A0 ?_ rfl ?_
   ·skip
    have cf:Els Ct 5 aA [iB ((((mvN 0).kind:Nat):Int)),iI ((mvN 0).at_),iI ((mvN 0).count),iI ((mvN 0).to),vS aq ((mvN 0).iZ.length) (ar)] [mvN 0]:=⟨_,[],rfl,rfl,⟨aq,ar,rfl,ae.1,ae.2.1,ae.2.2.1,ae.2.2.2.1,ae.2.2.2.2,SIe13⟩,rfl⟩;have al:=HG;have I:=SCq1;have N:=SLq1;have aj:=Ex;have ac:=SIe13;refine Ht F Aa M (k:=2) (k2:=0) rfl rfl Du.k Ba rfl rfl tD Ex cf tD rfl rfl (by rw [aO];show (32+1) * 56≤_;decide) (by rw [aO];decide) rfl ?_;clear F M a;intro eZ fv eF w a aL M aT ao F;replace HG:=HG.mono aL;replace SCq1:=SCq1.mono Ai aL;replace SLq1:=SLq1.mono Ab aL;replace SIe13:=SIe13.mono Ac aL;replace M:=z_M M;revert a;refine Ao<|?_
    refine fun a F=>⟨Keep aA [rB aK [vS av R.length R.length] 54,rB b4 [vS a5 l3.length a6] 54,rB b2 [vS a3 c3.kZ.length a4,iI 1] 51,rR (vS ax X.length cx) (X.length) (aw) 65 5],(ao _ _ M).keep (Gle.refl _) (by simp),fun w h=>h.mono (Gle.refl _) (by simp),?_⟩;refine A0 ?_ rfl ?_
    ·skip
     revert a;refine A2 K0 rfl rfl (W8 M (bo (mvN 0)) SCq1 SLq1 aT (fun x hx=>by rcases List.mem_append.1 hx with h_ | h_;exact ba x h_;rw [List.mem_singleton.1 h_];exact Nat.zero_le _))<|?_;clear M;rintro _ w M ⟨dI,rfl⟩
     replace M:=ao _ _ M;clear ao;intro a F;clear aT;replace HG:=al;clear al;replace SCq1:=I;clear I;replace SLq1:=N;clear N;replace Ex:=aj;clear aj;replace SIe13:=ac;clear ac;replace M:=z_M M;revert a;refine Ao<|?_
     refine eQ (Aw M)<|wk ?_;refine fun a F=>A0 ?_ rfl Bl;revert a;refine B0 M Az rfl rfl<|?_;clear M;intro fH w M
     refine Ao<|?_
     refine eQ (Aw M)<|fun a F=>A0 ?_ rfl Bl
     refine Bf F M Az 0<|sZ ?_;clear F M a;intro w M;refine Ao<|?_
     refine eQ (Aw M)<|wk ?_;replace M:=M.perm (Ah _ 5 _ rfl);replace M:=M.perm (Ah _ 5 _ rfl);replace M:=M.perm (Ah _ 3 _ rfl);replace M:=M.perm (Ah _ 5 _ rfl);replace M:=z_M M;intro a F
     exact ⟨fU,M.wn tW⟩
    refine A0 ?_ rfl ?_
    ·skip
     revert a;refine B0 M Az rfl rfl<|?_;clear M;intro fI w M
     refine Ao<|?_
     refine fun a F=>⟨Keep aA [rB aK [vS av R.length R.length] 54,rB b4 [vS a5 l3.length a6] 54,rB b2 [vS a3 c3.kZ.length a4,iI 1] 51,rR (vS ax X.length cx) (X.length) (aw) 65 5],(ao _ _ M).keep (Gle.refl _) (by simp),fun w h=>h.mono (Gle.refl _) (by simp),?_⟩;refine A0 ?_ rfl Bl;revert a;refine A2 K0 rfl rfl (W8 M (bo (mvN 0)) SCq1 SLq1 aT (fun x hx=>by rcases List.mem_append.1 hx with h_ | h_;exact ba x h_;rw [List.mem_singleton.1 h_];exact Nat.zero_le _))<|?_;clear M;rintro _ w M ⟨dJ,rfl⟩
     replace M:=ao _ _ M;clear ao;intro a F;clear aT;replace HG:=al;clear al;replace SCq1:=I;clear I;replace SLq1:=N;clear N;replace Ex:=aj;clear aj;replace SIe13:=ac;clear ac;replace M:=z_M M;revert a;refine Ao<|?_
     refine eQ (Aw M)<|wk ?_;refine fun a F=>A0 ?_ rfl Bl;refine Bf F M Az 1<|sZ ?_;clear F M a;intro w M;refine Ao<|?_
     refine eQ (Aw M)<|wk ?_;replace M:=M.perm (Ah _ 5 _ rfl);replace M:=M.perm (Ah _ 5 _ rfl);replace M:=M.perm (Ah _ 2 _ rfl);replace M:=M.perm (Ah _ 5 _ rfl);replace M:=z_M M;intro a F
     exact ⟨fU,M.wn tW⟩
    exact Bl
   refine A0 ?_ rfl ?_
   ·skip
    revert a;refine B0 M Az rfl rfl<|?_;clear M;intro fJ w M
    refine Ao<|?_
    refine eQ (Aw M)<|fun a F=>A0 ?_ rfl Bl
    have cg:Els Ct 5 aA [iB ((((mvN 0).kind:Nat):Int)),iI ((mvN 0).at_),iI ((mvN 0).count),iI ((mvN 0).to),vS aq ((mvN 0).iZ.length) (ar)] [mvN 0]:=⟨_,[],rfl,rfl,⟨aq,ar,rfl,ae.1,ae.2.1,ae.2.2.1,ae.2.2.2.1,ae.2.2.2.2,SIe13⟩,rfl⟩;have al:=HG;have I:=SCq1;have N:=SLq1;have aj:=Ex;have ac:=SIe13;refine Ht F Aa M (k:=3) (k2:=1) rfl rfl Du.k Ba rfl rfl tD Ex cg tD rfl rfl (by rw [aO];show (32+1) * 56≤_;decide) (by rw [aO];decide) rfl ?_;clear F M a;intro fa fw eG w a aM M br ao F;replace HG:=HG.mono aM;replace SCq1:=SCq1.mono Ai aM;replace SLq1:=SLq1.mono Ab aM;replace SIe13:=SIe13.mono Ac aM;replace M:=z_M M;revert a;refine Ao<|?_
    refine fun a F=>⟨Keep aA [rB aK [vS av R.length R.length] 54,rB b4 [vS a5 l3.length a6] 54,rB b2 [vS a3 c3.kZ.length a4,iI 1] 51,rR (vS ax X.length cx) (X.length) (aw) 65 5],(ao _ _ M).keep (Gle.refl _) (by simp),fun w h=>h.mono (Gle.refl _) (by simp),?_⟩;refine A0 ?_ rfl Bl;revert a;refine A2 K0 rfl rfl (W8 M (bo (mvN 0)) SCq1 SLq1 br (fun x hx=>by rcases List.mem_append.1 hx with h_ | h_;exact ba x h_;rw [List.mem_singleton.1 h_];exact Nat.zero_le _))<|?_;clear M;rintro _ w M ⟨dK,rfl⟩
    replace M:=ao _ _ M;clear ao;intro a F;clear br;replace HG:=al;clear al;replace SCq1:=I;clear I;replace SLq1:=N;clear N;replace Ex:=aj;clear aj;replace SIe13:=ac;clear ac;replace M:=z_M M;revert a;refine Ao<|?_
    refine eQ (Aw M)<|wk ?_;refine fun a F=>A0 ?_ rfl Bl;refine Bf F M Az 1<|sZ ?_;clear F M a;intro w M;refine Ao<|?_
    refine eQ (Aw M)<|wk ?_;replace M:=M.perm (Ah _ 5 _ rfl);replace M:=M.perm (Ah _ 5 _ rfl);replace M:=M.perm (Ah _ 2 _ rfl);replace M:=M.perm (Ah _ 5 _ rfl);replace M:=z_M M;intro a F
    exact ⟨fU,M.wn tW⟩
   exact Bl
  refine A0 ?_ rfl ?_
  ·skip
   revert a;refine B0 M Az rfl rfl<|?_;clear M;intro fL w M
   refine Ao<|?_
   refine eQ (Aw M)<|fun a F=>A0 ?_ rfl Bl
   refine Ar F M Du.k Ba rfl rfl (cs:=[iB ((((mvN 0).kind:Nat):Int)),iI ((mvN 0).at_),iI ((mvN 0).count),iI ((mvN 0).to),vS aq ((mvN 0).iZ.length) (ar)]) rfl rfl tS tD rfl ?_;clear F M a;intro gk w a M F;obtain ⟨fj,f1,rfl,d2,dn,eg⟩:=M.rS (k:=0) rfl;revert a;refine Ao<|?_
   refine eQ (Aw M)<|fun a F=>A0 ?_ rfl Bl
   have ci:Els Ct 5 aA [iB ((((mvN 0).kind:Nat):Int)),iI ((mvN 0).at_),iI ((mvN 0).count),iI ((mvN 0).to),vS aq ((mvN 0).iZ.length) (ar)] [mvN 0]:=⟨_,[],rfl,rfl,⟨aq,ar,rfl,ae.1,ae.2.1,ae.2.2.1,ae.2.2.2.1,ae.2.2.2.2,SIe13⟩,rfl⟩;have al:=HG;have I:=SCq1;have N:=SLq1;have aj:=Ex;have ac:=SIe13;refine Ht F Aa M (k:=3) (k2:=0) rfl rfl Du.k Ba rfl rfl tD Ex ci tD rfl rfl (by rw [aO];show (32+1) * 56≤_;decide) (by rw [aO];decide) rfl ?_;clear F M a;intro fb fx eH w a aN M bt ao F;replace HG:=HG.mono aN;replace SCq1:=SCq1.mono Ai aN;replace SLq1:=SLq1.mono Ab aN;replace SIe13:=SIe13.mono Ac aN;replace M:=z_M M;revert a;refine Ao<|?_
   refine fun a F=>⟨Keep aA [rB aK [vS av R.length R.length] 54,rB b4 [vS a5 l3.length a6] 54,rB b2 [vS a3 c3.kZ.length a4,iI 1] 51,rR (vS ax X.length cx) (X.length) (aw) 65 5],(ao _ _ M).keep (Gle.refl _) (by simp),fun w h=>h.mono (Gle.refl _) (by simp),?_⟩;refine A0 ?_ rfl Bl;revert a;refine A2 K0 rfl rfl (W8 M (bo (mvN 0)) SCq1 SLq1 bt (fun x hx=>by rcases List.mem_append.1 hx with h_ | h_;exact ba x h_;rw [List.mem_singleton.1 h_];exact Nat.zero_le _))<|?_;clear M;rintro _ w M ⟨dL,rfl⟩
   replace M:=ao _ _ M;clear ao;intro a F;clear bt;replace HG:=al;clear al;replace SCq1:=I;clear I;replace SLq1:=N;clear N;replace Ex:=aj;clear aj;replace SIe13:=ac;clear ac;replace M:=z_M M;revert a;refine Ao<|?_
   refine eQ (Aw M)<|wk ?_;refine fun a F=>A0 ?_ rfl Bl;refine Bf F M Az 2<|sZ ?_;clear F M a;intro w M;refine Ao<|?_
   refine eQ (Aw M)<|wk ?_;replace M:=M.perm (Ah _ 5 _ rfl);replace M:=M.perm (Ah _ 5 _ rfl);replace M:=M.perm (Ah _ 2 _ rfl);replace M:=M.perm (Ah _ 5 _ rfl);replace M:=z_M M;intro a F
   exact ⟨fU,M.wn tW⟩
  exact Bl
 clear F M;rintro a w ⟨F,M⟩;revert a;refine wk ?_;replace M:=M.perm (Ah _ 1 _ rfl);replace M:=z_M M;refine A2 Uv rfl rfl (Ti M Ex (fun G' aX M' S'=>Rx M' (HG.mono aX) S'))<|?_;clear M;rintro _ w M rfl
 intro a F;rw [bQ.1,bQ.2.1] at F;revert a;refine wk ?_;refine C3 Xz rfl rfl (Hm (s:=(Bz X)) M HG tM)<|?_;clear M;rintro _ eI w aE M ⟨fc,di,da,cL,rfl,Sq31,bb⟩
 replace HG:=HG.mono aE;replace SCq1:=SCq1.mono Ai aE;replace SLq1:=SLq1.mono Ab aE;replace Ex:=Ex.mono Aa aE;obtain ⟨bh,rfl,rfl⟩:di=X∧da=0∧cL=0:=by have h_:=bb.uniq dU;simpa only [Prod.mk.injEq] using h_
 clear bb;intro a F;rw [bh] at F Sq31;clear bh;revert a;refine wk ?_;refine Ak (fun a F=>Bg (F.ev rfl) (F.ev rfl) tO) rfl<|C3 Xz rfl rfl (Hm (s:=(Bz X++[114,101,115,101,116,32,51,10])) M HG (by (simp only [lA,lC,lN];omega)))<|?_;clear M;rintro _ eJ w a7 M ⟨fd,dj,db,cM,rfl,Sq32,be⟩
 replace HG:=HG.mono a7;replace SCq1:=SCq1.mono Ai a7;replace SLq1:=SLq1.mono Ab a7;replace Ex:=Ex.mono Aa a7;replace Sq31:=Sq31.mono Aa a7;obtain ⟨bi,rfl,rfl⟩:dj=([]:List NotD)∧db=33∧cM=3:=by have h_:=be.uniq dR;simpa only [Prod.mk.injEq] using h_
 clear be;intro a F;rw [bi] at F Sq32;clear bi;revert a;refine wk ?_;refine Ak (fun a F=>Bg (F.ev rfl) (F.ev rfl) tO) rfl<|C3 Xz rfl rfl (Hm (s:=(Bz X++[114,101,115,101,116,32,49,48,50,53,10])) M HG (by (simp only [lA,lC,lN];omega)))<|?_;clear M;rintro _ aS w ay M ⟨fe,dk,dc,cO,rfl,Sq33,bf⟩
 replace HG:=HG.mono ay;replace SCq1:=SCq1.mono Ai ay;replace SLq1:=SLq1.mono Ab ay;replace Ex:=Ex.mono Aa ay;replace Sq31:=Sq31.mono Aa ay;replace Sq32:=Sq32.mono Aa ay;obtain ⟨bj,rfl,rfl⟩:dk=([]:List NotD)∧dc=33∧cO=5:=by have h_:=bf.uniq dS;simpa only [Prod.mk.injEq] using h_
 clear bf;intro a F;rw [bj] at F Sq33;clear bj;revert a;refine wk ?_;obtain ⟨fq,_,eV,eu,_,cd,bM⟩:=M.atRow (k:=0) rfl tD Ex cQ;obtain ⟨aG,aH,rfl,b6,b9,bC,bG,bJ,SIe34⟩:=bM;have aF:(mvN 0).kind < 256∧Al .i64 (mvN 0).at_∧Al .i64 (mvN 0).count∧Al .i64 (mvN 0).to∧(mvN 0).iZ.length≤9223372036854775807:=⟨b6,b9,bC,bG,bJ⟩;refine wk ?_;refine Ak (fun a F=>Cv Ba rfl (F.ev rfl) (cs:=[iB ((((mvN 0).kind:Nat):Int)),iI ((mvN 0).at_),iI ((mvN 0).count),iI ((mvN 0).to),vS aG ((mvN 0).iZ.length) (aH)]) rfl (Yg cd 0 tM rfl)) rfl<|fun a F=>?_
 refine Ar F M Du.k Ba rfl rfl (cs:=[iB ((((mvN 0).kind:Nat):Int)),iI ((mvN 0).at_),iI ((mvN 0).count),iI ((mvN 0).to),vS aG ((mvN 0).iZ.length) (aH)]) rfl rfl tS tD rfl ?_;clear F M a;intro gl w a M F;obtain ⟨cz,cA,rfl,d3,dp,eh⟩:=M.rS (k:=0) rfl;have cj:Els Ct 5 aS [iB ((((mvN 0).kind:Nat):Int)),iI ((mvN 0).at_),iI ((mvN 0).count),iI ((mvN 0).to),vS aG ((mvN 0).iZ.length) (aH)] [mvN 0]:=⟨_,[],rfl,rfl,⟨aG,aH,rfl,aF.1,aF.2.1,aF.2.2.1,aF.2.2.2.1,aF.2.2.2.2,SIe34⟩,rfl⟩;have al:=HG;have I:=SCq1;have N:=SLq1;have aj:=Ex;have a0:=Sq31;have a1:=Sq32;have a2:=Sq33;have au:=SIe34;refine Ht F Aa M (k:=1) (k2:=0) rfl rfl Du.k Ba rfl rfl tD Ex cj tD rfl rfl (by rw [aO];show (32+1) * 56≤_;decide) (by rw [aO];decide) rfl ?_;clear F M a;intro ff fy eL w a az M bu ao F;replace HG:=HG.mono az;replace SCq1:=SCq1.mono Ai az;replace SLq1:=SLq1.mono Ab az;replace Sq31:=Sq31.mono Aa az;replace Sq32:=Sq32.mono Aa az;replace Sq33:=Sq33.mono Aa az;replace SIe34:=SIe34.mono Ac az;replace M:=z_M M;revert a;refine A2 Uv rfl rfl (Rx M HG bu)<|?_;clear M;rintro _ w M rfl
 intro a F;rw [dV (mvN 0)] at F;replace M:=ao _ _ M;clear ao;clear bu;replace HG:=al;clear al;replace SCq1:=I;clear I;replace SLq1:=N;clear N;replace Ex:=aj;clear aj;replace Sq31:=a0;clear a0;replace Sq32:=a1;clear a1;replace Sq33:=a2;clear a2;replace SIe34:=au;clear au;replace M:=z_M M;revert a;refine wk ?_;have f5:(!(decide (((R.length:Nat):Int)=3)))=false:=(Ge (decide_eq_true (by (first | omega | rfl | (simp;done) | (rw [if_pos (show (rsN K).iZ=K from rfl)];decide) | decide))));refine wk ?_;replace M:=z_M M;refine A2 A0i rfl rfl (Ti M Ex (fun G' aX M' S'=>Km (xs:=X) (ys:=X) M' S' (Sq31.mono Aa aX)))<|?_;clear M;rintro _ w M rfl
 refine wk ?_;have f6:(decide ((if X=X then (1:Int) else 0)=0))=false:=(decide_eq_false (by (first | omega | rfl | (simp;done) | (rw [if_pos (show (rsN K).iZ=K from rfl)];decide) | decide)));refine wk ?_;have M:=M.nilrow 26 4;replace M:=z_M M;intro a F;refine Bd (fun m a' w'=>∃ (i:Nat),∃ (ak:Option Addr),∃ (nk:Nat),∃ (ck:Nat),∃ (bm:List Value),m=1024 - i∧Fits 335 a' [(24,vS ak nk ck),(25,iI ((i:Nat):Int))]∧Mem w0 aS (rR (vS ak nk ck) (nk) (bm) 26 4::rR (vS ax X.length cx) (X.length) (aw) 65 5::rR (vS cz 1 (cA)) 1 ([iB ((((mvN 0).kind:Nat):Int)),iI ((mvN 0).at_),iI ((mvN 0).count),iI ((mvN 0).to),vS aG ((mvN 0).iZ.length) (aH)]) 65 5::rB aK [vS av R.length R.length] 54::rB b4 [vS a5 l3.length a6] 54::rB b2 [vS a3 c3.kZ.length a4,iI 1] 51::L) w'∧(i≤1024)∧(Els Bp 4 aS bm (kbL i))∧(nk=i)) _ ⟨0,none,0,0,[],rfl,fU,M,tM,Els.nil,rfl⟩ ?_;clear F M;rintro m a w ⟨i,ak,nk,ck,bm,rfl,F,M,hi,Ek,e2⟩;revert a;refine wk ?_;refine qD rfl ?_ ?_
 ·intro fR;refine wk ?_;refine Ak (fun a F=>Bb Gh.k ⟨_,by rw [Be Cj.k]⟩ (F.ev rfl) (Gn tM tM)) rfl<|Ak (fun a F=>Am (cs:=[iU (((i:Nat):Int)+1),iB 0,qT [97,98,99,100,101,102,103,104,105,106,107,108,109,110,111,112,113,114,115,116,117,118,119,120,121,122,48,49,50,51,52,53,54,55,56,57,97,98,99,100,101,102,103,104,105,106,107,108,109,110,111,112,113,114,115,116,117,118,119,120,121,122,126,32],sN]) Bc.k rfl Bc (F.evp rfl) rfl) rfl<|fun a F=>?_
  refine Ar F M Ci.k Bc rfl rfl (cs:=[iU (((i:Nat):Int)+1),iB 0,qT [97,98,99,100,101,102,103,104,105,106,107,108,109,110,111,112,113,114,115,116,117,118,119,120,121,122,48,49,50,51,52,53,54,55,56,57,97,98,99,100,101,102,103,104,105,106,107,108,109,110,111,112,113,114,115,116,117,118,119,120,121,122,126,32],sN]) rfl rfl tS tD rfl ?_;clear F M a;intro gm w a M F;obtain ⟨fk,f2,rfl,d4,dq,ei⟩:=M.rS (k:=0) rfl;have ec:(((i:Nat):Int)+1:Int)=(((i+1:Nat)):Int):=by omega
  have Eb:Els Bp 4 aS [iU (((i:Nat):Int)+1),iB 0,qT [97,98,99,100,101,102,103,104,105,106,107,108,109,110,111,112,113,114,115,116,117,118,119,120,121,122,48,49,50,51,52,53,54,55,56,57,97,98,99,100,101,102,103,104,105,106,107,108,109,110,111,112,113,114,115,116,117,118,119,120,121,122,126,32],sN] [kb i]:=⟨[iU (((i:Nat):Int)+1),iB 0,qT [97,98,99,100,101,102,103,104,105,106,107,108,109,110,111,112,113,114,115,116,117,118,119,120,121,122,48,49,50,51,52,53,54,55,56,57,97,98,99,100,101,102,103,104,105,106,107,108,109,110,111,112,113,114,115,116,117,118,119,120,121,122,126,32],sN],[],rfl,rfl,⟨none,0,by rw [ec];rfl,by show i+1 < _;omega,by show 0 < 256;omega,(by show W9.length≤_;rw [show W9.length=64 by decide];omega),Nat.zero_le _,Aj.nil⟩,rfl⟩;refine A4 F M (k:=1) (k2:=0) rfl rfl Ci.k Bc rfl rfl tD rfl rfl tX tO rfl ?_;clear F M a;intro gn w a M F;have cm:=Els.append Ek Eb;obtain ⟨c0,cB,rfl,d5,dr,ej⟩:=M.rS (k:=1) rfl;revert a;refine wk ?_;intro a F
  exact ⟨_,tM,i+1,(c0),(nk+1),(cB),bm++([iU (((i:Nat):Int)+1),iB 0,qT [97,98,99,100,101,102,103,104,105,106,107,108,109,110,111,112,113,114,115,116,117,118,119,120,121,122,48,49,50,51,52,53,54,55,56,57,97,98,99,100,101,102,103,104,105,106,107,108,109,110,111,112,113,114,115,116,117,118,119,120,121,122,126,32],sN]),rfl,fU,(M.wn tW),tM,by rw [Ayy];exact cm,tM⟩
 intro fS;refine wk ?_;obtain rfl:i=1024:=by omega
 obtain ⟨K,hK⟩:∃ K,K=kbL 1024:=⟨_,rfl⟩;have aR:=kb_many hK;have bn:=aR.len;have ez:nk=K.length:=by rw [bn];exact e2
 subst ez;intro a F;rw [← hK] at Ek;have dP:K[0]?=some (kb 0):=by rw [hK];exact kbL_at tD
 replace M:=M.wn (cC (cN (.cons _ (cN (.cons _ (cN (sR _)))))));replace M:=z_M M;have al:=HG;have I:=SCq1;have N:=SLq1;have aj:=Ex;have a0:=Sq31;have a1:=Sq32;have a2:=Sq33;have au:=SIe34;have bp:=Ek;obtain ⟨Gk,aP,M,Sk,ao⟩:=rl_lend M Ek;replace HG:=HG.mono aP;replace SCq1:=SCq1.mono Ai aP;replace SLq1:=SLq1.mono Ab aP;replace Ex:=Ex.mono Aa aP;replace Sq31:=Sq31.mono Aa aP;replace Sq32:=Sq32.mono Aa aP;replace Sq33:=Sq33.mono Aa aP;replace SIe34:=SIe34.mono Ac aP;revert a;refine wk ?_;have M:=M.nilrow 65 5;replace M:=z_M M;intro a F;refine Bd (fun m a' w'=>∃ (i:Nat),∃ (ax:Option Addr),∃ (nx:Nat),∃ (cx:Nat),∃ (aw:List Value),m=16 - i∧Fits 335 a' [(24,vS ak K.length ck),(3,vS ax nx cx),(26,iI ((i:Nat):Int))]∧Mem w0 Gk (rR (vS ax nx cx) (nx) (aw) 65 5::L) w'∧(i≤16)∧(Els Ct 5 Gk aw (List.replicate i (rsN K)))∧(nx=i)) _ ⟨0,none,0,0,[],rfl,fU,M,tM,Els.nil,rfl⟩ ?_;clear F M;rintro m a w ⟨i,ax,nx,cx,aw,rfl,F,M,hi,Ex,bZ⟩;revert a;refine wk ?_;refine qD rfl ?_ ?_
 ·intro fT;refine wk ?_;refine Ak (fun a F=>Am (cs:=[iB 5,iI 0,iI 0,iI 0,vS ak K.length ck]) Ba.k rfl Ba (F.evp rfl) rfl) rfl<|fun a F=>?_
  refine Ar F M Du.k Ba rfl rfl (cs:=[iB 5,iI 0,iI 0,iI 0,vS ak K.length ck]) rfl rfl tS tD rfl ?_;clear F M a;intro gp w a M F;obtain ⟨fn,f3,rfl,d6,dt,ek⟩:=M.rS (k:=0) rfl;have Em:Els Ct 5 Gk [iB 5,iI 0,iI 0,iI 0,vS ak K.length ck] [rsN K]:=⟨[iB 5,iI 0,iI 0,iI 0,vS ak K.length ck],[],rfl,rfl,⟨ak,ck,rfl,by show 5 < 256;omega,(Ro aR).2.1,(Ro aR).2.2.1,(Ro aR).2.2.2.1,(by show K.length≤_;omega),Sk⟩,rfl⟩;refine A4 F M (k:=1) (k2:=0) rfl rfl Du.k Ba rfl rfl tD rfl rfl tX tO rfl ?_;clear F M a;intro gq w a M F;have cn:=Els.append Ex Em;obtain ⟨c1,cD,rfl,d7,du,el⟩:=M.rS (k:=1) rfl;revert a;refine wk ?_;intro a F
  exact ⟨_,tM,i+1,(c1),(nx+1),(cD),aw++([iB 5,iI 0,iI 0,iI 0,vS ak K.length ck]),rfl,fU,(M.wn tW),tM,by rw [List.replicate_succ'];exact cn,tM⟩
 intro fV;refine wk ?_;obtain rfl:i=16:=by omega
 obtain ⟨Y,hY⟩:∃ Y,Y=List.replicate 16 (rsN K):=⟨_,rfl⟩;have cS:Y.length=16:=by rw [hY,List.length_replicate]
 have cR:Dk Y=3:=by rw [hY];exact rs_16 aR
 obtain ⟨Z,hZ⟩:∃ Z,Z=List.replicate 10 (rsN K):=⟨_,rfl⟩;have gg:Z.length=10:=by rw [hZ,List.length_replicate]
 have dW:Y.take 10=Z:=by rw [hY,hZ,List.take_replicate];rfl
 have bR:Dk Z=0∧PF (D2 Z) (Z,0,0)∧(D2 Z).length≤1048576:=by rw [hZ];exact rs_10 aR
 have dX:Z[9]?=some (rsN K):=by rw [hZ];rfl
 have gf:=bR.2.2;intro a F;rw [← hY] at Ex;have ey:nx=Y.length:=by rw [cS];exact bZ
 subst ey;obtain ⟨e3,eS,c4,cF,ap,bS,aZ,M⟩:=M.fZ Aa (k:=0) rfl Ex tD;clear bS c4 cF;replace HG:=HG.mono ap;replace SCq1:=SCq1.mono Ai ap;replace SLq1:=SLq1.mono Ab ap;replace Sq31:=Sq31.mono Aa ap;replace Sq32:=Sq32.mono Aa ap;replace Sq33:=Sq33.mono Aa ap;replace SIe34:=SIe34.mono Ac ap;replace Sk:=Sk.mono Ac ap;replace M:=z_M M;revert a;refine wk ?_;refine A2 Uv rfl rfl (Rx M HG aZ)<|?_;clear M;rintro _ w M rfl
 intro a F;rw [cR] at F;revert a;refine wk ?_;obtain ⟨fh,fz,cw,ex,eb,aU⟩:=aZ.partT 10 tM;refine Ak (fun a F=>Gu Du.k Ba cw (F.ev rfl) (h:=10) (kl:=.i64) (zl:=0) rfl ⟨(F.ev rfl),tM⟩ tM tM) rfl<|?_
 have cT:10 - 0=(Y.take 10).length:=by rw [lT,cS];rfl
 intro a F;rw [cT] at F aU;rw [dW] at F aU;revert a;refine A2 Uv rfl rfl (Rx (ns:=Z) M HG aU)<|?_;clear M;rintro _ w M rfl
 intro a F;rw [bR.1] at F;revert a;refine wk ?_;replace M:=ao _ _ (R1 M ap);clear ao;intro a F;clear Sk;clear aZ;clear aU;replace HG:=al;clear al;replace SCq1:=I;clear I;replace SLq1:=N;clear N;replace Ex:=aj;clear aj;replace Sq31:=a0;clear a0;replace Sq32:=a1;clear a1;replace Sq33:=a2;clear a2;replace SIe34:=au;clear au;replace Ek:=bp;clear bp;replace M:=z_M M;revert a;refine wk ?_;refine C3 Xz rfl rfl (Hm (s:=(D2 Z)) M HG tM)<|?_;clear M;rintro _ co w an M ⟨fg,dl,de,cP,rfl,Sq49,bg⟩
 replace HG:=HG.mono an;replace Ek:=Ek.mono Ac an;obtain ⟨bk,rfl,rfl⟩:dl=Z∧de=0∧cP=0:=by have h_:=bg.uniq bR.2.1;simpa only [Prod.mk.injEq] using h_
 clear bg;intro a F;rw [bk] at F Sq49;clear bk;revert a;refine wk ?_;obtain ⟨fs,_,eW,ew,_,ce,bN⟩:=M.atRow (k:=0) rfl tD Ek dP;obtain ⟨a8,a9,rfl,bY,ca,cb,e1,SMe50⟩:=bN;have aQ:((kb 0).key < 18446744073709551616∧(kb 0).typ < 256∧(kb 0).text.length≤9223372036854775807):=⟨bY,ca,cb⟩;refine wk ?_;refine Ak (fun a F=>Cv Bc rfl (F.ev rfl) (cs:=[iU ((((kb 0).key:Nat):Int)),iB ((((kb 0).typ:Nat):Int)),qT ((kb 0).text),vS a8 ((kb 0).mZ.length) (a9)]) rfl (Yg ce 0 tM rfl)) rfl<|fun a F=>?_
 refine Ar F M Ci.k Bc rfl rfl (cs:=[iU ((((kb 0).key:Nat):Int)),iB ((((kb 0).typ:Nat):Int)),qT ((kb 0).text),vS a8 ((kb 0).mZ.length) (a9)]) rfl rfl tS tD rfl ?_;clear F M a;intro gr w a M F;obtain ⟨bv,bz,rfl,d8,dv,em⟩:=M.rS (k:=0) rfl;have cl:Els Bp 4 co [iU ((((kb 0).key:Nat):Int)),iB ((((kb 0).typ:Nat):Int)),qT ((kb 0).text),vS a8 ((kb 0).mZ.length) (a9)] [kb 0]:=⟨_,[],rfl,rfl,⟨a8,a9,rfl,aQ.1,aQ.2.1,aQ.2.2,(by have h_:=SMe50.bound;show (kb 0).mZ.length≤_;omega),SMe50⟩,rfl⟩;refine Wi F Ac M (k:=1) (k2:=0) rfl rfl Ci.k Bc rfl rfl tD Ek cl tD rfl rfl (by rw [bn];show (1024+1) * 56≤_;decide) (by rw [bn];decide) rfl ?_;clear F M a;intro aI aJ cp w a am M Sq52 So F;replace HG:=HG.mono am;replace Sq49:=Sq49.mono Aa am;revert a;refine Ak (fun a F=>Am (cs:=[iB 1,iI 0,iI 0,iI 0,vS aI ((K++[kb 0]).length) (aJ)]) Ba.k rfl Ba (F.evp rfl) rfl) rfl<|fun a F=>?_
 refine Ar F M Du.k Ba rfl rfl (cs:=[iB 1,iI 0,iI 0,iI 0,vS aI ((K++[kb 0]).length) (aJ)]) rfl rfl tS tD rfl ?_;clear F M a;intro gs w a M F;obtain ⟨fo,f4,rfl,d9,dw,en⟩:=M.rS (k:=0) rfl;have Ei:Els Ct 5 cp [iB 1,iI 0,iI 0,iI 0,vS aI ((K++[kb 0]).length) (aJ)] [(⟨1,0,0,0,K++[kb 0]⟩:NotD)]:=⟨[iB 1,iI 0,iI 0,iI 0,vS aI ((K++[kb 0]).length) (aJ)],[],rfl,rfl,⟨aI,aJ,rfl,by show 1 < 256;omega,Bi (n:=0) tD tD,Bi (n:=0) tD tD,Bi (n:=0) tD tD,(by show (K++[kb 0]).length≤_;rw [lA,bn];show 1024+1≤_;omega),Sq52⟩,rfl⟩;obtain ⟨e4,ct,c5,cG,ai,bT,Sz54,M⟩:=M.fZ Aa (k:=0) rfl Ei tD;clear bT c5 cG;replace HG:=HG.mono ai;replace Sq49:=Sq49.mono Aa ai;replace So:=So.mono Ac ai;revert a;refine A2 Uv rfl rfl (Rx (ns:=[(⟨1,0,0,0,K++[kb 0]⟩:NotD)]) M HG Sz54)<|?_;clear M;rintro _ w M rfl
 intro a F;rw [Azk aR] at F;revert a;refine wk ?_;have f7:(!(decide (((Z.length:Nat):Int)=10)))=false:=(Ge (decide_eq_true (by (first | omega | rfl | (simp;done) | (rw [if_pos (show (rsN K).iZ=K from rfl)];decide) | decide))));refine wk ?_;obtain ⟨ft,fE,_,eX,_,Ae56,bO⟩:=Sq49.at dX;obtain ⟨eD,eE,rfl,b7,bA,bD,bH,bK,SIe56⟩:=bO;have dQ:(rsN K).kind < 256∧Al .i64 (rsN K).at_∧Al .i64 (rsN K).count∧Al .i64 (rsN K).to∧(rsN K).iZ.length≤9223372036854775807:=⟨b7,bA,bD,bH,bK⟩;refine wk ?_;refine A2 ent13 rfl rfl (P9 (xs:=(rsN K).iZ) (ys:=K) M SIe56 So)<|?_;clear M;rintro _ w M rfl
 refine wk ?_;have f8:(decide ((if ((rsN K).iZ)=K then (1:Int) else 0)=0))=false:=(decide_eq_false (by (first | omega | rfl | (simp;done) | (rw [if_pos (show (rsN K).iZ=K from rfl)];decide) | decide)));refine wk ?_;intro a F;refine Bw F M Dx.k Dg (ps:=[(0,qT [109,111,118,101,32,57,50,50,51,51,55,50,48,51,54,56,53,52,55,55,53,56,48,55,32,45,57,50,50,51,51,55,50,48,51,54,56,53,52,55,55,53,56,48,56,32,48,10]),(1,qT [109,111,118,101,32,57,50,50,51,51,55,50,48,51,54,56,53,52,55,55,53,56,48,56,32,48,32,48,10]),(2,qT [114,101,109,111,118,101,32,45,48,32,48,10]),(3,qT [114,101,109,111,118,101,32,48,32,48,32,10]),(4,qT [114,101,115,101,116,32,45,49,10]),(5,qT [105,110,115,101,114,116,32,49,10]),(6,qT [105,110,115,101,114,116,32,48,49,32,48,10]),(7,qT [114,101,115,101,116,32,49,10,49,32,48,32,45,32,120]),(8,qT [114,101,115,101,116,32,49,10]),(9,qT [114,101,115,101,116,32,48,10,10]),(10,qT [114,101,109,111,118,101,32,48,32,48,32,48,10]),(11,qT [114,101,115,101,116,32,49,10,114,101,115,101,116,32,48,10])]) (cs:=[[qT [109,111,118,101,32,57,50,50,51,51,55,50,48,51,54,56,53,52,55,55,53,56,48,55,32,45,57,50,50,51,51,55,50,48,51,54,56,53,52,55,55,53,56,48,56,32,48,10]],[qT [109,111,118,101,32,57,50,50,51,51,55,50,48,51,54,56,53,52,55,55,53,56,48,56,32,48,32,48,10]],[qT [114,101,109,111,118,101,32,45,48,32,48,10]],[qT [114,101,109,111,118,101,32,48,32,48,32,10]],[qT [114,101,115,101,116,32,45,49,10]],[qT [105,110,115,101,114,116,32,49,10]],[qT [105,110,115,101,114,116,32,48,49,32,48,10]],[qT [114,101,115,101,116,32,49,10,49,32,48,32,45,32,120]],[qT [114,101,115,101,116,32,49,10]],[qT [114,101,115,101,116,32,48,10,10]],[qT [114,101,109,111,118,101,32,48,32,48,32,48,10]],[qT [114,101,115,101,116,32,49,10,114,101,115,101,116,32,48,10]]]) (fl:=[qT [109,111,118,101,32,57,50,50,51,51,55,50,48,51,54,56,53,52,55,55,53,56,48,55,32,45,57,50,50,51,51,55,50,48,51,54,56,53,52,55,55,53,56,48,56,32,48,10],qT [109,111,118,101,32,57,50,50,51,51,55,50,48,51,54,56,53,52,55,55,53,56,48,56,32,48,32,48,10],qT [114,101,109,111,118,101,32,45,48,32,48,10],qT [114,101,109,111,118,101,32,48,32,48,32,10],qT [114,101,115,101,116,32,45,49,10],qT [105,110,115,101,114,116,32,49,10],qT [105,110,115,101,114,116,32,48,49,32,48,10],qT [114,101,115,101,116,32,49,10,49,32,48,32,45,32,120],qT [114,101,115,101,116,32,49,10],qT [114,101,115,101,116,32,48,10,10],qT [114,101,109,111,118,101,32,48,32,48,32,48,10],qT [114,101,115,101,116,32,49,10,114,101,115,101,116,32,48,10]]) rfl rfl (by simp [Gt,Value.cells]) (by simp [ti9]) rfl tS tD tD rfl ?_;clear F M a;intro gt w a M F
 obtain ⟨c2,cE,rfl,dA,dx,eo⟩:=M.rS (k:=0) rfl;have Ep:Els Cr 1 ct [qT [109,111,118,101,32,57,50,50,51,51,55,50,48,51,54,56,53,52,55,55,53,56,48,55,32,45,57,50,50,51,51,55,50,48,51,54,56,53,52,55,55,53,56,48,56,32,48,10],qT [109,111,118,101,32,57,50,50,51,51,55,50,48,51,54,56,53,52,55,55,53,56,48,56,32,48,32,48,10],qT [114,101,109,111,118,101,32,45,48,32,48,10],qT [114,101,109,111,118,101,32,48,32,48,32,10],qT [114,101,115,101,116,32,45,49,10],qT [105,110,115,101,114,116,32,49,10],qT [105,110,115,101,114,116,32,48,49,32,48,10],qT [114,101,115,101,116,32,49,10,49,32,48,32,45,32,120],qT [114,101,115,101,116,32,49,10],qT [114,101,115,101,116,32,48,10,10],qT [114,101,109,111,118,101,32,48,32,48,32,48,10],qT [114,101,115,101,116,32,49,10,114,101,115,101,116,32,48,10]] Aoa:=Hp Aoa (by intro y hy;simp only [Aoa,mC,List.not_mem_nil,or_false] at hy;rcases hy with rfl | rfl | rfl | rfl | rfl | rfl | rfl | rfl | rfl | rfl | rfl | rfl <;> decide);obtain ⟨e5,bq,c6,cH,ab,bU,Sz59,M⟩:=M.fZ Au (k:=0) rfl Ep tD;clear bU c6 cH;replace HG:=HG.mono ab; replace Ae56:=Ae56.mono ab;revert a;refine wk ?_;refine fun a F=>Bd (fun m a' w'=>∃ (i:Nat),m=12 - i∧∃ aY,Gle bq aY∧Fits 335 a' [(247,vS c2 12 (cE)),(248,iI ((12:Nat):Int)),(249,iI ((i:Nat):Int))]∧Mem w0 aY (rR (vS bv 1 (bz)) 1 ([iU ((((kb 0).key:Nat):Int)),iB ((((kb 0).typ:Nat):Int)),qT ((kb 0).text),vS a8 ((kb 0).mZ.length) (a9)]) 26 4::L) w'∧(i≤12)) _ ⟨0,rfl,bq,Gle.refl _,fU,M,tM⟩ ?_;clear F M;rintro m a w ⟨i,rfl,aY,ag,F,M,hi⟩;replace HG:=HG.mono ag;replace Ae56:=Ae56.mono ag;replace Sz59:=Sz59.mono Au ag;revert a;refine wk ?_;refine qD rfl ?_ ?_
 ·intro fW;refine wk ?_;obtain ⟨cy,bP⟩:=Aq (xs:=Aoa) (i:=i) tM;obtain ⟨fu,fF,_,eY,_,Ae62,⟨rfl,dE⟩⟩:=Sz59.at bP;refine wk ?_;refine C3 ent8 rfl rfl (Aga (s:=cy) M HG (by first | assumption | omega))<|?_;clear M;rintro _ cq w T M rfl
  replace HG:=HG.mono T;replace Ae56:=Ae56.mono T;replace Ae62:=Ae62.mono T;refine Ak (fun a F=>Rm (F.ev rfl)) rfl<|Sc rfl rfl<|?_;refine wk ?_;intro a F
  exact ⟨_,tM,i+1,rfl,cq,(ag.trans T),fU,M,tM⟩
 intro fX;refine wk ?_;refine fun a F=>Bd (fun m a' w'=>∃ (i:Nat),m=160 - i∧∃ bl,Gle aY bl∧Fits 335 a' [(29,iI ((i:Nat):Int))]∧Mem w0 bl (rR (vS bv 1 (bz)) 1 ([iU ((((kb 0).key:Nat):Int)),iB ((((kb 0).typ:Nat):Int)),qT ((kb 0).text),vS a8 ((kb 0).mZ.length) (a9)]) 26 4::L) w'∧(i≤160)) _ ⟨0,rfl,aY,Gle.refl _,fU,M,tM⟩ ?_;clear F M;rintro m a w ⟨i,rfl,bl,ah,F,M,hi⟩;replace HG:=HG.mono ah;replace Ae56:=Ae56.mono ah;revert a;refine wk ?_;refine qD rfl ?_ ?_
 ·intro fY;refine wk ?_;refine Ak (fun a F=>Bb Cp.k ⟨_,by rw [Be Cj.k]⟩ (F.ev rfl) (Ho tM tM)) rfl<|?_
  refine Cd rfl<|?_
  refine Ak (fun a F=>Iq (F.ev rfl) (F.ev rfl) tM tM (Bi tM tM)) rfl<|?_
  have cU:(((i:Nat):Int) / 3:Int)=((i / 3:Nat):Int):=by omega
  intro a F;rw [cU] at F;revert a;refine Ak (fun a F=>Bb Cp.k ⟨_,by rw [Be Cj.k]⟩ (F.ev rfl) (Ho tM tM)) rfl<|?_
  refine Cd rfl<|?_
  refine Ak (fun a F=>Bb Cp.k ⟨_,by rw [Be Cj.k]⟩ (F.ev rfl) (Ho tM tM)) rfl<|?_
  refine Cd rfl<|?_
  refine Ak (fun a F=>Hy (F.ev rfl) (F.ev rfl) (Bi tM tM)) rfl<|?_
  have cV:(((i:Nat):Int) * 3:Int)=((i * 3:Nat):Int):=by omega
  intro a F;rw [cV] at F;revert a;refine Ak (fun a F=>N7 Cp.k ⟨_,by rw [Be Cj.k]⟩ (F.ev rfl)) rfl<|?_
  obtain ⟨aB,fB,df⟩:=Rb ((i * 3:Nat):Int);intro a F;rw [df] at F;revert a;refine Cd rfl<|?_
  refine Ak (fun a F=>Bb Cp.k ⟨_,by rw [Be Cj.k]⟩ (F.ev rfl) (Ho tM tM)) rfl<|Ak (fun a F=>C9 F (cs:=[iB ((i:Nat):Int),iB ((i / 3:Nat):Int),iB ((i:Nat):Int),iB ((aB:Nat):Int),iB ((i:Nat):Int)]) F0.k F0 Cp rfl rfl) rfl<|?_
  refine Cd rfl<|?_
  refine Ak (fun a F=>Iq (F.ev rfl) (F.ev rfl) tM tM (Bi tM tM)) rfl<|?_
  have cW:(((i:Nat):Int) / 2:Int)=((i / 2:Nat):Int):=by omega
  intro a F;rw [cW] at F;revert a;refine Ak (fun a F=>Bb Cp.k ⟨_,by rw [Be Cj.k]⟩ (F.ev rfl) (Ho tM tM)) rfl<|?_
  refine Cd rfl<|?_
  refine Ak (fun a F=>Bb Cp.k ⟨_,by rw [Be Cj.k]⟩ (F.ev rfl) (Ho tM tM)) rfl<|Ak (fun a F=>C9 F (cs:=[iB ((i / 2:Nat):Int),iB 1,iB 2,iB ((i:Nat):Int),iB 3]) F0.k F0 Cp rfl rfl) rfl<|?_
  refine Cd rfl<|?_
  refine Ak (fun a F=>Hy (F.ev rfl) (F.ev rfl) (Bi tM tM)) rfl<|?_
  have cX:(((i:Nat):Int) * 5:Int)=((i * 5:Nat):Int):=by omega
  intro a F;rw [cX] at F;revert a;refine Ak (fun a F=>N7 Cp.k ⟨_,by rw [Be Cj.k]⟩ (F.ev rfl)) rfl<|?_
  obtain ⟨aC,fC,dg⟩:=Rb ((i * 5:Nat):Int);intro a F;rw [dg] at F;revert a;refine Cd rfl<|?_
  refine Ak (fun a F=>Bb Cp.k ⟨_,by rw [Be Cj.k]⟩ (F.ev rfl) (Ho tM tM)) rfl<|?_
  refine Cd rfl<|?_
  refine Ak (fun a F=>Hy (F.ev rfl) (F.ev rfl) (Bi tM tM)) rfl<|?_
  have cY:(((i:Nat):Int) * 7:Int)=((i * 7:Nat):Int):=by omega
  intro a F;rw [cY] at F;revert a;refine Ak (fun a F=>N7 Cp.k ⟨_,by rw [Be Cj.k]⟩ (F.ev rfl)) rfl<|?_
  obtain ⟨aD,fD,dh⟩:=Rb ((i * 7:Nat):Int);intro a F;rw [dh] at F;revert a;refine Cd rfl<|?_
  refine Ak (fun a F=>Bb Cp.k ⟨_,by rw [Be Cj.k]⟩ (F.ev rfl) (Ho tM tM)) rfl<|Ak (fun a F=>C9 F (cs:=[iB ((aC:Nat):Int),iB ((i:Nat):Int),iB ((aD:Nat):Int),iB 1,iB ((i:Nat):Int)]) F0.k F0 Cp rfl rfl) rfl<|fun a F=>?_
  refine Bw F M Zd.k F0 (ps:=[(0,.agg #[iB ((i:Nat):Int),iB ((i / 3:Nat):Int),iB ((i:Nat):Int),iB ((aB:Nat):Int),iB ((i:Nat):Int)]),(1,.agg #[iB ((i / 2:Nat):Int),iB 1,iB 2,iB ((i:Nat):Int),iB 3]),(2,.agg #[iB ((aC:Nat):Int),iB ((i:Nat):Int),iB ((aD:Nat):Int),iB 1,iB ((i:Nat):Int)])]) (cs:=[[iB ((i:Nat):Int),iB ((i / 3:Nat):Int),iB ((i:Nat):Int),iB ((aB:Nat):Int),iB ((i:Nat):Int)],[iB ((i / 2:Nat):Int),iB 1,iB 2,iB ((i:Nat):Int),iB 3],[iB ((aC:Nat):Int),iB ((i:Nat):Int),iB ((aD:Nat):Int),iB 1,iB ((i:Nat):Int)]]) (fl:=[iB ((i:Nat):Int),iB ((i / 3:Nat):Int),iB ((i:Nat):Int),iB ((aB:Nat):Int),iB ((i:Nat):Int),iB ((i / 2:Nat):Int),iB 1,iB 2,iB ((i:Nat):Int),iB 3,iB ((aC:Nat):Int),iB ((i:Nat):Int),iB ((aD:Nat):Int),iB 1,iB ((i:Nat):Int)]) rfl rfl (by simp [Gt,Value.cells]) (by simp [ti93]) rfl tS tD tD rfl ?_;clear F M a;intro gu w a M F;obtain ⟨bw,b0,rfl,dB,dy,ep⟩:=M.rS (k:=0) rfl;have E5:Els rdQ5 5 bl [iB ((i:Nat):Int),iB ((i / 3:Nat):Int),iB ((i:Nat):Int),iB ((aB:Nat):Int),iB ((i:Nat):Int),iB ((i / 2:Nat):Int),iB 1,iB 2,iB ((i:Nat):Int),iB 3,iB ((aC:Nat):Int),iB ((i:Nat):Int),iB ((aD:Nat):Int),iB 1,iB ((i:Nat):Int)] ([⟨i,i / 3,i,aB,i⟩,⟨i / 2,1,2,i,3⟩,⟨aC,i,aD,1,i⟩]:List Q5):=⟨[iB ((i:Nat):Int),iB ((i / 3:Nat):Int),iB ((i:Nat):Int),iB ((aB:Nat):Int),iB ((i:Nat):Int)],_,rfl,rfl,⟨by first | rfl | (show ([iB ((i:Nat):Int),iB ((i / 3:Nat):Int),iB ((i:Nat):Int),iB ((aB:Nat):Int),iB ((i:Nat):Int)]:List Value)=_;congr 1),by show i < 256;omega,by show i / 3 < 256;omega,by show i < 256;omega,by show aB < 256;omega,by show i < 256;omega⟩,⟨[iB ((i / 2:Nat):Int),iB 1,iB 2,iB ((i:Nat):Int),iB 3],_,rfl,rfl,⟨by first | rfl | (show ([iB ((i / 2:Nat):Int),iB 1,iB 2,iB ((i:Nat):Int),iB 3]:List Value)=_;congr 1),by show i / 2 < 256;omega,by show 1 < 256;omega,by show 2 < 256;omega,by show i < 256;omega,by show 3 < 256;omega⟩,⟨[iB ((aC:Nat):Int),iB ((i:Nat):Int),iB ((aD:Nat):Int),iB 1,iB ((i:Nat):Int)],_,rfl,rfl,⟨by first | rfl | (show ([iB ((aC:Nat):Int),iB ((i:Nat):Int),iB ((aD:Nat):Int),iB 1,iB ((i:Nat):Int)]:List Value)=_;congr 1),by show aC < 256;omega,by show i < 256;omega,by show aD < 256;omega,by show 1 < 256;omega,by show i < 256;omega⟩,rfl⟩⟩⟩
  obtain ⟨e6,cu,c7,cI,aa,bV,Sz76,M⟩:=M.fZ Cf (k:=0) rfl E5 tD;clear bV c7 cI;replace HG:=HG.mono aa;replace Ae56:=Ae56.mono aa;revert a;refine Ak (fun a F=>Am (cs:=[vS bw 3 (b0)]) T9.k rfl T9 (F.evp rfl) rfl) rfl<|B0 M T9 rfl rfl<|?_;clear M;intro fM w M
  intro a F;refine Bf F M T9 0<|sZ ?_;clear F M a;intro w M;refine wk ?_;refine Ak (fun a F=>C9 F (cs:=[iB 1,iB 0,iB 1,iB 1]) Hd.k Hd Cp rfl rfl) rfl<|Ak (fun a F=>C9 F (cs:=[iB 2,iB 1,iB 2,iB 2]) Hd.k Hd Cp rfl rfl) rfl<|?_
  refine Cd rfl<|?_
  refine Ak (fun a F=>C5 (F.ev rfl) (F.ev rfl) tM tM) rfl<|?_
  have cZ:(((i:Nat):Int) % 8:Int)=((i % 8:Nat):Int):=by omega
  intro a F;rw [cZ] at F;revert a;refine Ak (fun a F=>Bb Cp.k ⟨_,by rw [Be Cj.k]⟩ (F.ev rfl) (Ho tM tM)) rfl<|Ak (fun a F=>C9 F (cs:=[iB 3,iB 2,iB 3,iB ((i % 8:Nat):Int)]) Hd.k Hd Cp rfl rfl) rfl<|Ak (fun a F=>C9 F (cs:=[iB 4,iB 0,iB 0,iB 0]) Hd.k Hd Cp rfl rfl) rfl<|fun a F=>?_
  refine Bw F M Zf.k Hd (ps:=[(0,.agg #[iB 1,iB 0,iB 1,iB 1]),(1,.agg #[iB 2,iB 1,iB 2,iB 2]),(2,.agg #[iB 3,iB 2,iB 3,iB ((i % 8:Nat):Int)]),(3,.agg #[iB 4,iB 0,iB 0,iB 0])]) (cs:=[[iB 1,iB 0,iB 1,iB 1],[iB 2,iB 1,iB 2,iB 2],[iB 3,iB 2,iB 3,iB ((i % 8:Nat):Int)],[iB 4,iB 0,iB 0,iB 0]]) (fl:=[iB 1,iB 0,iB 1,iB 1,iB 2,iB 1,iB 2,iB 2,iB 3,iB 2,iB 3,iB ((i % 8:Nat):Int),iB 4,iB 0,iB 0,iB 0]) rfl rfl (by simp [Gt,Value.cells]) (by simp [ti39]) rfl tS tD tD rfl ?_;clear F M a;intro gv w a M F;obtain ⟨aV,aW,rfl,dC,dz,eq⟩:=M.rS (k:=0) rfl;have E4:Els Akh 4 cu [iB 1,iB 0,iB 1,iB 1,iB 2,iB 1,iB 2,iB 2,iB 3,iB 2,iB 3,iB ((i % 8:Nat):Int),iB 4,iB 0,iB 0,iB 0] ([⟨1,0,1,1⟩,⟨2,1,2,2⟩,⟨3,2,3,i % 8⟩,⟨4,0,0,0⟩]:List Q4):=⟨[iB 1,iB 0,iB 1,iB 1],_,rfl,rfl,⟨rfl,by show 1 < 256;omega,by show 0 < 256;omega,by show 1 < 256;omega,by show 1 < 256;omega⟩,⟨[iB 2,iB 1,iB 2,iB 2],_,rfl,rfl,⟨rfl,by show 2 < 256;omega,by show 1 < 256;omega,by show 2 < 256;omega,by show 2 < 256;omega⟩,⟨[iB 3,iB 2,iB 3,iB ((i % 8:Nat):Int)],_,rfl,rfl,⟨rfl,by show 3 < 256;omega,by show 2 < 256;omega,by show 3 < 256;omega,by show i % 8 < 256;omega⟩,⟨[iB 4,iB 0,iB 0,iB 0],_,rfl,rfl,⟨rfl,by show 4 < 256;omega,by show 0 < 256;omega,by show 0 < 256;omega,by show 0 < 256;omega⟩,rfl⟩⟩⟩⟩
  obtain ⟨e7,cv,c8,cJ,U,bW,Sz81,M⟩:=M.fZ Bq (k:=0) rfl E4 tD;clear bW c8 cJ;replace HG:=HG.mono U;replace Ae56:=Ae56.mono U;replace Sz76:=Sz76.mono Cf U;revert a;refine Ak (fun a F=>Am (cs:=[vS aV 4 (aW)]) Ze.k rfl Ze (F.evp rfl) rfl) rfl<|?_
  refine Cd rfl<|?_
  refine Ak (fun a F=>Bb Cp.k ⟨_,by rw [Be Cj.k]⟩ (F.ev rfl) (Ho tM tM)) rfl<|fun a F=>?_
  refine Bw F M Nn.k Cp (ps:=[(0,iB 9),(1,iB 0),(2,iB ((i:Nat):Int))]) (cs:=[[iB 9],[iB 0],[iB ((i:Nat):Int)]]) (fl:=[iB 9,iB 0,iB ((i:Nat):Int)]) rfl rfl (by simp [Gt,Value.cells]) (by simp [ti5]) rfl tS tD tD rfl ?_;clear F M a;intro gw w a M F;obtain ⟨bx,b1,rfl,dD,d0,er⟩:=M.rS (k:=0) rfl;have Ez:Els rdB 1 cv [iB 9,iB 0,iB ((i:Nat):Int)] ([9,0,UInt8.ofNat i]:List UInt8):=⟨[iB 9],_,rfl,rfl,rfl,⟨[iB 0],_,rfl,rfl,rfl,⟨[iB ((i:Nat):Int)],[],rfl,rfl,(by show [_]=[_];rw [nb_of (show i < 256 by omega)]),rfl⟩⟩⟩;obtain ⟨e8,eT,c9,cK,S,bX,Sz83,M⟩:=M.fZ B7 (k:=0) rfl Ez tD;clear bX c9 cK;replace HG:=HG.mono S;replace Ae56:=Ae56.mono S;replace Sz76:=Sz76.mono Cf S;replace Sz81:=Sz81.mono Bq S;revert a;refine Cd rfl<|?_
  refine Ak (fun a F=>Bb Cp.k ⟨_,by rw [Be Cj.k]⟩ (F.ev rfl) (Ho tM tM)) rfl<|Ak (fun a F=>Am (cs:=[vS aV 4 (aW),vS bx 3 (b1),iB ((i:Nat):Int)]) L8.k rfl L8 (F.evp rfl) rfl) rfl<|B0 M L8 rfl rfl<|?_;clear M;intro fN w M
  intro a F;refine Bf F M L8 0<|sZ ?_;clear F M a;intro w M;refine wk ?_;obtain ⟨c,hc⟩:∃ c,c=Ej i:=⟨_,rfl⟩;obtain ⟨l,hl⟩:∃ l,l=Mj c ([9,0,UInt8.ofNat i]:List UInt8) ([⟨1,0,1,1⟩,⟨2,1,2,2⟩,⟨3,2,3,i % 8⟩,⟨4,0,0,0⟩]:List Q4):=⟨_,rfl⟩;have gi:Dd c:=by rw [hc];exact N8 i
  have dY:Bh c l=0:=by rw [hl,hc];exact Xd
  have hn:i < 256:=by omega
  refine wk ?_;refine C3 Apr rfl rfl (Pl (qs:=([⟨1,0,1,1⟩,⟨2,1,2,2⟩,⟨3,2,3,i % 8⟩,⟨4,0,0,0⟩]:List Q4)) (zs:=([9,0,UInt8.ofNat i]:List UInt8)) M hc hn Sz81 Sz83 hl)<|?_;clear M;rintro _ eM w O M ⟨e9,eA,eB,eC,rfl,SC,SLq86⟩
  replace HG:=HG.mono O;replace Ae56:=Ae56.mono O;replace Sz76:=Sz76.mono Cf O;replace Sz81:=Sz81.mono Bq O;replace Sz83:=Sz83.mono B7 O;refine wk ?_;refine B0 M Fo rfl rfl<|?_;clear M;intro fO w M
  refine B0 M Az rfl rfl<|?_;clear M;intro fP w M
  intro a F;refine Bf F M Fo 1 ?_;clear F M a;intro w a M F;replace M:=z_M M;refine Bf F M Az 0<|sZ ?_;clear F M a;intro w M;refine wk ?_;refine C3 ent29 rfl rfl (Aik (c:=c) (l:=l) (bs:=([⟨i,i / 3,i,aB,i⟩,⟨i / 2,1,2,i,3⟩,⟨aC,i,aD,1,i⟩]:List Q5)) M Sz76 SC SLq86 dY)<|?_;clear M;rintro _ eN w H M ⟨ns,dH,dN,rfl,SN,gh,hA⟩
  replace HG:=HG.mono H;replace Ae56:=Ae56.mono H;replace Sz76:=Sz76.mono Cf H;replace Sz81:=Sz81.mono Bq H;replace Sz83:=Sz83.mono B7 H;have gc:∀ x∈ns,x.iZ.length≤900000:=fun x hx=>by have h_:=hA x hx;omega
  refine wk ?_;refine Ak (fun a F=>Bb Cp.k ⟨_,by rw [Be Cj.k]⟩ (F.ev rfl) (Ho tM tM)) rfl<|C3 ent5 rfl rfl (Afd (qs:=([⟨1,0,1,1⟩,⟨2,1,2,2⟩,⟨3,2,3,i % 8⟩,⟨4,0,0,0⟩]:List Q4)) (zs:=([9,0,UInt8.ofNat i]:List UInt8)) (bs:=([⟨i,i / 3,i,aB,i⟩,⟨i / 2,1,2,i,3⟩,⟨aC,i,aD,1,i⟩]:List Q5)) M HG hn Sz81 Sz83 Sz76 (m:=i) tM)<|?_;clear M;rintro _ eO w A M rfl
  replace HG:=HG.mono A;replace Ae56:=Ae56.mono A;replace Sz81:=Sz81.mono Bq A;replace Sz83:=Sz83.mono B7 A;replace SN:=SN.mono Aa A;refine Ak (v:=vB false) (fun a F=>Rm (b:=true) (F.ev rfl)) rfl<|?_;refine wk ?_;refine C3 ent4 rfl rfl (Ain (qs:=([⟨1,0,1,1⟩,⟨2,1,2,2⟩,⟨3,2,3,i % 8⟩,⟨4,0,0,0⟩]:List Q4)) (zs:=([9,0,UInt8.ofNat i]:List UInt8)) (ns:=ns) M HG hn Sz81 Sz83 SN)<|?_;clear M;rintro _ eP w D M rfl
  replace HG:=HG.mono D;replace Ae56:=Ae56.mono D;replace SN:=SN.mono Aa D;refine g_t rfl rfl<|Ak (v:=vB false) (fun a F=>Rm (b:=true) (F.ev rfl)) rfl<|?_;refine wk ?_;refine C3 ent7 rfl rfl (Ajh (xs:=ns) M HG SN)<|?_;clear M;rintro _ cr w E M rfl
  replace HG:=HG.mono E;replace Ae56:=Ae56.mono E;refine g_t rfl rfl<|Ak (v:=vB false) (fun a F=>Rm (b:=true) (F.ev rfl)) rfl<|?_;refine wk ?_;intro a F
  exact ⟨_,tM,i+1,rfl,cr,((((((((ah.trans aa).trans U).trans S).trans O).trans H).trans A).trans D).trans E),fU,(M.wn tW),tM⟩
 intro ga;refine wk ?_;refine C3 K1 rfl rfl (Da M HG)<|?_;clear M;rintro _ eR w V M rfl
 replace HG:=HG.mono V;replace Ae56:=Ae56.mono V;refine wk ?_;refine Af rfl rfl<|?_
 exact ⟨_,((((((((((b3.trans aE).trans a7).trans ay).trans an).trans am).trans ai).trans ab).trans ag).trans ah).trans V),M.wn dS1,rfl⟩
end Go.Proofs.YtmmhmcplegpenaaGreatDoor
