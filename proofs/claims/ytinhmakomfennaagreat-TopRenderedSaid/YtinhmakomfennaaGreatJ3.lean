/- Own lemmas. -/
import Derived.Test.YtinhmakomfennaaGreatJ2
import Derived.Lib.Overlaps
set_option linter.unusedSimpArgs false
set_option linter.unusedVariables false
set_option linter.unusedSectionVars false
set_option maxRecDepth 10000
set_option maxHeartbeats 2000000
namespace Go.V
open AV renaming int→iQ,ptr→jQ,str→sQ,bool→bQ,raw→kQ,agg→gQ
open Blk renaming cells→cQ,row→oQ
open IntKind renaming u32→uQ,i64→wQ,u8→vQ
open Go Go.Proofs
noncomputable def xOv (vs:List AV) (h:H):Option (AV × H):=match vs with
 | [.sl i _ _ _,.sl j _ _ _]=>match h.m.get i,h.m.get j,Nat.beq i j with
  | some (.mapb ..),_,_=>none
  | some (.fix ..),_,_=>none
  | some _,some (cQ (_::_) _),false=>some (bQ false,h)
  | _,_,_=>none
 | _=>none
noncomputable def ext0 (f:Nat) (vs:List AV) (h:H):Option (Option (AV × H)):=match f with
 | 131=>some (xOv vs h)
 | 199=>some (xOv vs h)
 | _=>none
noncomputable def Am:Ctx:=Aor ext0
section
variable {h:H} {i j o n c:Nat} {us cs B:List AV} {k:Blk}
theorem a3x:isAgg Am 3=some false:=kR
theorem a4x:isAgg Am 4=some false:=kR
theorem a50x:isAgg Am 50=some true:=kR
theorem a53x:isAgg Am 53=some false:=kR
theorem a77x:isAgg Am 77=some false:=kR
theorem s3x:size Am 3=1:=kR
theorem s4x:size Am 4=1:=kR
theorem Qi:size Am 50=2:=kR
theorem s53x:size Am 53=1:=kR
theorem s77x:size Am 77=1:=kR
theorem u3x:und Am 3=some (.int wQ):=kR
theorem Ux:und Am 53=some (.slice 50):=kR
theorem Uw:und Am 77=some (.slice 3):=kR
theorem z3x:zero Am 3=some (iQ wQ 0):=kR
theorem z4x:zero Am 4=some (bQ false):=kR
theorem z50x:zero Am 50=some (gQ [(iQ uQ 0),(iQ uQ 0)]):=kR
theorem z53x:zero Am 53=some (():AV):=kR
theorem z77x:zero Am 77=some (():AV):=kR
theorem Z8:∀ (us cs:List AV),Cl cs us=if us.length≤cs.length then some (us++cs.drop us.length) else none
 | [],cs=>by simp [Acv]
 | u::us,[]=>by rw [if_neg (by simp)];rfl
 | u::us,c::cs=>by
  rw [Acu,Z8 us cs]
  by_cases h:us.length≤cs.length
  ·rw [if_pos h,if_pos (by simpa using h)];rfl
  ·rw [if_neg h,if_neg (by simpa using h)];rfl
theorem Vk:∀ (o:Nat) (us cs:List AV),o≤cs.length→Dt o us cs=if o+us.length≤cs.length then some (cs.take o++(us++cs.drop (o+us.length))) else none
 | 0,us,cs,_=>by rw [Acr,Z8];simp
 | o+1,us,[],h=>by simp at h
 | o+1,us,c::cs,h=>by
  rw [Z0,Vk o us cs (by simpa using h)]
  by_cases h:o+us.length≤cs.length
  ·rw [if_pos h,if_pos (by simp;omega),show o+1+us.length=(o+us.length)+1 by omega];rfl
  ·rw [if_neg h,if_neg (by simp;omega)];rfl
def Blk.w (k:Blk) (cs:List AV):Blk:=match k with
 | cQ _ t=>cQ cs t
 | oQ _ n t sz=>oQ cs n t sz
 | .mapb e c=>.mapb e c
 | .fix cs t m=>.fix cs t m
def Blk.flat (k:Blk):Prop:=match k with
 | .mapb ..=>False
 | .fix ..=>False
 | _=>True
theorem w_cs (z:k.flat):(k.w cs).cs=cs:=by cases k <;> first | rfl | exact z.elim
theorem Aqo (z:k.flat):(k.w cs).flat:=by cases k <;> first | trivial | exact z.elim
theorem w_w:(k.w cs).w us=k.w us:=by cases k <;> rfl
theorem bput (E:k.flat) (D:k.cs=B) (I:o+us.length≤B.length):k.put o us=some (k.w (B.take o++(us++B.drop (o+us.length)))):=by
 cases k with
 | cells cs t=>subst D;show (match Dt o us cs with | some cs=>some (Blk.cells cs t) | none=>none)=_;rw [Vk _ _ _ (show o≤cs.length by show o≤(Blk.cells cs t).cs.length;omega),if_pos (show o+us.length≤cs.length from I)];rfl
 | row cs n t z=>subst D;show (match Dt o us cs with | some cs=>some (Blk.row cs n t z) | none=>none)=_;rw [Vk _ _ _ (show o≤cs.length by show o≤(Blk.row cs n t z).cs.length;omega),if_pos (show o+us.length≤cs.length from I)];rfl
 | mapb e c=>exact E.elim
 | fix cs t m=>exact E.elim
theorem hput (I:h.m.get i=some k) (E:k.flat) (D:k.cs=B) (J:o+us.length≤B.length) (z:Af us=true):h.put i o us=some (h.at i (k.w (B.take o++(us++B.drop (o+us.length))))):=by
 rw [Nq I,bput E D J];unfold Z4;rw [z]
theorem Mn (D:h.m.get i=some k) (z:k.cs=B) (E:o+n≤B.length):h.read i o n=some ((B.drop o).take n):=by
 unfold H.read;rw [D];show Aq o n k.cs=_;rw [z,Bw,if_pos E]
theorem Bn {l:List AV} (h:Af l=true) (k m:Nat):Af ((l.drop k).take m)=true:=by
 have z:Af (l.drop k)=true:=(El (x:=l.take k) (by rw [List.take_append_drop];exact h)).2;exact (El (y:=(l.drop k).drop m) (by rw [List.take_append_drop];exact z)).1
theorem C6 {k:Blk}:(h.at i k).m.get j=if j=i then some k else h.m.get j:=by
 show (h.m.set i k).get j=_;rw [Tr.get_set]
section
variable {C:Ctx} {t el sz l m x:Nat}
theorem osl {lo z mx:Option Nat} (D:und C t=some (.slice el)) (hs:size C el=sz+1):Al C h t (.sl i o n c) lo z mx=val h (Bs (sz+1) (.sl i o n c) lo z mx):=by
 unfold Al;rw [D];simp only [hs];rfl
theorem Ss (z:x≤c):Bs sz (.sl i o n c) none (some x) none=some (.sl i o x c):=by
 show Br i o c 0 x c sz=_;unfold Br;rw [Nat.ble_eq_true_of_le (Nat.zero_le _),Nat.ble_eq_true_of_le z,Nat.ble_eq_true_of_le (Nat.le_refl c)];simp only [Bool.and_self,G7];cases hc:Nat.beq c 0 <;> simp
theorem Aru (z:l≤x) (D:x≤c) (E:l < c):Bs sz (.sl i o n c) (some l) (some x) none=some (.sl i (o+l * sz) (x - l) (c - l)):=by
 show Br i o c l x c sz=_;unfold Br;rw [Nat.ble_eq_true_of_le z,Nat.ble_eq_true_of_le D,Nat.ble_eq_true_of_le (Nat.le_refl c)];simp only [Bool.and_self,G7];have:Nat.beq c l=false:=by rw [J2];exact decide_eq_false tM
 rw [this]
theorem F5 (z:l≤n) (D:n≤c) (E:l < c):Bs sz (.sl i o n c) (some l) none none=some (.sl i (o+l * sz) (n - l) (c - l)):=Aru (n:=n) z D E
theorem Ho (z:l=n) (D:n=c):Bs sz (.sl i o n c) (some l) none none=some (.sl i o 0 0):=by
 subst z D;show Br i o l l l l sz=_;unfold Br;rw [Nat.ble_eq_true_of_le (Nat.le_refl l)];simp only [Bool.and_self,G7];rw [Nat.beq_refl];simp
theorem Art (z:l≤x) (D:x≤m) (E:m≤c):Bs sz (.sl i o n c) (some l) (some x) (some m)=some (G7 i o l x m sz):=by
 show Br i o c l x m sz=_;unfold Br;rw [Nat.ble_eq_true_of_le z,Nat.ble_eq_true_of_le D,Nat.ble_eq_true_of_le E];rfl
def Sd (B:List AV) (o i n sz:Nat):List AV:=B.take (o+i * sz)++((B.drop (o+(i+1) * sz)).take ((n - (i+1)) * sz)++B.drop (o+(n - 1) * sz))
theorem Ayl {v:AV} (J:h.m.get i=some k) (O:k.flat) (I:k.cs=B) (hl:o+n * sz≤B.length) (hx:x+1≤n) (hc:n≤c) (z:Af ((B.drop (o+(x+1) * sz)).take ((n - (x+1)) * sz))=true) (D:v=.sl i (o+(x+1) * sz) (n - (x+1)) (c - (x+1))∨x+1=n∧v=.sl i o 0 0) :
  ∃ z,append C el sz (.sl i o x c) v h=some (.sl i o (n - 1) c,z)∧z.nx=h.nx∧(∀ j,z.m.get j=if j=i then some (k.w (Sd B o x n sz)) else h.m.get j):=by
 rcases Nat.lt_or_ge (x+1) n with E | E
 ·obtain ⟨m,rfl⟩:∃ m,n=x+1+(m+1):=⟨n - (x+1) - 1,tM⟩;have D:v=.sl i (o+(x+1) * sz) (m+1) (c - (x+1)):=by
   rcases D with rfl | ⟨h5,_⟩
   ·rw [Nat.add_sub_cancel_left]
   ·omega
  subst D;rw [Nat.add_sub_cancel_left] at z;have e1:(x+1+(m+1)) * sz=(x+1) * sz+(m+1) * sz:=Nat.add_mul ..;have U:(x+1+m) * sz=x * sz+(m+1) * sz:=by rw [show x+1+m=x+(m+1) by omega,Nat.add_mul]
  have e3:(x+1) * sz=x * sz+sz:=Nat.succ_mul ..;have e4:((B.drop (o+(x+1) * sz)).take ((m+1) * sz)).length=(m+1) * sz:=by rw [List.length_take,List.length_drop];omega
  have Z:=Mn (o:=o+(x+1) * sz) (n:=(m+1) * sz) J I tM;have Y:=hput (o:=o+x * sz) (us:=(B.drop (o+(x+1) * sz)).take ((m+1) * sz)) J O I (by rw [e4];omega) z;refine ⟨h.at i (k.w (B.take (o+x * sz)++((B.drop (o+(x+1) * sz)).take ((m+1) * sz)++B.drop (o+x * sz+((B.drop (o+(x+1) * sz)).take ((m+1) * sz)).length)))),?_,rfl,?_⟩
  ·unfold append;show (match Bp h sz (m+1) (.sl i (o+(x+1) * sz) (m+1) (c - (x+1))) with | some new=>Ig C el sz x (m+1) (.sl i o x c) h new | none=>none)=_;rw [Gt,Nat.ble_eq_true_of_le (Nat.le_refl _)];simp only [Z];show (match Nat.ble (x+(m+1)) c with | true=>J3 h i o x (m+1) c sz _ | false=>_)=_;rw [Nat.ble_eq_true_of_le tM];simp only [J3,Y];rw [show x+(m+1)=x+1+(m+1) - 1 by omega]
  ·intro j;rw [C6,e4]
   by_cases hj:j=i
   ·rw [if_pos hj,if_pos hj];unfold Sd;rw [Nat.add_sub_cancel_left,show x+1+(m+1) - 1=x+1+m by omega,U,Nat.add_assoc]
   ·rw [if_neg hj,if_neg hj]
 ·have E:n=x+1:=tM;subst E;refine ⟨h,?_,rfl,fun j=>?_⟩
  ·rcases D with rfl | ⟨_,rfl⟩
   ·rw [Nat.sub_self];rfl
   ·rfl
  ·by_cases hj:j=i
   ·rw [if_pos hj,hj,J];unfold Sd;rw [Nat.sub_self,Nat.zero_mul,List.take_zero,List.nil_append,Nat.add_sub_cancel,List.take_append_drop];subst I;cases k <;> first | rfl | exact O.elim
   ·rw [if_neg hj]
end
end
section
theorem Avp {B:List AV} {o i n sz:Nat} {z:List AV} (Z:i+1≤n) (hl:o+n * sz≤B.length) (O:z.length=sz) :
  (Sd B o i n sz).take (o+(n - 1) * sz)++(z++(Sd B o i n sz).drop (o+(n - 1) * sz+z.length))=B.take (o+i * sz)++((B.drop (o+(i+1) * sz)).take ((n - (i+1)) * sz)++(z++B.drop (o+n * sz))):=by
 obtain ⟨m,rfl⟩:∃ m,n=i+1+m:=⟨n - (i+1),tM⟩;unfold Sd;rw [Nat.add_sub_cancel_left,show i+1+m - 1=i+m by omega,O];have E:(i+1+m) * sz=(i+m) * sz+sz:=by rw [show i+1+m=i+m+1 by omega,Nat.succ_mul]
 have U:(i+m) * sz=i * sz+m * sz:=Nat.add_mul ..;have Y:(i+1) * sz=i * sz+sz:=Nat.succ_mul ..;have D:(B.take (o+i * sz)++(B.drop (o+(i+1) * sz)).take (m * sz)).length=o+(i+m) * sz:=by
  rw [List.length_append,List.length_take,List.length_take,List.length_drop];omega
 have I:B.take (o+i * sz)++((B.drop (o+(i+1) * sz)).take (m * sz)++B.drop (o+(i+m) * sz))=(B.take (o+i * sz)++(B.drop (o+(i+1) * sz)).take (m * sz))++B.drop (o+(i+m) * sz):=(List.append_assoc ..).symm;have J:((B.take (o+i * sz)++(B.drop (o+(i+1) * sz)).take (m * sz))++B.drop (o+(i+m) * sz)).drop (o+(i+m) * sz+sz)=B.drop (o+(i+1+m) * sz):=by
  rw [← D,List.drop_length_add_append,D,List.drop_drop,E,Nat.add_assoc]
 rw [I,List.take_left' D,J,List.append_assoc]
theorem Aai {B:List AV} {o i n sz:Nat} (I:i+1≤n) (J:o+n * sz≤B.length):(Sd B o i n sz).length=B.length:=by
 obtain ⟨m,rfl⟩:∃ m,n=i+1+m:=⟨n - (i+1),tM⟩;unfold Sd;rw [Nat.add_sub_cancel_left,show i+1+m - 1=i+m by omega];have z:(i+1+m) * sz=(i+m) * sz+sz:=by rw [show i+1+m=i+m+1 by omega,Nat.succ_mul]
 have D:(i+m) * sz=i * sz+m * sz:=Nat.add_mul ..;have E:(i+1) * sz=i * sz+sz:=Nat.succ_mul ..;rw [List.length_append,List.length_append,List.length_take,List.length_take,List.length_drop,List.length_drop];omega
end
section
attribute [local go_sem] Nj Nh Kd Hz Ng Hy Ni H0 Akm Sy Kc Ke Alp Alo Aln Alm Acp Acq Kg Akk Akl Ane Akn Ako Akf Akg Akh Akp Kf Nz Iq N1 Ky N0 Tz Ty T1 T0 N2 Nl H1 Nk Kk S9 Kj Ald Nn Ki S7 Ta Akq Np Akv Aku Akt Akr Ala Akz Aky Akx Akw Aks S8 r_b Aoq Alc Alb Apt Sj Kv H7 Oa Kw Ajx Lt F8 J2 N4 H8 N3 K1 Ud Kz Aoa N5 e_nil Ue Anq N6 Anu Ant Anr Anz Anx Anw Anv Uc e_b H.eta Je Ai Ac Acg Zt Abz Aby Ib Ha Q4 Tl Amo Amn Ams Amq Amr Ed O6 Apk Apw Tx Ts Tt Acr Z0 Acv Acu Ann Anm Ano T4 T3 Apq Apo App Apr Uq Apn Aof N7 K3 Aoc Aod Aoi S3 Alr Aoh Aog Aol Aop Aom Aoo Aon de Aok Aoj vj Alk All Nf Aki Tf Th Td Uo Un Anb Amz Ana T5 Ale Apm Ag Ami Amg Q2 Amd Qv Bc Qw Ck Ca Bh Cd Bb Az Alg Akj T6 Anl Anj Ank Gt Aed Ang Abn Aeu Apc Apb Aoy Apa Aot Aov Aox Aou Aow Aoz Aos S4 Lh Ug Aoe Abi Ti Apg Apd Amu Apl Sc Amc Sb Alv Aly Alu Alx Amb Alw Alt Ama Alz Abj R0 gd Il envOf O3 Fw En rd1 I6 O1 O4 I4 Nr chr oUn I2 Da Sg Lj elem Tr.get_set bin Y1 Y0 Abg asB Aaf nat? O5 Eo Jc Jd Fb I9 nth Cm tb mgJ Rn E9 O8 K9 Ld I3 Bv O2 I5 Hr Jg wr Fx Fu opt Ji Br Gj Hn G7 Fv Eh Jq Lg Hm zOk Oq Lk Em rep eqL Option.getD
attribute [local go_sem] Nat.mul_one Nat.one_mul Nat.add_eq_left Nat.left_eq_add Nat.le_refl Nat.lt_irrefl Nat.zero_le Nat.not_le not_false_eq_true not_true_eq_false Bool.false_eq_true Bool.not_true Bool.not_false List.length_cons List.length_nil List.nil_append List.cons_append Nat.zero_add Nat.add_zero Nat.add_assoc decide_true decide_false true_and and_true List.getElem?_cons_succ List.getElem?_cons_zero bne_self_eq_false beq_self_eq_true Bool.not_eq_true decide_not exists_eq_left exists_eq_left' Option.some.injEq List.all_cons List.all_nil Bool.and_true Bool.true_and Bool.false_and Bool.and_false Bool.and_self Bool.false_or Bool.or_false Bool.true_or Bool.or_true
attribute [local go_sem] a3x a4x a50x a53x a77x s3x s4x Qi s53x s77x u3x Ux Uw z3x z4x z50x z53x z77x
variable {h:H} {i j q o n c:Nat} {us cs B:List AV} {k:Blk}
theorem Aja (hk:h.m.get q=some k) (J:k.flat) (hB:k.cs=B) (O:o+n * 1≤B.length) (z:i+1≤n) (I:n≤c) (h1:Af ((B.drop (o+(i+1) * 1)).take ((n - (i+1)) * 1))=true) :
  Ans Am 162 [.sl q o n c,iQ wQ i,iQ wQ (i+1:Nat)] h fun v h'=>v=.sl q o (n - 1) c∧h.nx≤h'.nx ∧
   ∀ j,h'.m.get j=if j=q then some (k.w (B.take (o+i * 1)++((B.drop (o+(i+1) * 1)).take ((n - (i+1)) * 1)++([iQ wQ 0]++B.drop (o+n * 1))))) else h.m.get j:=by
 obtain ⟨R,hR⟩:∃ R,R=B.take (o+i * 1)++((B.drop (o+(i+1) * 1)).take ((n - (i+1)) * 1)++([iQ wQ 0]++B.drop (o+n * 1))):=⟨_,rfl⟩;rw [← hR];refine aO Tryz.f162 ?_;simp only [Tryz.f162];have U:((i:Int)=((i+1:Nat):Int))=False:=eq_false tM;have D:und Am 77=some (.slice 3):=Uw;have hs:size Am 3=0+1:=s3x;obtain ⟨v0,e1⟩:∃ v0,Al Am h 77 (.sl q o n c) (some i) (some (i+1)) (some n)=val h (some v0):=⟨_,by rw [osl D hs,Art tM z I]⟩;have e2:∀ m,Al Am (h.up m) 77 (.sl q o n c) none (some i) none=val (h.up m) (some (.sl q o i c)):=fun m=>by rw [osl D hs,Ss tM]
 obtain ⟨v,hv,e3⟩:∃ v,(v=.sl q (o+(i+1) * 1) (n - (i+1)) (c - (i+1))∨i+1=n∧v=.sl q o 0 0)∧∀ m,Al Am (h.up m) 77 (.sl q o n c) (some (i+1)) none none=val (h.up m) (some v):=by
  rcases Nat.lt_or_ge (i+1) c with h4 | h4
  ·exact ⟨_,.inl rfl,fun m=>by rw [osl D hs,F5 z I h4]⟩
  ·exact ⟨_,.inr ⟨tM,rfl⟩,fun m=>by rw [osl D hs,Ho tM tM]⟩
 obtain ⟨E,e4,e5,Y⟩:=Ayl (C:=Am) (el:=3) (sz:=1) (h:=h.up 8) (v:=v) (n:=n) (o:=o) (x:=i) (c:=c) hk J hB O z I h1 hv;have Z:Al Am E 77 (.sl q o (n - 1) c) (some (n - 1)) (some n) none=val E (some (.sl q (o+(n - 1) * 1) 1 (c - (n - 1)))):=by
  rw [osl D hs,Aru tM I tM,show n - (n - 1)=1 by omega]
 have e8:E.put q (o+(n - 1) * 1) [iQ wQ 0]=some (E.at q (k.w R)):=by
  rw [hput (k:=k.w (Sd B o i n 1)) (by rw [Y,if_pos rfl]) (Aqo J) (w_cs J) (by rw [Aai z O];show o+(n - 1) * 1+1≤_;omega) rfl,Avp z O rfl,w_w,hR]
 simp only [Nat.mul_one] at Z e8;simp only [seval,go_sem,e1,U,e2,e3,e4,e5,Rw,Em,clrR,Z,e8,Eb];refine ⟨Nat.le_add_right ..,fun j=>?_⟩;rw [C6,Y]
 by_cases hj:j=q
 ·rw [if_pos hj,if_pos hj]
 ·rw [if_neg hj,if_neg hj,if_neg hj];rfl
theorem Aiz (hk:h.m.get q=some k) (J:k.flat) (hB:k.cs=B) (O:o+n * 2≤B.length) (z:i+1≤n) (I:n≤c) (h1:Af ((B.drop (o+(i+1) * 2)).take ((n - (i+1)) * 2))=true) :
  Ans Am 183 [.sl q o n c,iQ wQ i,iQ wQ (i+1:Nat)] h fun v h'=>v=.sl q o (n - 1) c∧h.nx≤h'.nx ∧
   ∀ j,h'.m.get j=if j=q then some (k.w (B.take (o+i * 2)++((B.drop (o+(i+1) * 2)).take ((n - (i+1)) * 2)++([iQ uQ 0,iQ uQ 0]++B.drop (o+n * 2))))) else h.m.get j:=by
 obtain ⟨R,hR⟩:∃ R,R=B.take (o+i * 2)++((B.drop (o+(i+1) * 2)).take ((n - (i+1)) * 2)++([iQ uQ 0,iQ uQ 0]++B.drop (o+n * 2))):=⟨_,rfl⟩;rw [← hR];refine aO Tryz.f183 ?_;simp only [Tryz.f183];have U:((i:Int)=((i+1:Nat):Int))=False:=eq_false tM;have D:und Am 53=some (.slice 50):=Ux;have hs:size Am 50=1+1:=Qi;obtain ⟨v0,e1⟩:∃ v0,Al Am h 53 (.sl q o n c) (some i) (some (i+1)) (some n)=val h (some v0):=⟨_,by rw [osl D hs,Art tM z I]⟩;have e2:∀ m,Al Am (h.up m) 53 (.sl q o n c) none (some i) none=val (h.up m) (some (.sl q o i c)):=fun m=>by rw [osl D hs,Ss tM]
 obtain ⟨v,hv,e3⟩:∃ v,(v=.sl q (o+(i+1) * 2) (n - (i+1)) (c - (i+1))∨i+1=n∧v=.sl q o 0 0)∧∀ m,Al Am (h.up m) 53 (.sl q o n c) (some (i+1)) none none=val (h.up m) (some v):=by
  rcases Nat.lt_or_ge (i+1) c with Z | Z
  ·exact ⟨_,.inl rfl,fun m=>by rw [osl D hs,F5 z I Z]⟩
  ·exact ⟨_,.inr ⟨tM,rfl⟩,fun m=>by rw [osl D hs,Ho tM tM]⟩
 obtain ⟨E,e4,e5,Y⟩:=Ayl (C:=Am) (el:=50) (sz:=2) (h:=h.up 8) (v:=v) (n:=n) (o:=o) (x:=i) (c:=c) hk J hB O z I h1 hv;have e7:Al Am E 53 (.sl q o (n - 1) c) (some (n - 1)) (some n) none=val E (some (.sl q (o+(n - 1) * 2) 1 (c - (n - 1)))):=by
  rw [osl D hs,Aru tM I tM,show n - (n - 1)=1 by omega]
 have e8:E.put q (o+(n - 1) * 2) [iQ uQ 0,iQ uQ 0]=some (E.at q (k.w R)):=by
  rw [hput (k:=k.w (Sd B o i n 2)) (by rw [Y,if_pos rfl]) (Aqo J) (w_cs J) (by rw [Aai z O];show o+(n - 1) * 2+2≤_;omega) rfl,Avp z O rfl,w_w,hR]
 skip
 simp only [seval,go_sem,e1,U,e2,e3,e4,e5,Rw,Em,clrR,e7,e8,Eb];refine ⟨Nat.le_add_right ..,fun j=>?_⟩;rw [C6,Y]
 by_cases hj:j=q
 ·rw [if_pos hj,if_pos hj]
 ·rw [if_neg hj,if_neg hj,if_neg hj];rfl
end
section
variable {C:Ctx} {h:H} {i i2 o2 j q o n c t el sz l m x y:Nat} {us cs B:List AV} {k:Blk}
theorem osr {lo z:Option Nat} {d:Nat} (D:und C t=some (.slice el)) (hs:size C el=sz+1):Al C h t (.sr i o d n) lo z none=val h (Gj i o d n (lo.getD 0) (z.getD n) (sz+1)):=by
 unfold Al;rw [D];simp only [hs];rfl
theorem osn {x:Nat} (z:und C t=some (.slice el)) (hs:size C el=sz+1):Al C h t (():AV) (some 0) none none=val h (some (():AV)):=by
 unfold Al;rw [z];simp only [hs];rfl
theorem sr_lo {d:Nat} (z:l+1≤n):Gj i o d n l n sz=some (.sr i (o+l * sz) (d+l) (n - l)):=by
 unfold Gj;rw [Nat.ble_eq_true_of_le (show l≤n by omega),Nat.ble_eq_true_of_le (Nat.le_refl n),Nat.ble_eq_true_of_le z];rfl
theorem Vr {d:Nat} (D:und C t=some (.slice el)) (hs:size C el=sz+1) (z:l+1≤n):Al C h t (.sr i o d n) (some l) none none=val h (some (.sr i (o+l * (sz+1)) (d+l) (n - l))):=by
 rw [osr D hs];exact congrArg _ (sr_lo z)
theorem Jy {d s:AV} (J:h.m.get q=some k) (I:k.flat) (E:k.cs=B) (O:o+x * sz≤B.length) (hd:∀ h cs,Afv h cs d=h.put q o cs) (ld:Db d=some n) (ls:Db s=some m) (Z:min m n=x) (U:Bp h sz x s=some cs) (z:cs.length=x * sz) (D:Af cs=true) (Y:und C t=some (.slice el)) (hs:size C el=sz) (hz:nz sz=true) :
  Lk C h t d s=some (some (iQ wQ x),h.at q (k.w (B.take o++(cs++B.drop (o+x * sz))))):=by
 unfold Lk elem;rw [Y,ld,ls];simp only [hs,hz,Z,U];rw [hd,hput J I E (by rw [z];exact O) D,z];rfl
end
def Nw (B:List AV) (i n sz:Nat) (new:List AV):List AV:=B.take (i * sz)++(new++((B.drop (i * sz)).take ((n - i) * sz)++B.drop ((n+1) * sz)))
theorem Awi {B new:List AV} {i n sz:Nat} (J:i≤n) (O:(n+1) * sz≤B.length) (U:new.length=sz) :
  (B.take ((i+1) * sz)++((B.drop (i * sz)).take ((n - i) * sz)++B.drop ((i+1) * sz+(n - i) * sz))).take (i * sz)++(new++(B.take ((i+1) * sz)++((B.drop (i * sz)).take ((n - i) * sz)++B.drop ((i+1) * sz+(n - i) * sz))).drop (i * sz+1 * sz))=Nw B i n sz new:=by
 obtain ⟨m,rfl⟩:∃ m,n=i+m:=⟨n - i,tM⟩;unfold Nw;rw [Nat.add_sub_cancel_left];have z:(i+m+1) * sz=(i+1) * sz+m * sz:=by rw [show i+m+1=i+1+m by omega,Nat.add_mul]
 have D:(i+1) * sz=i * sz+sz:=Nat.succ_mul ..;have I:(B.take ((i+1) * sz)).length=(i+1) * sz:=by rw [List.length_take];omega
 have e4:(B.take ((i+1) * sz)++((B.drop (i * sz)).take (m * sz)++B.drop ((i+1) * sz+m * sz))).take (i * sz)=B.take (i * sz):=by
  rw [List.take_append_of_le_length tM,List.take_take,Nat.min_eq_left tM]
 have E:(B.take ((i+1) * sz)++((B.drop (i * sz)).take (m * sz)++B.drop ((i+1) * sz+m * sz))).drop (i * sz+1 * sz)=(B.drop (i * sz)).take (m * sz)++B.drop ((i+1) * sz+m * sz):=by
  rw [Nat.one_mul,← D,List.drop_left' I]
 rw [e4,E,z]
theorem Awh {B new Z:List AV} {i n sz:Nat} (hi:i < n) (hl:B.length=n * sz) (hz:new.length=sz) (J:Z.length=(n - i+1) * sz) :
  ((B.take (i * sz)++Z).take (i * sz)++(new++(B.take (i * sz)++Z).drop (i * sz+1 * sz))).take ((i+1) * sz)++((B.drop (i * sz)).take ((n - i) * sz)++((B.take (i * sz)++Z).take (i * sz)++(new++(B.take (i * sz)++Z).drop (i * sz+1 * sz))).drop ((i+1) * sz+(n - i) * sz))=Gz i sz B new:=by
 obtain ⟨m,rfl⟩:∃ m,n=i+m:=⟨n - i,tM⟩;unfold Gz;rw [Nat.add_sub_cancel_left] at J ⊢;have O:(i+m) * sz=i * sz+m * sz:=by rw [Nat.add_mul]
 have U:(i+1) * sz=i * sz+sz:=Nat.succ_mul ..;have Y:(m+1) * sz=m * sz+sz:=Nat.succ_mul ..;have z:(B.take (i * sz)).length=i * sz:=by rw [List.length_take];omega
 rw [List.take_left' z,← List.append_assoc (B.take (i * sz)) new];have D:(B.take (i * sz)++new).length=(i+1) * sz:=by rw [List.length_append];omega
 rw [List.take_left' D];have E:∀ X:List AV,X.length=m * sz→(B.take (i * sz)++new++X).drop ((i+1) * sz+m * sz)=[]:=fun X I=>List.drop_of_length_le (by rw [List.length_append,D,I];exact Nat.le_refl _);rw [E _ (by rw [List.length_drop,List.length_append,z];omega),List.append_nil,List.take_of_length_le (l:=B.drop (i * sz)) (by rw [List.length_drop];omega),List.append_assoc]
theorem Tv {B new:List AV} {i n sz:Nat} (J:i≤n) (O:(n+1) * sz≤B.length) (U:new.length=sz):(Nw B i n sz new).take ((n+1) * sz)=Gz i sz (B.take (n * sz)) new:=by
 obtain ⟨m,rfl⟩:∃ m,n=i+m:=⟨n - i,tM⟩;unfold Nw Gz;rw [Nat.add_sub_cancel_left];have z:(i+m) * sz=i * sz+m * sz:=by rw [Nat.add_mul]
 have I:(i+m+1) * sz=(i+m) * sz+sz:=Nat.succ_mul ..;have E:(B.take (i * sz)++(new++(B.drop (i * sz)).take (m * sz))).length=(i+m+1) * sz:=by
  rw [List.length_append,List.length_append,List.length_take,List.length_take,List.length_drop];omega
 have D:B.take (i * sz)++(new++((B.drop (i * sz)).take (m * sz)++B.drop ((i+m+1) * sz)))=(B.take (i * sz)++(new++(B.drop (i * sz)).take (m * sz)))++B.drop ((i+m+1) * sz):=by simp only [List.append_assoc]
 rw [D,List.take_left' E,List.take_take,Nat.min_eq_left tM,List.drop_take,z,Nat.add_sub_cancel_left]
theorem Aap {B new:List AV} {i n sz:Nat} (E:i≤n) (I:(n+1) * sz≤B.length) (J:new.length=sz):(Nw B i n sz new).length=B.length:=by
 obtain ⟨m,rfl⟩:∃ m,n=i+m:=⟨n - i,tM⟩;unfold Nw;rw [Nat.add_sub_cancel_left];have z:(i+m) * sz=i * sz+m * sz:=by rw [Nat.add_mul]
 have D:(i+m+1) * sz=(i+m) * sz+sz:=Nat.succ_mul ..;rw [List.length_append,List.length_append,List.length_append,List.length_take,List.length_take,List.length_drop,List.length_drop];omega
theorem Aaq {B new:List AV} {n sz:Nat}:Nw B n n sz new=B.take (n * sz)++(new++B.drop ((n+1) * sz)):=by
 unfold Nw;rw [Nat.sub_self,Nat.zero_mul,List.take_zero,List.nil_append]
theorem Aao {B new:List AV} {n sz:Nat} (z:B.length=n * sz):Gz n sz B new=B++new:=by
 unfold Gz;rw [List.take_of_length_le tM,List.drop_of_length_le tM,List.append_nil]
section
attribute [local go_sem] Nj Nh Kd Hz Ng Hy Ni H0 Akm Sy Kc Ke Alp Alo Aln Alm Acp Acq Kg Akk Akl Ane Akn Ako Akf Akg Akh Akp Kf Nz Iq N1 Ky N0 Tz Ty T1 T0 N2 Nl H1 Nk Kk S9 Kj Ald Nn Ki S7 Ta Akq Np Akv Aku Akt Akr Ala Akz Aky Akx Akw Aks S8 r_b Aoq Alc Alb Apt Sj Kv H7 Oa Kw Ajx Lt F8 J2 N4 H8 N3 K1 Ud Kz Aoa N5 e_nil Ue Anq N6 Anu Ant Anr Anz Anx Anw Anv Uc e_b H.eta Je Ai Ac Acg Zt Abz Aby Ib Ha Q4 Tl Amo Amn Ams Amq Amr Ed O6 Apk Apw Tx Ts Tt Acr Z0 Acv Acu Ann Anm Ano T4 T3 Apq Apo App Apr Uq Apn Aof N7 K3 Aoc Aod Aoi S3 Alr Aoh Aog Aol Aop Aom Aoo Aon de Aok Aoj vj Alk All Nf Aki Tf Th Td Uo Un Anb Amz Ana T5 Ale Apm Ag Ami Amg Q2 Amd Qv Bc Qw Ck Ca Bh Cd Bb Az Alg Akj T6 Anl Anj Ank Gt Aed Ang Abn Aeu Apc Apb Aoy Apa Aot Aov Aox Aou Aow Aoz Aos S4 Lh Ug Aoe Abi Ti Apg Apd Amu Apl Sc Amc Sb Alv Aly Alu Alx Amb Alw Alt Ama Alz Abj R0 gd Il envOf O3 Fw En rd1 I6 O1 O4 I4 Nr chr oUn I2 Da Sg Lj elem Tr.get_set bin Y1 Y0 Abg asB Aaf nat? O5 Eo Jc Jd Fb I9 nth Cm tb mgJ Rn E9 O8 K9 Ld I3 Bv O2 I5 Hr Jg wr Fx Fu opt Ji Br Hn G7 Fv Eh Jq Lg Hm zOk Oq Em rep eqL Option.getD
attribute [local go_sem] Nat.mul_one Nat.one_mul Nat.add_eq_left Nat.left_eq_add Nat.le_refl Nat.lt_irrefl Nat.zero_le Nat.not_le not_false_eq_true not_true_eq_false Bool.false_eq_true Bool.not_true Bool.not_false List.length_cons List.length_nil List.nil_append List.cons_append Nat.zero_add Nat.add_zero Nat.add_assoc decide_true decide_false true_and and_true List.getElem?_cons_succ List.getElem?_cons_zero bne_self_eq_false beq_self_eq_true Bool.not_eq_true decide_not exists_eq_left exists_eq_left' Option.some.injEq List.all_cons List.all_nil Bool.and_true Bool.true_and Bool.false_and Bool.and_false Bool.and_self Bool.false_or Bool.or_false Bool.true_or Bool.or_true
attribute [local go_sem] a3x a4x a50x a53x a77x s3x s4x Qi s53x s77x u3x Ux Uw z3x z4x z50x z53x z77x
variable {h:H} {i j q o n c t u:Nat} {us cs B new J:List AV} {k:Blk}
theorem by3x:bytes Am 3=8:=kR
theorem Ajf:bytes Am 50=8:=kR
def InP (h:H) (q n c el sz i:Nat) (B:List AV) (t:Nat) (new:List AV) (v:AV) (h':H):Prop :=
 v=.sl q 0 (n+1) c∧h.nx≤h'.nx∧∀ j,h'.m.get j=if j=q then some (cQ (Nw B i n sz new) t) else h.m.get j
def InG (h:H) (n el sz i:Nat) (B new:List AV) (v:AV) (h':H):Prop :=
 v=.sr h.nx 0 0 (n+1)∧h.nx+1≤h'.nx∧∀ j,h'.m.get j=if j=h.nx then some (oQ (Gz i sz B new) (n+1) el sz) else h.m.get j
theorem ov131 (D:h.m.get j=some k) (E:k.flat) (J:h.m.get q=some (cQ B t)) (z:B≠[]) (I:j≠q) {a b d e f g:Nat}:FW Am 131 [.sl j a b d,.sl q e f g] h=some (bQ false,h):=Fa (by
 show some (xOv _ h)=_;unfold xOv;have:Nat.beq j q=false:=by rw [J2];exact decide_eq_false I
 simp only [D,J,this];cases B with
 | nil=>exact absurd rfl z
 | cons=>cases k <;> first | rfl | exact E.elim)
theorem ov199 (D:h.m.get j=some k) (E:k.flat) (J:h.m.get q=some (cQ B t)) (z:B≠[]) (I:j≠q) {a b d e f g:Nat}:FW Am 199 [.sl j a b d,.sl q e f g] h=some (bQ false,h):=Fa (by
 show some (xOv _ h)=_;unfold xOv;have:Nat.beq j q=false:=by rw [J2];exact decide_eq_false I
 simp only [D,J,this];cases B with
 | nil=>exact absurd rfl z
 | cons=>cases k <;> first | rfl | exact E.elim)
theorem Bo {x y:List AV} (h:Af x=true) (h':Af y=true):Af (x++y)=true:=by
 induction x with
 | nil=>exact h'
 | cons u x ih =>
  simp only [List.cons_append,Af,Bool.and_eq_true] at h ⊢;exact ⟨h.1,ih h.2⟩
theorem Ei {b:Blk}:(h.new b).m.get j=if j=h.nx then some b else h.m.get j:=by
 show (h.m.set h.nx b).get j=_;rw [Tr.get_set]
theorem insE160 (Y:h.m.get q=some (cQ B t)) (hl:B.length=c * 1) (hc:n≤c) (hn:n≤10000000) (Z:h.read j 0 1=some new) (O:Af new=true) (h2:Af (B.take (n * 1))=true) :
  Ans Am 160 [.sl q 0 n c,iQ wQ n,.sl j 0 1 1] h fun v h'=>(n+1≤c∧InP h q n c 3 1 n B t new v h')∨(n=c∧InG h n 3 1 n B new v h'):=by
 obtain ⟨i,hi⟩:∃ i,i=n:=⟨n,rfl⟩;have I:new.length=1:=Dy Z;refine aO Tryz.f160 ?_;simp only [Tryz.f160];have hu:und Am 77=some (.slice 3):=Uw;have hs:size Am 3=0+1:=s3x;obtain ⟨v0,J⟩:∃ v0,Al Am h 77 (.sl q 0 n c) (some n) none none=val h (some v0):=by
  rcases Nat.lt_or_ge n c with z | z
  ·exact ⟨_,by rw [osl hu hs,F5 tM hc z]⟩
  ·exact ⟨_,by rw [osl hu hs,Ho tM tM]⟩
 have D:Bp h 1 1 (.sl j 0 1 1)=some new:=by rw [Gt];exact Z
 rcases Nat.lt_or_ge n c with z | z
 ·have E:append Am 3 1 (.sl q 0 n c) (.sl j 0 1 1) h=some (.sl q 0 (n+1) c,h.at q (cQ (Nw B n n 1 new) t)):=by
   unfold append;show (match Bp h 1 1 (.sl j 0 1 1) with | some new=>Ig Am 3 1 n 1 (.sl q 0 n c) h new | none=>none)=_;rw [D];show (match Nat.ble (n+1) c with | true=>J3 h q 0 n 1 c 1 new | false=>_)=_;rw [Nat.ble_eq_true_of_le z];simp only [J3];rw [hput (B:=B) Y trivial rfl tM O,Aaq,I,Nat.zero_add,Nat.succ_mul];rfl
  simp only [seval,go_sem,J,E];exact Or.inl ⟨z,rfl,Nat.le_refl _,fun j=>C6⟩
 ·have h5:n=c:=tM;subst h5;have U:B.take (n * 1)=B:=List.take_of_length_le tM;have E:append Am 3 1 (.sl q 0 n n) (.sl j 0 1 1) h=some (.sr h.nx 0 0 (n+1),h.new (oQ (Gz n 1 B new) (n+1) 3 1)):=by
   unfold append;show (match Bp h 1 1 (.sl j 0 1 1) with | some new=>Ig Am 3 1 n 1 (.sl q 0 n n) h new | none=>none)=_;rw [D];show (match Nat.ble (n+1) n with | true=>_ | false=>match h.read q 0 (n * 1) with | some old=>De Am h (old++new) (n+1) 3 1 | none=>none)=_;rw [show Nat.ble (n+1) n=false from by rw [← Bool.not_eq_true,Nat.ble_eq];omega,Mn (B:=B) Y rfl tM,List.drop_zero,U];show De Am h (B++new) (n+1) 3 1=_;unfold De F7;rw [by3x,Nat.ble_eq_true_of_le tM,Nat.ble_eq_true_of_le tM,Bo (U ▸ h2) O,Aao hl];rfl
  simp only [seval,go_sem,J,E];exact Or.inr ⟨rfl,Nat.le_refl _,fun j=>Ei⟩
theorem insN160 (J:h.read j 0 1=some new) (I:Af new=true) :
  Ans Am 160 [(():AV),iQ wQ 0,.sl j 0 1 1] h fun v h'=>v=.sr h.nx 0 0 1∧h.nx+1≤h'.nx∧∀ j,h'.m.get j=if j=h.nx then some (oQ new 1 3 1) else h.m.get j:=by
 refine aO Tryz.f160 ?_;simp only [Tryz.f160];have O:und Am 77=some (.slice 3):=Uw;have hs:size Am 3=0+1:=s3x;have z:Bp h 1 1 (.sl j 0 1 1)=some new:=by rw [Gt];exact J
 have D:Al Am h 77 (():AV) (some 0) none none=val h (some (():AV)):=by exact osn (x:=0) O hs
 have E:append Am 3 1 (():AV) (.sl j 0 1 1) h=some (.sr h.nx 0 0 1,h.new (oQ new 1 3 1)):=by
  unfold append;show (match Bp h 1 1 (.sl j 0 1 1) with | some new=>Ig Am 3 1 0 1 (():AV) h new | none=>none)=_;rw [z]
  skip
  skip
  show De Am h new 1 3 1=_;unfold De F7;rw [by3x,I];rfl
 simp only [seval,go_sem,D,E];exact fun j=>Ei
theorem insZ160 (D:h.read q 0 0=some []) (O:h.read j 0 1=some new) (J:Af new=true) :
  Ans Am 160 [.sl q 0 0 0,iQ wQ 0,.sl j 0 1 1] h fun v h'=>v=.sr h.nx 0 0 1∧h.nx+1≤h'.nx∧∀ j,h'.m.get j=if j=h.nx then some (oQ new 1 3 1) else h.m.get j:=by
 refine aO Tryz.f160 ?_;simp only [Tryz.f160];have U:und Am 77=some (.slice 3):=Uw;have hs:size Am 3=0+1:=s3x;have z:Bp h 1 1 (.sl j 0 1 1)=some new:=by rw [Gt];exact O
 have E:Al Am h 77 (.sl q 0 0 0) (some 0) none none=val h (some (.sl q 0 0 0)):=by rw [osl U hs,Ho rfl rfl]
 have I:append Am 3 1 (.sl q 0 0 0) (.sl j 0 1 1) h=some (.sr h.nx 0 0 1,h.new (oQ new 1 3 1)):=by
  unfold append;show (match Bp h 1 1 (.sl j 0 1 1) with | some new=>Ig Am 3 1 0 1 (.sl q 0 0 0) h new | none=>none)=_;rw [z];show (match h.read q 0 (0 * 1) with | some old=>De Am h (old++new) 1 3 1 | none=>none)=_;rw [Nat.zero_mul,D];show De Am h new 1 3 1=_;unfold De F7;rw [by3x,J];rfl
 simp only [seval,go_sem,E,I];exact fun j=>Ei
theorem insI160 (hq:h.m.get q=some (cQ B t)) (hJ:h.m.get j=some k) (aa:k.flat) (J:j≠q) (hl:B.length=c * 1) (hi:i < n) (O:n+1≤c) (hn:n≤10000000) (hr:h.read j 0 1=some new) (h1:Af new=true) (h2:Af (B.take (n * 1))=true) :
  Ans Am 160 [.sl q 0 n c,iQ wQ i,.sl j 0 1 1] h (InP h q n c 3 1 i B t new):=by
 have af:new.length=1:=Dy hr;have ag:=wI n;have ah:=wI i;have ae:((i:Int)=(n:Int))=False:=eq_false tM;refine aO Tryz.f160 ?_;simp only [Tryz.f160];have E:und Am 77=some (.slice 3):=Uw;have hs:size Am 3=0+1:=s3x;obtain ⟨v0,e1⟩:∃ v0,Al Am h 77 (.sl q 0 n c) (some i) none none=val h (some v0):=by
  rcases Nat.lt_or_ge i c with z | z
  ·exact ⟨_,by rw [osl E hs,F5 tM tM z]⟩
  ·exact ⟨_,by rw [osl E hs,Ho tM tM]⟩
 have ac:((c:Int) < ((n+1:Nat):Int))=False:=eq_false tM;have e2:Al Am h 77 (.sl q 0 n c) none (some (n+1)) none=val h (some (.sl q 0 (n+1) c)):=by rw [osl E hs,Ss O]
 have U:∀ m,Al Am (h.up m) 77 (.sl q 0 (n+1) c) (some (i+1)) none none=val (h.up m) (some (.sl q (0+(i+1) * 1) (n - i) (c - (i+1)))):=fun m=>by rw [osl E hs,F5 tM O tM,Nat.add_sub_add_right]
 have I:Al Am h 77 (.sl q 0 (n+1) c) (some (i+1)) none none=val h (some (.sl q (0+(i+1) * 1) (n - i) (c - (i+1)))):=U 0;have e4:=ov199 (h:=h) hJ aa hq (fun e=>by rw [e] at hl;simp at hl;omega) J (a:=0) (b:=1) (d:=1) (e:=0+(i+1) * 1) (f:=n - i) (g:=c - (i+1));have e5:∀ m,Al Am (h.up m) 77 (.sl q 0 (n+1) c) (some i) none none=val (h.up m) (some (.sl q (0+i * 1) (n+1 - i) (c - i))):=fun m=>by rw [osl E hs,F5 tM O tM]
 have hM:((B.drop (i * 1)).take ((n - i) * 1)).length=(n - i) * 1:=by rw [List.length_take,List.length_drop];omega
 have ab:Af ((B.drop (i * 1)).take ((n - i) * 1))=true:=by
  have:=Bn h2 (i * 1) ((n - i) * 1);rw [List.drop_take,List.take_take,Nat.min_eq_left tM] at this;exact this
 have Y:=Jy (C:=Am) (t:=77) (h:=h.up 9) (d:=.sl q (0+(i+1) * 1) (n - i) (c - (i+1))) (s:=.sl q (0+i * 1) (n+1 - i) (c - i)) (x:=n - i) (B:=B) hq trivial rfl (show 0+(i+1) * 1+(n - i) * 1≤B.length by omega) (fun _ _=>rfl) rfl rfl tM (cs:=(B.drop (i * 1)).take ((n - i) * 1)) (by
  rw [Gt,Nat.ble_eq_true_of_le tM];show h.read q (0+i * 1) ((n - i) * 1)=_;rw [Mn (B:=B) hq rfl tM,Nat.zero_add]) hM ab E hs rfl
 obtain ⟨z,D⟩:∃ z,z=(h.up 9).at q (Blk.w (cQ B t) (B.take (0+(i+1) * 1)++((B.drop (i * 1)).take ((n - i) * 1)++B.drop (0+(i+1) * 1+(n - i) * 1)))):=⟨_,rfl⟩;rw [← D] at Y;have g4:z.m.get q=some (cQ (B.take ((i+1) * 1)++((B.drop (i * 1)).take ((n - i) * 1)++B.drop ((i+1) * 1+(n - i) * 1))) t):=by
  rw [D,C6,if_pos rfl,Nat.zero_add];rfl
 have n4:z.nx=h.nx+9:=by rw [D];rfl
 have l4:(B.take ((i+1) * 1)++((B.drop (i * 1)).take ((n - i) * 1)++B.drop ((i+1) * 1+(n - i) * 1))).length=B.length:=by
  rw [List.length_append,List.length_append,hM,List.length_take,List.length_drop];omega
 have r4:z.read j 0 1=some new:=by
  rw [D,Ck J];exact hr
 have e7:Al Am z 77 (.sl q 0 (n+1) c) (some i) none none=val z (some (.sl q (0+i * 1) (n+1 - i) (c - i))):=by rw [osl E hs,F5 tM O tM]
 have Z:=Jy (C:=Am) (t:=77) (h:=z) (d:=.sl q (0+i * 1) (n+1 - i) (c - i)) (s:=.sl j 0 1 1) (x:=1) (B:=B.take ((i+1) * 1)++((B.drop (i * 1)).take ((n - i) * 1)++B.drop ((i+1) * 1+(n - i) * 1))) g4 trivial rfl (show 0+i * 1+1 * 1≤_ by rw [l4];omega) (fun _ _=>rfl) rfl rfl tM (cs:=new) (by rw [Gt];exact r4) tM h1 E hs rfl;rw [Nat.zero_add,Awi tM tM af] at Z;simp only [Nat.zero_add,Nat.mul_one] at U I e4 e5 Y e7 Z;simp only [seval,go_sem,e1,e2,U,I,e4,e5,ag,ah,ae,ac,Y,e7,Z,Eb];refine ⟨rfl,by show h.nx≤z.nx;omega,fun x=>?_⟩;rw [C6,D,C6]
 by_cases hx:x=q
 ·rw [if_pos hx,if_pos hx];rfl
 ·rw [if_neg hx,if_neg hx,if_neg hx];rfl
theorem insG160 (hq:h.m.get q=some (cQ B t)) (ai:q < h.nx) (ah:j < h.nx) (hl:B.length=n * 1) (hi:i < n) (hn:n≤10000000) (hr:h.read j 0 1=some new) (h1:Af new=true) (h2:Af B=true) :
  Ans Am 160 [.sl q 0 n n,iQ wQ i,.sl j 0 1 1] h (InG h n 3 1 i B new):=by
 have aa:new.length=1:=Dy hr;have ae:=wI n;have af:=wI i;have ac:((i:Int)=(n:Int))=False:=eq_false tM;refine aO Tryz.f160 ?_;simp only [Tryz.f160];have O:und Am 77=some (.slice 3):=Uw;have hs:size Am 3=0+1:=s3x;obtain ⟨v0,e1⟩:∃ v0,Al Am h 77 (.sl q 0 n n) (some i) none none=val h (some v0):=by
  rcases Nat.lt_or_ge i n with h4 | h4
  ·exact ⟨_,by rw [osl O hs,F5 tM (Nat.le_refl _) h4]⟩
  ·exact ⟨_,by rw [osl O hs,Ho tM tM]⟩
 have ab:((n:Int) < ((n+1:Nat):Int))=True:=eq_true tM;have ag:IntKind.i64.wrap (((n+1:Nat):Int) - (i:Int))=((n - i+1:Nat):Int):=by rw [show ((n+1:Nat):Int) - (i:Int)=((n - i+1:Nat):Int) by omega];exact Bz tM
 have e2:Al Am h 77 (.sl q 0 n n) none (some i) none=val h (some (.sl q 0 i n)):=by rw [osl O hs,Ss tM]
 have U:∀ m,(rep ([iQ wQ 0]:List AV) m).length=m * 1∧Af (rep ([iQ wQ 0]:List AV) m)=true:=fun m=>by
  induction m with
  | zero=>exact ⟨by simp [rep],rfl⟩
  | succ m ih =>
   refine ⟨?_,Bo rfl ih.2⟩;show (([iQ wQ 0]:List AV)++rep [iQ wQ 0] m).length=_;rw [List.length_append,ih.1,Nat.succ_mul,Nat.add_comm];rfl
 obtain ⟨Z,hZ⟩:∃ Z,Z=rep ([iQ wQ 0]:List AV) (n - i+1):=⟨_,rfl⟩;have lZ:Z.length=(n - i+1) * 1:=by rw [hZ];exact (U _).1
 have oZ:Af Z=true:=by rw [hZ];exact (U _).2
 obtain ⟨J,E⟩:∃ J,J=h.new (oQ (B.take (i * 1)++Z) (n+1) 3 1):=⟨_,rfl⟩;have lA:(B.take (i * 1)++Z).length=(n+1) * 1:=by rw [List.length_append,lZ,List.length_take];omega
 have e3:Rx Am h 3 3 (.sl q 0 i n) (iQ wQ ((n - i+1:Nat):Int))=some (some (.sr h.nx 0 0 (n+1)),J):=by
  unfold Rx;rw [u3x];show Alq (Apv Am h 3 q 0 i n (n - i+1))=_;unfold Apv;have hz:Em Am 3 (n - i+1)=some Z:=by unfold Em;rw [z3x,s3x,hZ];rfl
  rw [hz,show Nat.ble (i+(n - i+1)) n=false from by rw [← Bool.not_eq_true,Nat.ble_eq];omega,s3x,Mn (B:=B) hq rfl tM,List.drop_zero];show Alq (De Am h (B.take (i * 1)++Z) (i+(n - i+1)) 3 1)=_;rw [show i+(n - i+1)=n+1 by omega];have ho:Af (B.take (i * 1)++Z)=true:=Bo (Bn h2 0 _) oZ;unfold De F7;rw [by3x,Nat.ble_eq_true_of_le tM,Nat.ble_eq_true_of_le tM,ho,E];rfl
 have gA:J.m.get h.nx=some (oQ (B.take (i * 1)++Z) (n+1) 3 1):=by rw [E,Ei,if_pos rfl]
 have rA:J.read j 0 1=some new:=by rw [E,Bc tM];exact hr
 have e4:Al Am J 77 (.sr h.nx 0 0 (n+1)) (some i) none none=val J (some (.sr h.nx (0+i * 1) (0+i) (n+1 - i))):=Vr O hs tM;have e5:=Jy (C:=Am) (t:=77) (h:=J) (d:=.sr h.nx (0+i * 1) (0+i) (n+1 - i)) (s:=.sl j 0 1 1) (x:=1) (B:=B.take (i * 1)++Z) gA trivial rfl (show 0+i * 1+1 * 1≤_ by rw [lA];omega) (fun _ _=>rfl) rfl rfl tM (cs:=new) (by rw [Gt];exact rA) tM h1 O hs rfl;obtain ⟨D,hD⟩:∃ D,D=(B.take (i * 1)++Z).take (i * 1)++(new++(B.take (i * 1)++Z).drop (i * 1+1 * 1)):=⟨_,rfl⟩;rw [Nat.zero_add,← hD] at e5;have lD:D.length=(n+1) * 1:=by
  rw [hD,List.length_append,List.length_append,List.length_take,List.length_drop,lA,aa];omega
 obtain ⟨z,I⟩:∃ z,z=J.at h.nx (Blk.w (oQ (B.take (i * 1)++Z) (n+1) 3 1) D):=⟨_,rfl⟩;rw [← I] at e5;have gE:z.m.get h.nx=some (oQ D (n+1) 3 1):=by rw [I,C6,if_pos rfl];rfl
 have nE:z.nx=h.nx+1:=by rw [I,E];rfl
 have qE:z.m.get q=some (cQ B t):=by rw [I,C6,if_neg tM,E,Ei,if_neg tM];exact hq
 have e6:∀ m,Al Am (z.up m) 77 (.sr h.nx 0 0 (n+1)) (some (i+1)) none none=val (z.up m) (some (.sr h.nx (0+(i+1) * 1) (0+(i+1)) (n - i))):=fun m=>by rw [Vr O hs tM,Nat.add_sub_add_right]
 have e7:∀ m,Al Am (z.up m) 77 (.sl q 0 n n) (some i) none none=val (z.up m) (some (.sl q (0+i * 1) (n - i) (n - i))):=fun m=>by rw [osl O hs,F5 tM (Nat.le_refl _) tM]
 have hM:((B.drop (i * 1)).take ((n - i) * 1)).length=(n - i) * 1:=by rw [List.length_take,List.length_drop];omega
 have e8:=Jy (C:=Am) (t:=77) (h:=z.up 9) (d:=.sr h.nx (0+(i+1) * 1) (0+(i+1)) (n - i)) (s:=.sl q (0+i * 1) (n - i) (n - i)) (x:=n - i) (B:=D) gE trivial rfl (show 0+(i+1) * 1+(n - i) * 1≤_ by rw [lD];omega) (fun _ _=>rfl) rfl rfl tM (cs:=(B.drop (i * 1)).take ((n - i) * 1)) (by
  rw [Gt,Nat.ble_eq_true_of_le tM];show z.read q (0+i * 1) ((n - i) * 1)=_;rw [Mn (B:=B) qE rfl tM,Nat.zero_add]) hM (Bn h2 _ _) O hs rfl
 have Y:D.take ((i+1) * 1)++((B.drop (i * 1)).take ((n - i) * 1)++D.drop ((i+1) * 1+(n - i) * 1))=Gz i 1 B new:=by
  rw [hD];exact Awh hi hl aa lZ
 rw [Nat.zero_add,Y] at e8;simp only [Nat.zero_add,Nat.mul_one] at e4 e5 e6 e7 e8;simp only [seval,go_sem,e1,e2,e3,e4,e5,ae,af,ag,ac,ab,e6,e7,e8,Eb];refine ⟨rfl,by show h.nx+1≤z.nx+9;omega,fun x=>?_⟩;rw [C6]
 by_cases hx:x=h.nx
 ·rw [if_pos hx,if_pos hx];rfl
 ·rw [if_neg hx,if_neg hx];show z.m.get x=_;rw [I,C6,if_neg hx,E,Ei,if_neg hx]
theorem insE77 (Y:h.m.get q=some (cQ B t)) (hl:B.length=c * 2) (hc:n≤c) (hn:n≤10000000) (Z:h.read j 0 2=some new) (O:Af new=true) (h2:Af (B.take (n * 2))=true) :
  Ans Am 77 [.sl q 0 n c,iQ wQ n,.sl j 0 1 1] h fun v h'=>(n+1≤c∧InP h q n c 50 2 n B t new v h')∨(n=c∧InG h n 50 2 n B new v h'):=by
 obtain ⟨i,hi⟩:∃ i,i=n:=⟨n,rfl⟩;have I:new.length=2:=Dy Z;refine aO Tryz.f77 ?_;simp only [Tryz.f77];have hu:und Am 53=some (.slice 50):=Ux;have hs:size Am 50=1+1:=Qi;obtain ⟨v0,J⟩:∃ v0,Al Am h 53 (.sl q 0 n c) (some n) none none=val h (some v0):=by
  rcases Nat.lt_or_ge n c with z | z
  ·exact ⟨_,by rw [osl hu hs,F5 tM hc z]⟩
  ·exact ⟨_,by rw [osl hu hs,Ho tM tM]⟩
 have D:Bp h 2 1 (.sl j 0 1 1)=some new:=by rw [Gt];exact Z
 rcases Nat.lt_or_ge n c with z | z
 ·have E:append Am 50 2 (.sl q 0 n c) (.sl j 0 1 1) h=some (.sl q 0 (n+1) c,h.at q (cQ (Nw B n n 2 new) t)):=by
   unfold append;show (match Bp h 2 1 (.sl j 0 1 1) with | some new=>Ig Am 50 2 n 1 (.sl q 0 n c) h new | none=>none)=_;rw [D];show (match Nat.ble (n+1) c with | true=>J3 h q 0 n 1 c 2 new | false=>_)=_;rw [Nat.ble_eq_true_of_le z];simp only [J3];rw [hput (B:=B) Y trivial rfl tM O,Aaq,I,Nat.zero_add,Nat.succ_mul];rfl
  simp only [seval,go_sem,J,E];exact Or.inl ⟨z,rfl,Nat.le_refl _,fun j=>C6⟩
 ·have h5:n=c:=tM;subst h5;have U:B.take (n * 2)=B:=List.take_of_length_le tM;have E:append Am 50 2 (.sl q 0 n n) (.sl j 0 1 1) h=some (.sr h.nx 0 0 (n+1),h.new (oQ (Gz n 2 B new) (n+1) 50 2)):=by
   unfold append;show (match Bp h 2 1 (.sl j 0 1 1) with | some new=>Ig Am 50 2 n 1 (.sl q 0 n n) h new | none=>none)=_;rw [D];show (match Nat.ble (n+1) n with | true=>_ | false=>match h.read q 0 (n * 2) with | some old=>De Am h (old++new) (n+1) 50 2 | none=>none)=_;rw [show Nat.ble (n+1) n=false from by rw [← Bool.not_eq_true,Nat.ble_eq];omega,Mn (B:=B) Y rfl tM,List.drop_zero,U];show De Am h (B++new) (n+1) 50 2=_;unfold De F7;rw [Ajf,Nat.ble_eq_true_of_le tM,Nat.ble_eq_true_of_le tM,Bo (U ▸ h2) O,Aao hl];rfl
  simp only [seval,go_sem,J,E];exact Or.inr ⟨rfl,Nat.le_refl _,fun j=>Ei⟩
theorem insN77 (J:h.read j 0 2=some new) (I:Af new=true) :
  Ans Am 77 [(():AV),iQ wQ 0,.sl j 0 1 1] h fun v h'=>v=.sr h.nx 0 0 1∧h.nx+1≤h'.nx∧∀ j,h'.m.get j=if j=h.nx then some (oQ new 1 50 2) else h.m.get j:=by
 refine aO Tryz.f77 ?_;simp only [Tryz.f77];have O:und Am 53=some (.slice 50):=Ux;have hs:size Am 50=1+1:=Qi;have z:Bp h 2 1 (.sl j 0 1 1)=some new:=by rw [Gt];exact J
 have D:Al Am h 53 (():AV) (some 0) none none=val h (some (():AV)):=by exact osn (x:=0) O hs
 have E:append Am 50 2 (():AV) (.sl j 0 1 1) h=some (.sr h.nx 0 0 1,h.new (oQ new 1 50 2)):=by
  unfold append;show (match Bp h 2 1 (.sl j 0 1 1) with | some new=>Ig Am 50 2 0 1 (():AV) h new | none=>none)=_;rw [z]
  skip
  skip
  show De Am h new 1 50 2=_;unfold De F7;rw [Ajf,I];rfl
 simp only [seval,go_sem,D,E];exact fun j=>Ei
theorem insZ77 (D:h.read q 0 0=some []) (O:h.read j 0 2=some new) (J:Af new=true) :
  Ans Am 77 [.sl q 0 0 0,iQ wQ 0,.sl j 0 1 1] h fun v h'=>v=.sr h.nx 0 0 1∧h.nx+1≤h'.nx∧∀ j,h'.m.get j=if j=h.nx then some (oQ new 1 50 2) else h.m.get j:=by
 refine aO Tryz.f77 ?_;simp only [Tryz.f77];have U:und Am 53=some (.slice 50):=Ux;have hs:size Am 50=1+1:=Qi;have z:Bp h 2 1 (.sl j 0 1 1)=some new:=by rw [Gt];exact O
 have E:Al Am h 53 (.sl q 0 0 0) (some 0) none none=val h (some (.sl q 0 0 0)):=by rw [osl U hs,Ho rfl rfl]
 have I:append Am 50 2 (.sl q 0 0 0) (.sl j 0 1 1) h=some (.sr h.nx 0 0 1,h.new (oQ new 1 50 2)):=by
  unfold append;show (match Bp h 2 1 (.sl j 0 1 1) with | some new=>Ig Am 50 2 0 1 (.sl q 0 0 0) h new | none=>none)=_;rw [z];show (match h.read q 0 (0 * 2) with | some old=>De Am h (old++new) 1 50 2 | none=>none)=_;rw [Nat.zero_mul,D];show De Am h new 1 50 2=_;unfold De F7;rw [Ajf,J];rfl
 simp only [seval,go_sem,E,I];exact fun j=>Ei
theorem insI77 (hq:h.m.get q=some (cQ B t)) (hJ:h.m.get j=some k) (aa:k.flat) (J:j≠q) (hl:B.length=c * 2) (hi:i < n) (O:n+1≤c) (hn:n≤10000000) (hr:h.read j 0 2=some new) (h1:Af new=true) (h2:Af (B.take (n * 2))=true) :
  Ans Am 77 [.sl q 0 n c,iQ wQ i,.sl j 0 1 1] h (InP h q n c 50 2 i B t new):=by
 have af:new.length=2:=Dy hr;have ag:=wI n;have ah:=wI i;have ae:((i:Int)=(n:Int))=False:=eq_false tM;refine aO Tryz.f77 ?_;simp only [Tryz.f77];have E:und Am 53=some (.slice 50):=Ux;have hs:size Am 50=1+1:=Qi;obtain ⟨v0,e1⟩:∃ v0,Al Am h 53 (.sl q 0 n c) (some i) none none=val h (some v0):=by
  rcases Nat.lt_or_ge i c with z | z
  ·exact ⟨_,by rw [osl E hs,F5 tM tM z]⟩
  ·exact ⟨_,by rw [osl E hs,Ho tM tM]⟩
 have ac:((c:Int) < ((n+1:Nat):Int))=False:=eq_false tM;have e2:Al Am h 53 (.sl q 0 n c) none (some (n+1)) none=val h (some (.sl q 0 (n+1) c)):=by rw [osl E hs,Ss O]
 have U:∀ m,Al Am (h.up m) 53 (.sl q 0 (n+1) c) (some (i+1)) none none=val (h.up m) (some (.sl q (0+(i+1) * 2) (n - i) (c - (i+1)))):=fun m=>by rw [osl E hs,F5 tM O tM,Nat.add_sub_add_right]
 have I:Al Am h 53 (.sl q 0 (n+1) c) (some (i+1)) none none=val h (some (.sl q (0+(i+1) * 2) (n - i) (c - (i+1)))):=U 0;have e4:=ov131 (h:=h) hJ aa hq (fun e=>by rw [e] at hl;simp at hl;omega) J (a:=0) (b:=1) (d:=1) (e:=0+(i+1) * 2) (f:=n - i) (g:=c - (i+1));have e5:∀ m,Al Am (h.up m) 53 (.sl q 0 (n+1) c) (some i) none none=val (h.up m) (some (.sl q (0+i * 2) (n+1 - i) (c - i))):=fun m=>by rw [osl E hs,F5 tM O tM]
 have hM:((B.drop (i * 2)).take ((n - i) * 2)).length=(n - i) * 2:=by rw [List.length_take,List.length_drop];omega
 have ab:Af ((B.drop (i * 2)).take ((n - i) * 2))=true:=by
  have:=Bn h2 (i * 2) ((n - i) * 2);rw [List.drop_take,List.take_take,Nat.min_eq_left tM] at this;exact this
 have Y:=Jy (C:=Am) (t:=53) (h:=h.up 9) (d:=.sl q (0+(i+1) * 2) (n - i) (c - (i+1))) (s:=.sl q (0+i * 2) (n+1 - i) (c - i)) (x:=n - i) (B:=B) hq trivial rfl (show 0+(i+1) * 2+(n - i) * 2≤B.length by omega) (fun _ _=>rfl) rfl rfl tM (cs:=(B.drop (i * 2)).take ((n - i) * 2)) (by
  rw [Gt,Nat.ble_eq_true_of_le tM];show h.read q (0+i * 2) ((n - i) * 2)=_;rw [Mn (B:=B) hq rfl tM,Nat.zero_add]) hM ab E hs rfl
 obtain ⟨z,D⟩:∃ z,z=(h.up 9).at q (Blk.w (cQ B t) (B.take (0+(i+1) * 2)++((B.drop (i * 2)).take ((n - i) * 2)++B.drop (0+(i+1) * 2+(n - i) * 2)))):=⟨_,rfl⟩;rw [← D] at Y;have g4:z.m.get q=some (cQ (B.take ((i+1) * 2)++((B.drop (i * 2)).take ((n - i) * 2)++B.drop ((i+1) * 2+(n - i) * 2))) t):=by
  rw [D,C6,if_pos rfl,Nat.zero_add];rfl
 have n4:z.nx=h.nx+9:=by rw [D];rfl
 have l4:(B.take ((i+1) * 2)++((B.drop (i * 2)).take ((n - i) * 2)++B.drop ((i+1) * 2+(n - i) * 2))).length=B.length:=by
  rw [List.length_append,List.length_append,hM,List.length_take,List.length_drop];omega
 have r4:z.read j 0 2=some new:=by
  rw [D,Ck J];exact hr
 have e7:Al Am z 53 (.sl q 0 (n+1) c) (some i) none none=val z (some (.sl q (0+i * 2) (n+1 - i) (c - i))):=by rw [osl E hs,F5 tM O tM]
 have Z:=Jy (C:=Am) (t:=53) (h:=z) (d:=.sl q (0+i * 2) (n+1 - i) (c - i)) (s:=.sl j 0 1 1) (x:=1) (B:=B.take ((i+1) * 2)++((B.drop (i * 2)).take ((n - i) * 2)++B.drop ((i+1) * 2+(n - i) * 2))) g4 trivial rfl (show 0+i * 2+1 * 2≤_ by rw [l4];omega) (fun _ _=>rfl) rfl rfl tM (cs:=new) (by rw [Gt];exact r4) tM h1 E hs rfl;rw [Nat.zero_add,Awi tM tM af] at Z;simp only [Nat.zero_add,Nat.mul_one] at U I e4 e5 Y e7 Z;simp only [seval,go_sem,e1,e2,U,I,e4,e5,ag,ah,ae,ac,Y,e7,Z,Eb];refine ⟨rfl,by show h.nx≤z.nx;omega,fun x=>?_⟩;rw [C6,D,C6]
 by_cases hx:x=q
 ·rw [if_pos hx,if_pos hx];rfl
 ·rw [if_neg hx,if_neg hx,if_neg hx];rfl
theorem insG77 (hq:h.m.get q=some (cQ B t)) (ai:q < h.nx) (ah:j < h.nx) (hl:B.length=n * 2) (hi:i < n) (hn:n≤10000000) (hr:h.read j 0 2=some new) (h1:Af new=true) (h2:Af B=true) :
  Ans Am 77 [.sl q 0 n n,iQ wQ i,.sl j 0 1 1] h (InG h n 50 2 i B new):=by
 have aa:new.length=2:=Dy hr;have ae:=wI n;have af:=wI i;have ac:((i:Int)=(n:Int))=False:=eq_false tM;refine aO Tryz.f77 ?_;simp only [Tryz.f77];have O:und Am 53=some (.slice 50):=Ux;have hs:size Am 50=1+1:=Qi;obtain ⟨v0,e1⟩:∃ v0,Al Am h 53 (.sl q 0 n n) (some i) none none=val h (some v0):=by
  rcases Nat.lt_or_ge i n with h4 | h4
  ·exact ⟨_,by rw [osl O hs,F5 tM (Nat.le_refl _) h4]⟩
  ·exact ⟨_,by rw [osl O hs,Ho tM tM]⟩
 have ab:((n:Int) < ((n+1:Nat):Int))=True:=eq_true tM;have ag:IntKind.i64.wrap (((n+1:Nat):Int) - (i:Int))=((n - i+1:Nat):Int):=by rw [show ((n+1:Nat):Int) - (i:Int)=((n - i+1:Nat):Int) by omega];exact Bz tM
 have e2:Al Am h 53 (.sl q 0 n n) none (some i) none=val h (some (.sl q 0 i n)):=by rw [osl O hs,Ss tM]
 have U:∀ m,(rep ([iQ uQ 0,iQ uQ 0]:List AV) m).length=m * 2∧Af (rep ([iQ uQ 0,iQ uQ 0]:List AV) m)=true:=fun m=>by
  induction m with
  | zero=>exact ⟨by simp [rep],rfl⟩
  | succ m ih =>
   refine ⟨?_,Bo rfl ih.2⟩;show (([iQ uQ 0,iQ uQ 0]:List AV)++rep [iQ uQ 0,iQ uQ 0] m).length=_;rw [List.length_append,ih.1,Nat.succ_mul,Nat.add_comm];rfl
 obtain ⟨Z,hZ⟩:∃ Z,Z=rep ([iQ uQ 0,iQ uQ 0]:List AV) (n - i+1):=⟨_,rfl⟩;have lZ:Z.length=(n - i+1) * 2:=by rw [hZ];exact (U _).1
 have oZ:Af Z=true:=by rw [hZ];exact (U _).2
 obtain ⟨J,E⟩:∃ J,J=h.new (oQ (B.take (i * 2)++Z) (n+1) 50 2):=⟨_,rfl⟩;have lA:(B.take (i * 2)++Z).length=(n+1) * 2:=by rw [List.length_append,lZ,List.length_take];omega
 have e3:Rx Am h 50 3 (.sl q 0 i n) (iQ wQ ((n - i+1:Nat):Int))=some (some (.sr h.nx 0 0 (n+1)),J):=by
  unfold Rx;rw [u3x];show Alq (Apv Am h 50 q 0 i n (n - i+1))=_;unfold Apv;have hz:Em Am 50 (n - i+1)=some Z:=by unfold Em;rw [z50x,Qi,hZ];rfl
  rw [hz,show Nat.ble (i+(n - i+1)) n=false from by rw [← Bool.not_eq_true,Nat.ble_eq];omega,Qi,Mn (B:=B) hq rfl tM,List.drop_zero];show Alq (De Am h (B.take (i * 2)++Z) (i+(n - i+1)) 50 2)=_;rw [show i+(n - i+1)=n+1 by omega];have ho:Af (B.take (i * 2)++Z)=true:=Bo (Bn h2 0 _) oZ;unfold De F7;rw [Ajf,Nat.ble_eq_true_of_le tM,Nat.ble_eq_true_of_le tM,ho,E];rfl
 have gA:J.m.get h.nx=some (oQ (B.take (i * 2)++Z) (n+1) 50 2):=by rw [E,Ei,if_pos rfl]
 have rA:J.read j 0 2=some new:=by rw [E,Bc tM];exact hr
 have e4:Al Am J 53 (.sr h.nx 0 0 (n+1)) (some i) none none=val J (some (.sr h.nx (0+i * 2) (0+i) (n+1 - i))):=Vr O hs tM;have e5:=Jy (C:=Am) (t:=53) (h:=J) (d:=.sr h.nx (0+i * 2) (0+i) (n+1 - i)) (s:=.sl j 0 1 1) (x:=1) (B:=B.take (i * 2)++Z) gA trivial rfl (show 0+i * 2+1 * 2≤_ by rw [lA];omega) (fun _ _=>rfl) rfl rfl tM (cs:=new) (by rw [Gt];exact rA) tM h1 O hs rfl;obtain ⟨D,hD⟩:∃ D,D=(B.take (i * 2)++Z).take (i * 2)++(new++(B.take (i * 2)++Z).drop (i * 2+1 * 2)):=⟨_,rfl⟩;rw [Nat.zero_add,← hD] at e5;have lD:D.length=(n+1) * 2:=by
  rw [hD,List.length_append,List.length_append,List.length_take,List.length_drop,lA,aa];omega
 obtain ⟨z,I⟩:∃ z,z=J.at h.nx (Blk.w (oQ (B.take (i * 2)++Z) (n+1) 50 2) D):=⟨_,rfl⟩;rw [← I] at e5;have gE:z.m.get h.nx=some (oQ D (n+1) 50 2):=by rw [I,C6,if_pos rfl];rfl
 have nE:z.nx=h.nx+1:=by rw [I,E];rfl
 have qE:z.m.get q=some (cQ B t):=by rw [I,C6,if_neg tM,E,Ei,if_neg tM];exact hq
 have e6:∀ m,Al Am (z.up m) 53 (.sr h.nx 0 0 (n+1)) (some (i+1)) none none=val (z.up m) (some (.sr h.nx (0+(i+1) * 2) (0+(i+1)) (n - i))):=fun m=>by rw [Vr O hs tM,Nat.add_sub_add_right]
 have e7:∀ m,Al Am (z.up m) 53 (.sl q 0 n n) (some i) none none=val (z.up m) (some (.sl q (0+i * 2) (n - i) (n - i))):=fun m=>by rw [osl O hs,F5 tM (Nat.le_refl _) tM]
 have hM:((B.drop (i * 2)).take ((n - i) * 2)).length=(n - i) * 2:=by rw [List.length_take,List.length_drop];omega
 have e8:=Jy (C:=Am) (t:=53) (h:=z.up 9) (d:=.sr h.nx (0+(i+1) * 2) (0+(i+1)) (n - i)) (s:=.sl q (0+i * 2) (n - i) (n - i)) (x:=n - i) (B:=D) gE trivial rfl (show 0+(i+1) * 2+(n - i) * 2≤_ by rw [lD];omega) (fun _ _=>rfl) rfl rfl tM (cs:=(B.drop (i * 2)).take ((n - i) * 2)) (by
  rw [Gt,Nat.ble_eq_true_of_le tM];show z.read q (0+i * 2) ((n - i) * 2)=_;rw [Mn (B:=B) qE rfl tM,Nat.zero_add]) hM (Bn h2 _ _) O hs rfl
 have Y:D.take ((i+1) * 2)++((B.drop (i * 2)).take ((n - i) * 2)++D.drop ((i+1) * 2+(n - i) * 2))=Gz i 2 B new:=by
  rw [hD];exact Awh hi hl aa lZ
 rw [Nat.zero_add,Y] at e8;simp only [Nat.zero_add,Nat.mul_one] at e4 e5 e6 e7 e8;simp only [seval,go_sem,e1,e2,e3,e4,e5,ae,af,ag,ac,ab,e6,e7,e8,Eb];refine ⟨rfl,by show h.nx+1≤z.nx+9;omega,fun x=>?_⟩;rw [C6]
 by_cases hx:x=h.nx
 ·rw [if_pos hx,if_pos hx];rfl
 ·rw [if_neg hx,if_neg hx];show z.m.get x=_;rw [I,C6,if_neg hx,E,Ei,if_neg hx]
end
mutual
theorem VR.uniq {ρ:Nm}:∀ (x:AV) (v u:Value),VR ρ x v→VR ρ x u→v=u
 | .int k n,v,u,e,f=>by rw [show v=_ from e,show u=_ from f]
 | .bool b,v,u,e,f=>by rw [show v=_ from e,show u=_ from f]
 | .str s,v,u,e,f=>by rw [show v=_ from e,show u=_ from f]
 | .raw r,v,u,e,f=>by rw [e.1,f.1]
 | .ptr i o,v,u,⟨b,c,e1,e2⟩,⟨b',c',f1,f2⟩=>by rw [e1] at f1;cases f1;rw [e2,f2]
 | .sl i o n c,v,u,⟨_,b,d,e1,e2⟩,⟨_,b',d',f1,f2⟩=>by rw [e1] at f1;cases f1;rw [e2,f2]
 | .sr i o d n,v,u,⟨b,c,e1,_,e2⟩,⟨b',c',f1,_,f2⟩=>by rw [e1] at f1;cases f1;rw [e2,f2]
 | .mp i,v,u,⟨b,c,e1,e2⟩,⟨b',c',f1,f2⟩=>by rw [e1] at f1;cases f1;rw [e2,f2]
 | .fn f x y,v,u,⟨vs,ws,e1,e2,e3⟩,⟨vs',ws',f1,f2,f3⟩=>by rw [e3,f3,VRs.uniq x vs vs' e1 f1,VRs.uniq y ws ws' e2 f2]
 | .agg x,v,u,⟨vs,e1,e2⟩,⟨vs',f1,f2⟩=>by rw [e2,f2,VRs.uniq x vs vs' e1 f1]
 | .tup x,v,u,⟨vs,e1,e2⟩,⟨vs',f1,f2⟩=>by rw [e2,f2,VRs.uniq x vs vs' e1 f1]
theorem VRs.uniq {ρ:Nm}:∀ (x:List AV) (v u:List Value),VRs ρ x v→VRs ρ x u→v=u
 | [],v,u,e,f=>by rw [show v=[] from e,show u=[] from f]
 | x::l,_,_,⟨v,r,e1,e2,e3⟩,⟨v',r',f1,f2,f3⟩=>by rw [e1,f1,VR.uniq x v v' e2 f2,VRs.uniq l r r' e3 f3]
end
theorem MR.uniq {ρ:Nm}:∀ (x:List (AV × AV × Nat)) (l m:List MapEntry),MR ρ x l→MR ρ x m→l=m
 | [],l,m,e,f=>by rw [show l=[] from e,show m=[] from f]
 | x::r,_,_,⟨e,t,e1,e2,e3,e4,e5⟩,⟨f,u,f1,f2,f3,f4,f5⟩=>by
  have:e=f:=by
   obtain ⟨k1,v1,b1⟩:=e;obtain ⟨k2,v2,b2⟩:=f;have h1:=VR.uniq _ _ _ e2 f2;have h2:=VR.uniq _ _ _ e3 f3;have h3:=e4.trans f4.symm;simp only at h1 h2 h3;rw [h1,h2,h3]
  rw [e1,f1,this,MR.uniq r t u e5 f5]
theorem BR.uniq {ρ:Nm} {b c:Nat} {k:Blk} {r J:Y.Res} (e:BR ρ b c k r) (f:BR ρ b c k J):r=J:=by
 cases k with
 | cells cs t=>obtain ⟨vs,z,D⟩:=e;obtain ⟨us,E,I⟩:=f;rw [D,I,VRs.uniq _ _ _ z E]
 | row cs n t sz=>obtain ⟨vs,z,D⟩:=e;obtain ⟨us,E,I⟩:=f;rw [D,I,VRs.uniq _ _ _ z E]
 | mapb es ck=>obtain ⟨l,z,D⟩:=e;obtain ⟨m,E,I⟩:=f;rw [D,I,MR.uniq _ _ _ z E]
 | fix cs t m=>obtain ⟨vs,z,D⟩:=e;obtain ⟨us,E,I⟩:=f;rw [D,I,VRs.uniq _ _ _ z E]
section
variable {P:Program} {w w0:World} {G:Y.Ghost} {Lf:List Y.Res} {ρ ρ':Nm} {h h':H} {i j n t sz b c:Nat} {cs:List AV} {k:Blk} {m:Tr Blk}
def Sup (ρ:Nm) (m:Tr Blk):Prop:=∀ i k,m.get i=some k→∃ b c r,ρ i=some (b,c)∧BR ρ b c k r
theorem HR.sup (E:HR ρ w0 G Lf h w):Sup ρ h.m:=fun i k J=>by
 obtain ⟨L,I,M⟩:=E;obtain ⟨q,r,b,c,O,z,D,_⟩:=I.at J;exact ⟨b,c,r,z,D⟩
theorem Sup.mono (z:Le ρ ρ') (S:Sup ρ m):Sup ρ' m:=fun i k I=>by
 obtain ⟨b,c,r,D,E⟩:=S i k I;exact ⟨b,c,r,z _ _ D,E.mono z⟩
theorem Sup.ext {m':Tr Blk} (S:Sup ρ m) (h:∀ i k,m'.get i=some k→m.get i=some k∨∃ b c r,ρ i=some (b,c)∧BR ρ b c k r):Sup ρ m':=fun i k D=>by
 rcases h i k D with z | z
 ·exact S i k z
 ·exact z
theorem HR.back (E:HR ρ' w0 G Lf h w) (J:Le ρ ρ') (S:Sup ρ h.m):HR ρ w0 G Lf h w:=by
 obtain ⟨L,U,M⟩:=E;refine ⟨L,U.nm fun i k b c Y Z=>?_,M⟩;obtain ⟨b1,c1,r1,z,D⟩:=S i k Y;have I:=J _ _ z;rw [Z] at I;cases I;exact ⟨z,fun r O=>by rw [O.uniq (D.mono J)];exact D⟩
theorem HR.two {k:Blk} {ys:List AV} (E:HR ρ w0 G Lf h w) (hi:h.m.get i=some k) (hf:k.flat) (hj:h.m.get j=some (.cells ys t)) (hn:i≠j) :
  ∃ b b' c c',ρ i=some (b,c)∧ρ j=some (b',c')∧b≠b'∧(∃ vs s,w.heap[b]?=some (.cells vs s (0,0)))∧∃ us:Array Value,w.heap[b']?=some (.cells us t (0,0))∧us.size=ys.length:=by
 obtain ⟨L,hc,M⟩:=E;obtain ⟨q,r,b,c,Z,h2,J,_,h5⟩:=hc.at hi;have U:(h.m.del i).get j=some (.cells ys t):=by rw [Tr.get_del,if_neg (fun e=>hn e.symm)];exact hj
 obtain ⟨q2,r2,b',c',g1,g2,⟨us,g3,rfl⟩,_⟩:=h5.at U;have I:Y.Mem w0 G (r::(L++Lf).eraseIdx q) w:=M.perm (Y.perm_front _ q r (Cb Z));rw [List.eraseIdx_append_of_lt_length (Y.lt_of_get Z)] at I;have hh:=I.own (.blk b' us t) (List.mem_cons_of_mem _ (List.mem_append_left _ (List.mem_of_getElem? g1)));have O:=(List.pairwise_cons.1 I.apart).1 (.blk b' us t) (List.mem_append_left _ (List.mem_of_getElem? g1)) b J.foot;have hr:=I.own r (List.mem_cons_self ..);refine ⟨b,b',c,c',h2,g2,fun e=>O (by rw [e];rfl),?_,us.toArray,hh,by rw [List.size_toArray,J4 g3]⟩;cases k with
 | cells cs s=>obtain ⟨vs,e1,rfl⟩:=J;exact ⟨_,s,hr⟩
 | row cs n s z =>
  obtain ⟨vs,e1,rfl⟩:=J;obtain ⟨⟨_,D⟩,_⟩:=I.row_at (k:=0) rfl;rcases D with ⟨D,_⟩ | ⟨g,aa,ab,D,_,e4,_⟩
  ·cases D
  ·simp only [Value.slice.injEq,Option.some.injEq,Addr.mk.injEq,and_true,true_and] at D;obtain ⟨rfl,rfl⟩:=D;exact ⟨_,s,e4⟩
 | mapb=>exact hf.elim
 | fix=>exact hf.elim
end
section
variable {w0:World} {G:Y.Ghost}
theorem ov_run {w:World} {f tS e:Nat} {fn:Func} {b b' o n c o' n' c':Nat} {vs us:Array Value} {s t:Nat} (Z:Tryz.prog.funcs[f]?=some fn) (J:(fn.name== "runtime.NumGoroutine")=false) (O:fn.body.isNone=true) (U:Extern.findNext fn=none) (Y:Extern.find fn=some (Extern.SlicesOverlaps.overlaps #[tS,tS] #[4]))
  (hu:Tryz.prog.underlying tS=some (.slice e)) (I:∃ sz,∀ w,(Go.sizeOf e).run Tryz.prog w=.ok sz w) (z:w.heap[b]?=some (.cells vs s (0,0))) (D:w.heap[b']?=some (.cells us t (0,0))) (E:b≠b') (hs:us.size≠0) :
  (callFunc f #[.slice (some ⟨b,o,none⟩) n c,.slice (some ⟨b',o',none⟩) n' c']).run Tryz.prog w=.ok (.value (.bool false)) w:=by
 obtain ⟨sz,I⟩:=I;rw [run_callFunc_extern Z J O U Y,Lib.run_overlaps_apart w tS 4 e hu sz I ⟨b,o,none⟩ ⟨b',o',none⟩ n c n' c' E s t vs.size us.size (by simp [World.shape?,z]) (by simp [World.shape?,D]) hs (by simp [World.frozen?,z]) (by simp [World.frozen?,z])];rfl
theorem Arj {e:Nat} (h:∃ i,Am.ty e=some i):∃ sz,∀ w,(Go.sizeOf e).run Tryz.prog w=.ok sz w:=by
 obtain ⟨i,D⟩:=h;obtain ⟨E,z,_⟩:=tok (P:=Tryz.prog) (C:=Am) Yw D;exact ⟨E.size,fun w=>z.sizeOf⟩
theorem Aqe {f tS e:Nat} {fn:Func} (hf:Tryz.prog.funcs[f]?=some fn) (h1:(fn.name== "runtime.NumGoroutine")=false) (h2:fn.body.isNone=true) (h3:Extern.findNext fn=none) (h4:Extern.find fn=some (Extern.SlicesOverlaps.overlaps #[tS,tS] #[4]))
  (hu:Tryz.prog.underlying tS=some (.slice e)) (hz:∃ sz,∀ w,(Go.sizeOf e).run Tryz.prog w=.ok sz w) {vs:List AV} {h h':H} {v:AV} (z:xOv vs h=some (v,h')) :
  ∀ (ρ:Nm) (I:List Y.Res) (w:World) (us:List Value),VRs ρ vs us→HR ρ w0 G I h w→Bt ρ h.nx→∃ u,(callFunc f us.toArray).run Tryz.prog w=.ok (.value u) w∧∃ ρ',Aft ρ ρ' h.nx h'.nx∧HR ρ' w0 G I h' w∧VR ρ' v u:=by
 intro ρ I w us hv E hn;unfold xOv at z;split at z
 ·rename_i i o n c j o' n' c';split at z
  ·cases z
  ·cases z
  ·rename_i k x xs t O U Z aa D;cases z;obtain ⟨v1,r1,rfl,⟨_,b,d,g1,rfl⟩,v2,r2,rfl,⟨_,b',d',g2,rfl⟩,rfl⟩:=hv;have J:k.flat:=by cases k <;> first | trivial | exact (O _ _ rfl).elim | exact (U _ _ _ rfl).elim
   obtain ⟨B,B',C,C',e1,e2,e3,⟨vs,s,e4⟩,us,e5,e6⟩:=E.two Z J aa (fun e=>by rw [e,Nat.beq_refl] at D;cases D);rw [g1] at e1;cases e1;rw [g2] at e2;cases e2;refine ⟨.bool false,ov_run hf h1 h2 h3 h4 hu hz e4 e5 e3 (by rw [e6];simp),ρ,.refl hn,E,rfl⟩
  ·cases z
 ·cases z
theorem ext0_ok:Abr Tryz.prog w0 G Am:=fun f vs h v h' z=>by
 have z:(match ext0 f vs h with | some r=>r | none=>none)=some (v,h'):=z;unfold ext0 at z;split at z
 ·rename_i r D;split at D
  ·cases D;exact Or.inr (Aqe (tS:=53) (e:=50) Tryz.func131 kR kR kR kR (Dd (C:=Am) Yw Ux) (Arj (Eg (C:=Am) Yw (by rw [Qi];rfl))) z)
  ·cases D;exact Or.inr (Aqe (tS:=77) (e:=3) Tryz.func199 kR kR kR kR (Dd (C:=Am) Yw Uw) (Arj (Eg (C:=Am) Yw (by rw [s3x];rfl))) z)
  ·cases D
 ·cases z
end
def EX (ρ:Nm) (l:List AV):Prop:=∃ vs,VRs ρ l vs
section
variable {ρ ρ':Nm} {a b:List AV}
theorem EX.app (x:EX ρ a) (y:EX ρ b):EX ρ (a++b):=by obtain ⟨v,D⟩:=x;obtain ⟨u,z⟩:=y;exact ⟨_,D.app z⟩
theorem EX.take (x:EX ρ a) (k:Nat):EX ρ (a.take k):=by obtain ⟨v,z⟩:=x;exact ⟨_,L9 (k:=0) z⟩
theorem EX.drop (x:EX ρ a) (k:Nat):EX ρ (a.drop k):=by
 obtain ⟨v,z⟩:=x;rw [← List.take_append_drop k a] at z;obtain ⟨_,u,_,_,h⟩:=z.split;exact ⟨u,h⟩
end
theorem Ge {v:AV} {i:Nat} (h:Mj v=some i):v=.int .i64 i:=by
 unfold Mj at h;split at h
 ·rename_i n;cases n with
  | ofNat k=>cases h;rfl
  | negSucc=>cases h
 ·cases h
section
variable {P:Program} {F:Bj} {w w' w0:World} {G:Y.Ghost} {Lf:List Y.Res} {ρ ρ':Nm} {h h1:H} {i j n n' t sz b c f q:Nat} {cs B R:List AV} {k:Blk} {m:Tr Blk} {u:Value}
theorem Cx.calls (Z:Cx P w0 G F) (U:Y.Ent P f) {vs:List AV} {h h':H} {v:AV} (O:F f vs h=some (v,h')) {us:List Value} (J:VRs ρ vs us) (E:HR ρ w0 G Lf h w) (I:Bt ρ h.nx) :
  Calls P f us.toArray w fun x w'=>∃ u,x=.returned u∧∃ ρ',Aft ρ ρ' h.nx h'.nx∧HR ρ' w0 G Lf h' w'∧VR ρ' v u:=by
 rcases Z _ _ _ _ _ O with ⟨_,z⟩ | z
 ·exact z ρ Lf w us J E I
 ·obtain ⟨u,D,_⟩:=z ρ Lf w us J E I;rw [Y.run_enter U] at D;cases D
theorem Li:Cx Tryz.prog w0 G (FW Am):=fw_ok ext0_ok rfl
theorem HR.lt (E:HR ρ w0 G Lf h w) (J:Bt ρ h.nx) (I:h.m.get i=some k):i < h.nx:=by
 obtain ⟨b,c,r,D,_⟩:=E.sup i k I;rcases Nat.lt_or_ge i h.nx with z | z
 ·exact z
 ·rw [J i z] at D;cases D
theorem Auw {o:Nat} {x:AV} {l:List AV} (z:h.read i o n=some (x::l)) (D:Aee h i=true):∃ k,h.m.get i=some k∧k.flat:=by
 unfold H.read at z;split at z
 ·rename_i k E;refine ⟨k,E,?_⟩;cases k with
  | mapb e c =>
   have z:Aq o n []=some (x::l):=z;rw [Bw] at z;split at z
   ·simp at z
   ·cases z
  | fix cs t m=>unfold Aee at D;rw [E] at D;cases D
  | _=>trivial
 ·cases z
theorem Z3 {o:Nat} {us:List AV} (z:h.put i o us=some h1):∃ k,h.m.get i=some k∧k.flat:=by
 unfold H.put at z;split at z
 ·split at z
  ·rename_i k D;refine ⟨k,D,?_⟩;cases k with
   | mapb e c=>cases z
   | fix cs t m=>cases z
   | _=>trivial
  ·cases z
 ·cases z
theorem Xe {B':List AV} (E0:HR ρ w0 G Lf h w) (J:Bt ρ h.nx) (D:ρ q=some (b,c)) (aa:q < h.nx) (hX:EX ρ B') (lB:B'.length=c * sz) (hc:n'≤c) (hm:c≤maxLen) (ho:Af (B'.take (n' * sz))=true) (Z:B'.take (n' * sz)=R)
  (hA:Aft ρ ρ' h.nx h1.nx) (E1:HR ρ' w0 G Lf h1 w') (hg:∀ j,h1.m.get j=if j=q then some (.cells B' t) else h.m.get j) (hu:VR ρ' (.sl q 0 n' c) u) :
  ∃ ρ'',Aft ρ ρ'' h.nx (h.nx+1)∧HR ρ'' w0 G Lf ⟨(h.m.del q).set h.nx (.row R n' t sz),h.nx+1⟩ w'∧VR ρ'' (.sr h.nx 0 0 n') u:=by
 have I:=hA.le J;have E3:HR ρ' w0 G Lf ⟨h.m.set q (.cells B' t),h1.nx⟩ w':=E1.ext fun i=>by rw [Tr.get_set,hg]
 have U:=E3.shut (j:=q) (cs:=B') (n:=n') (sz:=sz) (by show (h.m.set q _).get q=_;rw [Tr.get_set,if_pos rfl]) (I _ _ D) lB hc hm ho;rw [Z] at U;have E5:HR ρ' w0 G Lf ⟨h.m.set q (.row R n' t sz),h1.nx⟩ w':=U.ext fun i=>by
  show (h.m.set q _).get i=((h.m.set q _).set q _).get i;rw [Tr.get_set,Tr.get_set,Tr.get_set];split <;> rfl
 have E:EX ρ R:=by rw [← Z];exact hX.take _
 have E6:=E5.back I (E0.sup.ext fun i k z=>by
  have z:(h.m.set q _).get i=some k:=z;rw [Tr.get_set] at z;split at z
  ·rename_i e;cases z;obtain ⟨vs,O⟩:=E;exact Or.inr ⟨b,c,_,by rw [e];exact D,vs,O,rfl⟩
  ·exact Or.inl z)
 have E7:=E6.ren (j:=q) (i:=h.nx) (k:=.row R n' t sz) (by show (h.m.set q _).get q=_;rw [Tr.get_set,if_pos rfl]) D (J _ (Nat.le_refl _));refine ⟨up ρ h.nx (b,c),⟨Nat.le_succ _,fun i z=>up_ne tM,fun i z=>by rw [up_ne tM];exact J i tM⟩,E7.ext fun i=>?_,?_⟩
 ·show ((h.m.del q).set h.nx _).get i=(((h.m.set q _).del q).set h.nx _).get i;rw [Tr.get_set,Tr.get_set,Tr.get_del,Tr.get_del,Tr.get_set];split
  ·rfl
  ·split <;> rfl
 ·obtain ⟨_,b',d',Y,rfl⟩:=hu;rw [I _ _ D] at Y;cases Y;exact ⟨b,c,Hv,tM,rfl⟩
theorem Xf {Y m2:Tr Blk} {l:List Nat} (O:Bt ρ h.nx) (hX:EX ρ R) (hS:Sup ρ m2) (J:∀ j,m2.get j=if j∈l then none else Y.get j) (I:¬ h.nx∈l)
  (hA:Aft ρ ρ' h.nx h1.nx) (Z:HR ρ' w0 G Lf h1 w') (hg:∀ j,h1.m.get j=if j=h.nx then some (.row R n' t sz) else Y.get j) (hu:VR ρ' (.sr h.nx 0 0 n') u) :
  ∃ ρ'',Aft ρ ρ'' h.nx (h.nx+1)∧HR ρ'' w0 G Lf ⟨m2.set h.nx (.row R n' t sz),h.nx+1⟩ w'∧VR ρ'' (.sr h.nx 0 0 n') u:=by
 obtain ⟨b,c,e1,e2,rfl⟩:=hu;have hl:Le (up ρ h.nx (b,c)) ρ':=fun i x E=>by
  by_cases z:i=h.nx
  ·rw [z,Hv] at E;rw [z,e1];exact E
  ·rw [up_ne z] at E;exact hA.le O _ _ E
 have D:Le ρ (up ρ h.nx (b,c)):=K6 (O _ (Nat.le_refl _));have E2:HR ρ' w0 G Lf ⟨m2.set h.nx (.row R n' t sz),h.nx+1⟩ w':=Z.sub l fun i=>by
  rw [Tr.get_set,hg,J]
  by_cases z:i=h.nx
  ·rw [if_pos z,if_neg (z ▸ I),if_pos z]
  ·rw [if_neg z,if_neg z]
 refine ⟨up ρ h.nx (b,c),⟨Nat.le_succ _,fun i z=>up_ne tM,fun i z=>by rw [up_ne tM];exact O i tM⟩,E2.back hl ((hS.mono D).ext fun i k z=>?_),b,c,Hv,e2,rfl⟩;have z:(m2.set h.nx _).get i=some k:=z;rw [Tr.get_set] at z;split at z
 ·rename_i e;cases z;obtain ⟨vs,U⟩:=hX;exact Or.inr ⟨b,c,_,by rw [e];exact Hv,vs,U.mono D,rfl⟩
 ·exact Or.inl z
theorem fin_s {B':List AV} {v:AV} (J:HR ρ w0 G Lf h w) (Z:Bt ρ h.nx) (hk:h.m.get q=some k) (U:k.flat) (hX:EX ρ B')
  (hA:Aft ρ ρ' h.nx h1.nx) (E1:HR ρ' w0 G Lf h1 w') (hg:∀ j,h1.m.get j=if j=q then some (k.w B') else h.m.get j) (hv:∃ u,VR ρ v u) (hu:VR ρ' v u) :
  ∃ ρ'',Aft ρ ρ'' h.nx h.nx∧HR ρ'' w0 G Lf ⟨h.m.set q (k.w B'),h.nx⟩ w'∧VR ρ'' v u:=by
 have Y:=hA.le Z;have E3:HR ρ' w0 G Lf ⟨h.m.set q (k.w B'),h.nx⟩ w':=E1.ext fun i=>by rw [Tr.get_set,hg]
 obtain ⟨u0,E⟩:=hv;refine ⟨ρ,.refl Z,E3.back Y (J.sup.ext fun i x D=>?_),by rw [VR.uniq _ _ _ hu (E.mono Y)];exact E⟩;have D:(h.m.set q _).get i=some x:=D;rw [Tr.get_set] at D;split at D
 ·rename_i e;cases D;obtain ⟨b,c,r,O,e2⟩:=J.sup q k hk;obtain ⟨vs,I⟩:=hX;refine Or.inr ⟨b,c,?_⟩;cases k with
  | cells cs t=>exact ⟨_,by rw [e];exact O,vs,I,rfl⟩
  | row cs n t z=>exact ⟨_,by rw [e];exact O,vs,I,rfl⟩
  | mapb=>exact U.elim
  | fix=>exact U.elim
 ·exact Or.inl D
end
section
variable {w0:World} {G:Y.Ghost}
theorem Yr:Y.Ent Tryz.prog 160:=.mk' Tryz.func160 rfl rfl
theorem Abt {vs:List AV} {h h':H} {v:AV} (z:I8 3 1 vs h=some (v,h')) (ρ:Nm) (Lf:List Y.Res) (w:World) (us:List Value) (hv:VRs ρ vs us) (E:HR ρ w0 G Lf h w) (hn:Bt ρ h.nx) :
  Calls Tryz.prog 160 us.toArray w fun x w'=>∃ u,x=.returned u∧∃ ρ',Aft ρ ρ' h.nx h'.nx∧HR ρ' w0 G Lf h' w'∧VR ρ' v u:=by
 have af:∀ (s:AV) (i j:Nat) (new:List AV),VRs ρ [s,.int .i64 i,.sl j 0 1 1] us→h.read j 0 1=some new→Amx 3 1 i new h=some (v,h')→(i=0→Ans Am 160 [s,.int .i64 i,.sl j 0 1 1] h fun v h'=>v=.sr h.nx 0 0 1∧h.nx+1≤h'.nx∧∀ j,h'.m.get j=if j=h.nx then some (.row new 1 3 1) else h.m.get j)→Calls Tryz.prog 160 us.toArray w fun x w'=>∃ u,x=.returned u∧∃ ρ',Aft ρ ρ' h.nx h'.nx∧HR ρ' w0 G Lf h' w'∧VR ρ' v u:=by
  intro s i j new hv Z z ha;unfold Amx at z;split at z
  ·cases z;obtain ⟨I,D,U,rfl,_,hg⟩:=ha rfl;refine Calls.mono (Li.calls Yr U hv E hn) fun x w' z=>?_;obtain ⟨u,rfl,ρ',q1,q2,q3⟩:=z;obtain ⟨_,_,ws,_,g1,_⟩:=E.read Z;exact ⟨u,rfl,Xf (l:=[]) hn ⟨ws,g1⟩ E.sup (fun j=>by simp) (by simp) q1 q2 hg q3⟩
  ·cases z
 unfold I8 at z;split at z
 ·rename_i s iv j;split at z
  ·rename_i i new hi Z;have hi:=Ge hi;subst hi;split at z
   ·rename_i D;simp only [Bool.and_eq_true] at D;obtain ⟨D,ax⟩:=D;split at z
    ·rename_i q n;unfold Awg at z;split at z
     ·rename_i cs hg O;cases z;simp only [Bool.and_eq_true,Bool.not_eq_true',Nat.ble_eq] at hg;obtain ⟨ab,ah,ap⟩:=hg;have ag:j≠q:=fun e=>by rw [e,Nat.beq_refl] at ap;cases ap
      have hq:h.m.get q=some (.row cs n 3 1):=by
       unfold Hg at O;split at O
       ·rename_i cs' k e' z' hq;split at O
        ·rename_i hb;cases O;simp only [Bool.and_eq_true,Nat.beq_eq] at hb;obtain ⟨rfl,rfl,rfl⟩:=hb;exact hq
        ·cases O
       ·cases O
      obtain ⟨u1,r1,rfl,⟨b,c,hρ,az,rfl⟩,a6⟩:=hv;rw [Nat.zero_add] at az;rw [Nat.sub_zero] at *;obtain ⟨sp,o1,l1,l2,l3,l4,E2⟩:=E.open hq hρ;have ar:VRs ρ [.sl q 0 n c,.int .i64 i,.sl j 0 1 1] (.slice (some ⟨b,0,none⟩) n c::r1):=⟨_,_,rfl,⟨l3,b,c,hρ,rfl⟩,a6⟩;have ai:new.length=1:=Dy Z;obtain ⟨kJ,am,aw⟩:∃ k,h.m.get j=some k∧k.flat:=by
       cases new with
       | nil=>cases ai
       | cons x l=>exact Auw Z ax
      have aq:=E.lt hn hq;have ay:=E.lt hn am;have gq:(h.m.set q (.cells (cs++sp) 3)).get q=some (.cells (cs++sp) 3):=by rw [Tr.get_set,if_pos rfl]
      have gj:(h.m.set q (.cells (cs++sp) 3)).get j=some kJ:=by rw [Tr.get_set,if_neg ag];exact am
      have rj:(⟨h.m.set q (.cells (cs++sp) 3),h.nx⟩:H).read j 0 1=some new:=(Us (h:=h) ag).trans Z;have hB:(cs++sp).take (n * 1)=cs:=List.take_left' l1;have o2:Af ((cs++sp).take (n * 1))=true:=by rw [hB];exact o1
      have aa:EX ρ (cs++sp):=by
       obtain ⟨b1,c1,r,_,vs,a7,_⟩:=E2.sup q _ gq;exact ⟨vs,a7⟩
      obtain ⟨_,_,ws,_,g1,_⟩:=E.read Z;have ak:EX ρ new:=⟨ws,g1⟩;have au:EX ρ (Nw (cs++sp) i n 1 new):=(aa.take _).app (ak.app (((aa.drop _).take _).app (aa.drop _)));have av:EX ρ (Gz i 1 cs new):=by
       have:EX ρ cs:=by rw [← hB];exact aa.take _
       exact (this.take _).app (ak.app (this.drop _))
      have ac:∀ I D,n+1≤c→InP ⟨h.m.set q (.cells (cs++sp) 3),h.nx⟩ q n c 3 1 i (cs++sp) 3 new I D→FW Am 160 [.sl q 0 n c,.int .i64 i,.sl j 0 1 1] ⟨h.m.set q (.cells (cs++sp) 3),h.nx⟩=some (I,D) →
        Calls Tryz.prog 160 ((Value.slice (some ⟨b,0,none⟩) n c::r1)).toArray w fun x w'=>∃ u,x=.returned u∧∃ ρ',Aft ρ ρ' h.nx (h.nx+1)∧HR ρ' w0 G Lf ⟨(h.m.del q).set h.nx (.row (Gz i 1 cs new) (n+1) 3 1),h.nx+1⟩ w'∧VR ρ' (.sr h.nx 0 0 (n+1)) u:=by
       rintro I h2 J ⟨rfl,_,hg⟩ U;refine Calls.mono (Li.calls Yr U ar E2 hn) fun x w' z=>?_;obtain ⟨u,rfl,ρ',q1,q2,q3⟩:=z;have an:(n+1) * 1≤(cs++sp).length:=by rw [l2];exact Nat.mul_le_mul_right _ J
       have hR:=Tv (sz:=1) ab an ai;rw [hB] at hR;refine ⟨u,rfl,Xe (q:=q) E hn hρ aq au (by rw [Aap ab an ai];exact l2) J l4 ?_ hR q1 q2 (fun x=>?_) q3⟩
       ·rw [hR];exact Bo (by simpa using Bn o1 0 (i * 1)) (Bo D (by
         have:=Bn o1 (i * 1) cs.length
         rwa [List.take_of_length_le (by rw [List.length_drop];omega)] at this))
       ·rw [hg]
        by_cases z:x=q
        ·rw [if_pos z,if_pos z]
        ·rw [if_neg z,if_neg z];show (h.m.set q _).get x=_;rw [Tr.get_set,if_neg z]
      have ae:∀ I D,n=c→InG ⟨h.m.set q (.cells (cs++sp) 3),h.nx⟩ n 3 1 i (cs++sp) new I D→FW Am 160 [.sl q 0 n c,.int .i64 i,.sl j 0 1 1] ⟨h.m.set q (.cells (cs++sp) 3),h.nx⟩=some (I,D) →
        Calls Tryz.prog 160 ((Value.slice (some ⟨b,0,none⟩) n c::r1)).toArray w fun x w'=>∃ u,x=.returned u∧∃ ρ',Aft ρ ρ' h.nx (h.nx+1)∧HR ρ' w0 G Lf ⟨(h.m.del q).set h.nx (.row (Gz i 1 cs new) (n+1) 3 1),h.nx+1⟩ w'∧VR ρ' (.sr h.nx 0 0 (n+1)) u:=by
       rintro I h2 J ⟨rfl,_,hg⟩ U;have a0:sp=[]:=by
        rw [List.length_append] at l2;exact List.eq_nil_of_length_eq_zero (by rw [J] at l1;omega)
       rw [a0,List.append_nil] at hg;refine Calls.mono (Li.calls Yr U ar E2 hn) fun x w' z=>?_;obtain ⟨u,rfl,ρ',q1,q2,q3⟩:=z;refine ⟨u,rfl,Xf (h:=h) (l:=[q]) (m2:=h.m.del q) hn av (E.del q).sup (fun x=>?_) (by simp;omega) q1 q2 hg q3⟩;rw [Tr.get_del]
       by_cases z:x=q
       ·rw [if_pos z,if_pos (by simp [z])]
       ·rw [if_neg z,if_neg (by simp [z]),Tr.get_set,if_neg z]
      rcases Nat.lt_or_ge i n with ao | a8
      ·rcases Nat.lt_or_ge n c with J | J
       ·obtain ⟨I,h2,U,hP⟩:=insI160 (h:=⟨h.m.set q (.cells (cs++sp) 3),h.nx⟩) gq gj aw ag l2 ao J ah rj D o2;exact ac I h2 J hP U
       ·have J:n=c:=tM;subst J;obtain ⟨I,h2,U,hP⟩:=insG160 (h:=⟨h.m.set q (.cells (cs++sp) 3),h.nx⟩) gq aq ay l2 ao ah rj D (by
         have:(cs++sp).take (n * 1)=cs++sp:=List.take_of_length_le (by rw [l2];exact Nat.le_refl _);rw [← this];exact o2)
        exact ae I h2 rfl hP U
      ·have ab:i=n:=tM;subst ab;obtain ⟨I,h2,U,hP⟩:=insE160 (h:=⟨h.m.set q (.cells (cs++sp) 3),h.nx⟩) gq l2 l3 ah rj D o2;rcases hP with ⟨J,hP⟩ | ⟨J,hP⟩
       ·exact ac I h2 J hP U
       ·exact ae I h2 J hP U
     ·cases z
    ·exact af _ i j new hv Z z fun e=>by subst e;exact insN160 Z D
    ·rename_i q;split at z
     ·rename_i rd aj;refine af _ i j new hv Z z fun e=>by
       subst e;have:rd=[]:=List.eq_nil_of_length_eq_zero (Dy aj);rw [this] at aj;exact insZ160 aj Z D
     ·cases z
    ·cases z
   ·cases z
  ·cases z
 ·cases z
theorem Aiv:Y.Ent Tryz.prog 77:=.mk' Tryz.func77 rfl rfl
theorem Aju {vs:List AV} {h h':H} {v:AV} (z:I8 50 2 vs h=some (v,h')) (ρ:Nm) (Lf:List Y.Res) (w:World) (us:List Value) (hv:VRs ρ vs us) (E:HR ρ w0 G Lf h w) (hn:Bt ρ h.nx) :
  Calls Tryz.prog 77 us.toArray w fun x w'=>∃ u,x=.returned u∧∃ ρ',Aft ρ ρ' h.nx h'.nx∧HR ρ' w0 G Lf h' w'∧VR ρ' v u:=by
 have af:∀ (s:AV) (i j:Nat) (new:List AV),VRs ρ [s,.int .i64 i,.sl j 0 1 1] us→h.read j 0 2=some new→Amx 50 2 i new h=some (v,h')→(i=0→Ans Am 77 [s,.int .i64 i,.sl j 0 1 1] h fun v h'=>v=.sr h.nx 0 0 1∧h.nx+1≤h'.nx∧∀ j,h'.m.get j=if j=h.nx then some (.row new 1 50 2) else h.m.get j)→Calls Tryz.prog 77 us.toArray w fun x w'=>∃ u,x=.returned u∧∃ ρ',Aft ρ ρ' h.nx h'.nx∧HR ρ' w0 G Lf h' w'∧VR ρ' v u:=by
  intro s i j new hv Z z ha;unfold Amx at z;split at z
  ·cases z;obtain ⟨I,D,U,rfl,_,hg⟩:=ha rfl;refine Calls.mono (Li.calls Aiv U hv E hn) fun x w' z=>?_;obtain ⟨u,rfl,ρ',q1,q2,q3⟩:=z;obtain ⟨_,_,ws,_,g1,_⟩:=E.read Z;exact ⟨u,rfl,Xf (l:=[]) hn ⟨ws,g1⟩ E.sup (fun j=>by simp) (by simp) q1 q2 hg q3⟩
  ·cases z
 unfold I8 at z;split at z
 ·rename_i s iv j;split at z
  ·rename_i i new hi Z;have hi:=Ge hi;subst hi;split at z
   ·rename_i D;simp only [Bool.and_eq_true] at D;obtain ⟨D,ax⟩:=D;split at z
    ·rename_i q n;unfold Awg at z;split at z
     ·rename_i cs hg O;cases z;simp only [Bool.and_eq_true,Bool.not_eq_true',Nat.ble_eq] at hg;obtain ⟨ab,ah,ap⟩:=hg;have ag:j≠q:=fun e=>by rw [e,Nat.beq_refl] at ap;cases ap
      have hq:h.m.get q=some (.row cs n 50 2):=by
       unfold Hg at O;split at O
       ·rename_i cs' k e' z' hq;split at O
        ·rename_i hb;cases O;simp only [Bool.and_eq_true,Nat.beq_eq] at hb;obtain ⟨rfl,rfl,rfl⟩:=hb;exact hq
        ·cases O
       ·cases O
      obtain ⟨u1,r1,rfl,⟨b,c,hρ,az,rfl⟩,a6⟩:=hv;rw [Nat.zero_add] at az;rw [Nat.sub_zero] at *;obtain ⟨sp,o1,l1,l2,l3,l4,E2⟩:=E.open hq hρ;have ar:VRs ρ [.sl q 0 n c,.int .i64 i,.sl j 0 1 1] (.slice (some ⟨b,0,none⟩) n c::r1):=⟨_,_,rfl,⟨l3,b,c,hρ,rfl⟩,a6⟩;have ai:new.length=2:=Dy Z;obtain ⟨kJ,am,aw⟩:∃ k,h.m.get j=some k∧k.flat:=by
       cases new with
       | nil=>cases ai
       | cons x l=>exact Auw Z ax
      have aq:=E.lt hn hq;have ay:=E.lt hn am;have gq:(h.m.set q (.cells (cs++sp) 50)).get q=some (.cells (cs++sp) 50):=by rw [Tr.get_set,if_pos rfl]
      have gj:(h.m.set q (.cells (cs++sp) 50)).get j=some kJ:=by rw [Tr.get_set,if_neg ag];exact am
      have rj:(⟨h.m.set q (.cells (cs++sp) 50),h.nx⟩:H).read j 0 2=some new:=(Us (h:=h) ag).trans Z;have hB:(cs++sp).take (n * 2)=cs:=List.take_left' l1;have o2:Af ((cs++sp).take (n * 2))=true:=by rw [hB];exact o1
      have aa:EX ρ (cs++sp):=by
       obtain ⟨b1,c1,r,_,vs,a7,_⟩:=E2.sup q _ gq;exact ⟨vs,a7⟩
      obtain ⟨_,_,ws,_,g1,_⟩:=E.read Z;have ak:EX ρ new:=⟨ws,g1⟩;have au:EX ρ (Nw (cs++sp) i n 2 new):=(aa.take _).app (ak.app (((aa.drop _).take _).app (aa.drop _)));have av:EX ρ (Gz i 2 cs new):=by
       have:EX ρ cs:=by rw [← hB];exact aa.take _
       exact (this.take _).app (ak.app (this.drop _))
      have ac:∀ I D,n+1≤c→InP ⟨h.m.set q (.cells (cs++sp) 50),h.nx⟩ q n c 50 2 i (cs++sp) 50 new I D→FW Am 77 [.sl q 0 n c,.int .i64 i,.sl j 0 1 1] ⟨h.m.set q (.cells (cs++sp) 50),h.nx⟩=some (I,D) →
        Calls Tryz.prog 77 ((Value.slice (some ⟨b,0,none⟩) n c::r1)).toArray w fun x w'=>∃ u,x=.returned u∧∃ ρ',Aft ρ ρ' h.nx (h.nx+1)∧HR ρ' w0 G Lf ⟨(h.m.del q).set h.nx (.row (Gz i 2 cs new) (n+1) 50 2),h.nx+1⟩ w'∧VR ρ' (.sr h.nx 0 0 (n+1)) u:=by
       rintro I h2 J ⟨rfl,_,hg⟩ U;refine Calls.mono (Li.calls Aiv U ar E2 hn) fun x w' z=>?_;obtain ⟨u,rfl,ρ',q1,q2,q3⟩:=z;have an:(n+1) * 2≤(cs++sp).length:=by rw [l2];exact Nat.mul_le_mul_right _ J
       have hR:=Tv (sz:=2) ab an ai;rw [hB] at hR;refine ⟨u,rfl,Xe (q:=q) E hn hρ aq au (by rw [Aap ab an ai];exact l2) J l4 ?_ hR q1 q2 (fun x=>?_) q3⟩
       ·rw [hR];exact Bo (by simpa using Bn o1 0 (i * 2)) (Bo D (by
         have:=Bn o1 (i * 2) cs.length
         rwa [List.take_of_length_le (by rw [List.length_drop];omega)] at this))
       ·rw [hg]
        by_cases z:x=q
        ·rw [if_pos z,if_pos z]
        ·rw [if_neg z,if_neg z];show (h.m.set q _).get x=_;rw [Tr.get_set,if_neg z]
      have ae:∀ I D,n=c→InG ⟨h.m.set q (.cells (cs++sp) 50),h.nx⟩ n 50 2 i (cs++sp) new I D→FW Am 77 [.sl q 0 n c,.int .i64 i,.sl j 0 1 1] ⟨h.m.set q (.cells (cs++sp) 50),h.nx⟩=some (I,D) →
        Calls Tryz.prog 77 ((Value.slice (some ⟨b,0,none⟩) n c::r1)).toArray w fun x w'=>∃ u,x=.returned u∧∃ ρ',Aft ρ ρ' h.nx (h.nx+1)∧HR ρ' w0 G Lf ⟨(h.m.del q).set h.nx (.row (Gz i 2 cs new) (n+1) 50 2),h.nx+1⟩ w'∧VR ρ' (.sr h.nx 0 0 (n+1)) u:=by
       rintro I h2 J ⟨rfl,_,hg⟩ U;have a0:sp=[]:=by
        rw [List.length_append] at l2;exact List.eq_nil_of_length_eq_zero (by rw [J] at l1;omega)
       rw [a0,List.append_nil] at hg;refine Calls.mono (Li.calls Aiv U ar E2 hn) fun x w' z=>?_;obtain ⟨u,rfl,ρ',q1,q2,q3⟩:=z;refine ⟨u,rfl,Xf (h:=h) (l:=[q]) (m2:=h.m.del q) hn av (E.del q).sup (fun x=>?_) (by simp;omega) q1 q2 hg q3⟩;rw [Tr.get_del]
       by_cases z:x=q
       ·rw [if_pos z,if_pos (by simp [z])]
       ·rw [if_neg z,if_neg (by simp [z]),Tr.get_set,if_neg z]
      rcases Nat.lt_or_ge i n with ao | a8
      ·rcases Nat.lt_or_ge n c with J | J
       ·obtain ⟨I,h2,U,hP⟩:=insI77 (h:=⟨h.m.set q (.cells (cs++sp) 50),h.nx⟩) gq gj aw ag l2 ao J ah rj D o2;exact ac I h2 J hP U
       ·have J:n=c:=tM;subst J;obtain ⟨I,h2,U,hP⟩:=insG77 (h:=⟨h.m.set q (.cells (cs++sp) 50),h.nx⟩) gq aq ay l2 ao ah rj D (by
         have:(cs++sp).take (n * 2)=cs++sp:=List.take_of_length_le (by rw [l2];exact Nat.le_refl _);rw [← this];exact o2)
        exact ae I h2 rfl hP U
      ·have ab:i=n:=tM;subst ab;obtain ⟨I,h2,U,hP⟩:=insE77 (h:=⟨h.m.set q (.cells (cs++sp) 50),h.nx⟩) gq l2 l3 ah rj D o2;rcases hP with ⟨J,hP⟩ | ⟨J,hP⟩
       ·exact ac I h2 J hP U
       ·exact ae I h2 J hP U
     ·cases z
    ·exact af _ i j new hv Z z fun e=>by subst e;exact insN77 Z D
    ·rename_i q;split at z
     ·rename_i rd aj;refine af _ i j new hv Z z fun e=>by
       subst e;have:rd=[]:=List.eq_nil_of_length_eq_zero (Dy aj);rw [this] at aj;exact insZ77 aj Z D
     ·cases z
    ·cases z
   ·cases z
  ·cases z
 ·cases z
theorem Aem:Y.Ent Tryz.prog 162:=.mk' Tryz.func162 rfl rfl
theorem Abv {vs:List AV} {h h':H} {v:AV} (D:Ow 3 1 [.int .i64 0] vs h=some (v,h')) (ρ:Nm) (Lf:List Y.Res) (w:World) (us:List Value) (hv:VRs ρ vs us) (E:HR ρ w0 G Lf h w) (hn:Bt ρ h.nx) :
  Calls Tryz.prog 162 us.toArray w fun x w'=>∃ u,x=.returned u∧∃ ρ',Aft ρ ρ' h.nx h'.nx∧HR ρ' w0 G Lf h' w'∧VR ρ' v u:=by
 have ag:∀ ρ,EX ρ [.int .i64 0]:=fun ρ=>⟨_,_,_,rfl,rfl,rfl⟩;unfold Ow at D;split at D
 ·rename_i s iv jv;split at D
  ·rename_i i j hi hj;have hi:=Ge hi;have hj:=Ge hj;subst hi hj;split at D
   ·rename_i ab;have ab:j=i+1:=Nat.eq_of_beq_eq_true ab;subst ab;split at D
    ·rename_i q n;unfold Axn at D;split at D
     ·rename_i cs O I;cases D;have aa:i+1≤n:=Nat.le_of_ble_eq_true O;have hq:h.m.get q=some (.row cs n 3 1):=by
       unfold Hg at I;split at I
       ·rename_i cs' k e' z' hq;split at I
        ·rename_i hb;cases I;simp only [Bool.and_eq_true,Nat.beq_eq] at hb;obtain ⟨rfl,rfl,rfl⟩:=hb;exact hq
        ·cases I
       ·cases I
      obtain ⟨u1,r1,rfl,⟨b,c,hρ,ak,rfl⟩,ae⟩:=hv;rw [Nat.zero_add] at ak;rw [Nat.sub_zero] at *;obtain ⟨sp,o1,l1,l2,l3,l4,E2⟩:=E.open hq hρ;have af:VRs ρ [.sl q 0 n c,.int .i64 i,.int .i64 (i+1:Nat)] (.slice (some ⟨b,0,none⟩) n c::r1):=⟨_,_,rfl,⟨l3,b,c,hρ,rfl⟩,ae⟩;have gq:(h.m.set q (.cells (cs++sp) 3)).get q=some (.cells (cs++sp) 3):=by rw [Tr.get_set,if_pos rfl]
      have hB:∀ x,x≤n * 1→(cs++sp).take x=cs.take x:=fun x D=>List.take_append_of_le_length (by rw [l1];exact D);have e3:(i+1) * 1+(n - (i+1)) * 1=n * 1:=by rw [← Nat.add_mul];congr 1;omega
      have hM:((cs++sp).drop ((i+1) * 1)).take ((n - (i+1)) * 1)=cs.drop ((i+1) * 1):=by
       rw [show (n - (i+1)) * 1=n * 1 - (i+1) * 1 by omega,← List.drop_take,hB _ (Nat.le_refl _),List.take_of_length_le tM]
      have Z:EX ρ (cs++sp):=by
       obtain ⟨b1,c1,r,_,vs,J,_⟩:=E2.sup q _ gq;exact ⟨vs,J⟩
      have am:n * 1≤c * 1:=Nat.mul_le_mul_right _ l3;have o3:Af (cs.drop ((i+1) * 1))=true:=by
       have:=Bn o1 ((i+1) * 1) cs.length
       rwa [List.take_of_length_le (by rw [List.length_drop];omega)] at this
      obtain ⟨v1,h2,e1,rfl,_,O⟩:=Aja (h:=⟨h.m.set q (.cells (cs++sp) 3),h.nx⟩) (o:=0) (n:=n) (c:=c) (i:=i) gq trivial rfl (by show 0+n * 1≤(cs++sp).length;omega) aa l3 (by rw [Nat.zero_add];show Af (((cs++sp).drop _).take _)=true;rw [hM];exact o3);refine Calls.mono (Li.calls Aem e1 af E2 hn) fun x w' D=>?_;obtain ⟨u,rfl,ρ',q1,q2,q3⟩:=D;have ai:(Blk.cells (cs++sp) 3).cs=cs++sp:=rfl;simp only [Nat.zero_add,ai] at O;rw [hM] at O;have lR:(cs.take (i * 1)++cs.drop ((i+1) * 1)).length=(n - 1) * 1:=by
       rw [List.length_append,List.length_take,List.length_drop];obtain ⟨m,rfl⟩:∃ m,n=i+1+m:=⟨n - (i+1),tM⟩;rw [show i+1+m - 1=i+m by omega];omega
      refine ⟨u,rfl,Xe (q:=q) (B':=(cs++sp).take (i * 1)++(cs.drop ((i+1) * 1)++([.int .i64 0]++(cs++sp).drop (n * 1)))) E hn hρ (E.lt hn hq) ((Z.take _).app (EX.app ?_ ((ag ρ).app (Z.drop _)))) ?_ tM l4 ?_ ?_ q1 q2 (fun x=>?_) q3⟩
      ·rw [← hM];exact (Z.drop _).take _
      ·rw [List.length_append,List.length_append,List.length_append,List.length_take,List.length_drop,List.length_drop,l2];simp only [List.length_cons,List.length_nil];omega
      ·rw [hB _ tM,← List.append_assoc,List.take_left' lR];exact Bo (by simpa using Bn o1 0 (i * 1)) o3
      ·rw [hB _ tM,← List.append_assoc,List.take_left' lR]
      ·rw [O]
       by_cases D:x=q
       ·rw [if_pos D,if_pos D];rfl
       ·rw [if_neg D,if_neg D];show (h.m.set q _).get x=_;rw [Tr.get_set,if_neg D]
     ·cases D
    ·rename_i q o n c;unfold delS at D;split at D
     ·rename_i cs O ac;have aa:i+1≤n:=Nat.le_of_ble_eq_true O;have an:=Dy ac;split at D
      ·rename_i h2 hput;obtain ⟨k,hk,hf⟩:=Z3 hput;cases D;have ah:h.read q o (n * 1)=Aq o (n * 1) k.cs:=by unfold H.read;rw [hk]
       rw [ah] at ac;obtain ⟨hl,rfl⟩:=Cv ac;obtain ⟨u1,r1,rfl,⟨hc,b,d,hρ,rfl⟩,ae⟩:=hv;have af:VRs ρ [.sl q o n c,.int .i64 i,.int .i64 (i+1:Nat)] (.slice (some ⟨b,o,none⟩) n c::r1):=⟨_,_,rfl,⟨hc,b,d,hρ,rfl⟩,ae⟩;have e3:(i+1) * 1+(n - (i+1)) * 1=n * 1:=by rw [← Nat.add_mul];congr 1;omega
       have hT:((k.cs.drop o).take (n * 1)).take (i * 1)=(k.cs.drop o).take (i * 1):=by rw [List.take_take,Nat.min_eq_left tM]
       have hM:((k.cs.drop o).take (n * 1)).drop ((i+1) * 1)=(k.cs.drop (o+(i+1) * 1)).take ((n - (i+1)) * 1):=by
        rw [List.drop_take,List.drop_drop];congr 1;omega
       rw [hT,hM] at hput;have U:Af ((k.cs.drop o).take (i * 1)++((k.cs.drop (o+(i+1) * 1)).take ((n - (i+1)) * 1)++([.int .i64 0]:List AV)))=true:=by
        unfold H.put at hput;split at hput
        ·rename_i h3;exact h3
        ·cases hput
       have o3:=(El (El U).2).1;have lN:((k.cs.drop o).take (i * 1)++((k.cs.drop (o+(i+1) * 1)).take ((n - (i+1)) * 1)++([.int .i64 0]:List AV))).length=n * 1:=by
        rw [List.length_append,List.length_append,List.length_take,List.length_take,List.length_drop,List.length_drop];simp only [List.length_cons,List.length_nil];omega
       rw [_root_.Go.V.hput hk hf rfl (by rw [lN];exact hl) U,lN] at hput;cases hput;have hX:EX ρ k.cs:=by
        obtain ⟨b,c,r,e1,e2⟩:=E.sup q k hk;cases k with
        | cells cs t=>obtain ⟨vs,J,_⟩:=e2;exact ⟨vs,J⟩
        | row cs n t z=>obtain ⟨vs,J,_⟩:=e2;exact ⟨vs,J⟩
        | mapb=>exact hf.elim
        | fix=>exact hf.elim
       obtain ⟨v1,h2,e1,rfl,_,O⟩:=Aja (h:=h) (o:=o) (n:=n) (c:=c) (i:=i) hk hf rfl hl aa hc o3;refine Calls.mono (Li.calls Aem e1 af E hn) fun x w' D=>?_;obtain ⟨u,rfl,ρ',q1,q2,q3⟩:=D;have aj:k.cs.take (o+i * 1)++((k.cs.drop (o+(i+1) * 1)).take ((n - (i+1)) * 1)++(([.int .i64 0]:List AV)++k.cs.drop (o+n * 1)))=k.cs.take o++((k.cs.drop o).take (i * 1)++((k.cs.drop (o+(i+1) * 1)).take ((n - (i+1)) * 1)++([.int .i64 0]:List AV))++k.cs.drop (o+n * 1)):=by
        rw [List.take_add];simp only [List.append_assoc]
       rw [aj] at O;exact ⟨u,rfl,fin_s E hn hk hf ((hX.take _).app ((((hX.drop _).take _).app (((hX.drop _).take _).app (ag ρ))).app (hX.drop _))) q1 q2 O ⟨_,Nat.le_trans (Nat.sub_le _ _) hc,b,d,hρ,rfl⟩ q3⟩
      ·cases D
     ·cases D
    ·cases D
   ·cases D
  ·cases D
 ·cases D
theorem Ael:Y.Ent Tryz.prog 183:=.mk' Tryz.func183 rfl rfl
theorem Abu {vs:List AV} {h h':H} {v:AV} (D:Ow 50 2 [.int .u32 0,.int .u32 0] vs h=some (v,h')) (ρ:Nm) (Lf:List Y.Res) (w:World) (us:List Value) (hv:VRs ρ vs us) (E:HR ρ w0 G Lf h w) (hn:Bt ρ h.nx) :
  Calls Tryz.prog 183 us.toArray w fun x w'=>∃ u,x=.returned u∧∃ ρ',Aft ρ ρ' h.nx h'.nx∧HR ρ' w0 G Lf h' w'∧VR ρ' v u:=by
 have ag:∀ ρ,EX ρ [.int .u32 0,.int .u32 0]:=fun ρ=>⟨_,_,_,rfl,rfl,_,_,rfl,rfl,rfl⟩;unfold Ow at D;split at D
 ·rename_i s iv jv;split at D
  ·rename_i i j hi hj;have hi:=Ge hi;have hj:=Ge hj;subst hi hj;split at D
   ·rename_i ab;have ab:j=i+1:=Nat.eq_of_beq_eq_true ab;subst ab;split at D
    ·rename_i q n;unfold Axn at D;split at D
     ·rename_i cs O I;cases D;have aa:i+1≤n:=Nat.le_of_ble_eq_true O;have hq:h.m.get q=some (.row cs n 50 2):=by
       unfold Hg at I;split at I
       ·rename_i cs' k e' z' hq;split at I
        ·rename_i hb;cases I;simp only [Bool.and_eq_true,Nat.beq_eq] at hb;obtain ⟨rfl,rfl,rfl⟩:=hb;exact hq
        ·cases I
       ·cases I
      obtain ⟨u1,r1,rfl,⟨b,c,hρ,ak,rfl⟩,ae⟩:=hv;rw [Nat.zero_add] at ak;rw [Nat.sub_zero] at *;obtain ⟨sp,o1,l1,l2,l3,l4,E2⟩:=E.open hq hρ;have af:VRs ρ [.sl q 0 n c,.int .i64 i,.int .i64 (i+1:Nat)] (.slice (some ⟨b,0,none⟩) n c::r1):=⟨_,_,rfl,⟨l3,b,c,hρ,rfl⟩,ae⟩;have gq:(h.m.set q (.cells (cs++sp) 50)).get q=some (.cells (cs++sp) 50):=by rw [Tr.get_set,if_pos rfl]
      have hB:∀ x,x≤n * 2→(cs++sp).take x=cs.take x:=fun x D=>List.take_append_of_le_length (by rw [l1];exact D);have e3:(i+1) * 2+(n - (i+1)) * 2=n * 2:=by rw [← Nat.add_mul];congr 1;omega
      have hM:((cs++sp).drop ((i+1) * 2)).take ((n - (i+1)) * 2)=cs.drop ((i+1) * 2):=by
       rw [show (n - (i+1)) * 2=n * 2 - (i+1) * 2 by omega,← List.drop_take,hB _ (Nat.le_refl _),List.take_of_length_le tM]
      have Z:EX ρ (cs++sp):=by
       obtain ⟨b1,c1,r,_,vs,J,_⟩:=E2.sup q _ gq;exact ⟨vs,J⟩
      have am:n * 2≤c * 2:=Nat.mul_le_mul_right _ l3;have o3:Af (cs.drop ((i+1) * 2))=true:=by
       have:=Bn o1 ((i+1) * 2) cs.length
       rwa [List.take_of_length_le (by rw [List.length_drop];omega)] at this
      obtain ⟨v1,h2,e1,rfl,_,O⟩:=Aiz (h:=⟨h.m.set q (.cells (cs++sp) 50),h.nx⟩) (o:=0) (n:=n) (c:=c) (i:=i) gq trivial rfl (by show 0+n * 2≤(cs++sp).length;omega) aa l3 (by rw [Nat.zero_add];show Af (((cs++sp).drop _).take _)=true;rw [hM];exact o3);refine Calls.mono (Li.calls Ael e1 af E2 hn) fun x w' D=>?_;obtain ⟨u,rfl,ρ',q1,q2,q3⟩:=D;have ai:(Blk.cells (cs++sp) 50).cs=cs++sp:=rfl;simp only [Nat.zero_add,ai] at O;rw [hM] at O;have lR:(cs.take (i * 2)++cs.drop ((i+1) * 2)).length=(n - 1) * 2:=by
       rw [List.length_append,List.length_take,List.length_drop];obtain ⟨m,rfl⟩:∃ m,n=i+1+m:=⟨n - (i+1),tM⟩;rw [show i+1+m - 1=i+m by omega];omega
      refine ⟨u,rfl,Xe (q:=q) (B':=(cs++sp).take (i * 2)++(cs.drop ((i+1) * 2)++([.int .u32 0,.int .u32 0]++(cs++sp).drop (n * 2)))) E hn hρ (E.lt hn hq) ((Z.take _).app (EX.app ?_ ((ag ρ).app (Z.drop _)))) ?_ tM l4 ?_ ?_ q1 q2 (fun x=>?_) q3⟩
      ·rw [← hM];exact (Z.drop _).take _
      ·rw [List.length_append,List.length_append,List.length_append,List.length_take,List.length_drop,List.length_drop,l2];simp only [List.length_cons,List.length_nil];omega
      ·rw [hB _ tM,← List.append_assoc,List.take_left' lR];exact Bo (by simpa using Bn o1 0 (i * 2)) o3
      ·rw [hB _ tM,← List.append_assoc,List.take_left' lR]
      ·rw [O]
       by_cases D:x=q
       ·rw [if_pos D,if_pos D];rfl
       ·rw [if_neg D,if_neg D];show (h.m.set q _).get x=_;rw [Tr.get_set,if_neg D]
     ·cases D
    ·rename_i q o n c;unfold delS at D;split at D
     ·rename_i cs O ac;have aa:i+1≤n:=Nat.le_of_ble_eq_true O;have an:=Dy ac;split at D
      ·rename_i h2 hput;obtain ⟨k,hk,hf⟩:=Z3 hput;cases D;have ah:h.read q o (n * 2)=Aq o (n * 2) k.cs:=by unfold H.read;rw [hk]
       rw [ah] at ac;obtain ⟨hl,rfl⟩:=Cv ac;obtain ⟨u1,r1,rfl,⟨hc,b,d,hρ,rfl⟩,ae⟩:=hv;have af:VRs ρ [.sl q o n c,.int .i64 i,.int .i64 (i+1:Nat)] (.slice (some ⟨b,o,none⟩) n c::r1):=⟨_,_,rfl,⟨hc,b,d,hρ,rfl⟩,ae⟩;have e3:(i+1) * 2+(n - (i+1)) * 2=n * 2:=by rw [← Nat.add_mul];congr 1;omega
       have hT:((k.cs.drop o).take (n * 2)).take (i * 2)=(k.cs.drop o).take (i * 2):=by rw [List.take_take,Nat.min_eq_left tM]
       have hM:((k.cs.drop o).take (n * 2)).drop ((i+1) * 2)=(k.cs.drop (o+(i+1) * 2)).take ((n - (i+1)) * 2):=by
        rw [List.drop_take,List.drop_drop];congr 1;omega
       rw [hT,hM] at hput;have U:Af ((k.cs.drop o).take (i * 2)++((k.cs.drop (o+(i+1) * 2)).take ((n - (i+1)) * 2)++([.int .u32 0,.int .u32 0]:List AV)))=true:=by
        unfold H.put at hput;split at hput
        ·rename_i h3;exact h3
        ·cases hput
       have o3:=(El (El U).2).1;have lN:((k.cs.drop o).take (i * 2)++((k.cs.drop (o+(i+1) * 2)).take ((n - (i+1)) * 2)++([.int .u32 0,.int .u32 0]:List AV))).length=n * 2:=by
        rw [List.length_append,List.length_append,List.length_take,List.length_take,List.length_drop,List.length_drop];simp only [List.length_cons,List.length_nil];omega
       rw [_root_.Go.V.hput hk hf rfl (by rw [lN];exact hl) U,lN] at hput;cases hput;have hX:EX ρ k.cs:=by
        obtain ⟨b,c,r,e1,e2⟩:=E.sup q k hk;cases k with
        | cells cs t=>obtain ⟨vs,J,_⟩:=e2;exact ⟨vs,J⟩
        | row cs n t z=>obtain ⟨vs,J,_⟩:=e2;exact ⟨vs,J⟩
        | mapb=>exact hf.elim
        | fix=>exact hf.elim
       obtain ⟨v1,h2,e1,rfl,_,O⟩:=Aiz (h:=h) (o:=o) (n:=n) (c:=c) (i:=i) hk hf rfl hl aa hc o3;refine Calls.mono (Li.calls Ael e1 af E hn) fun x w' D=>?_;obtain ⟨u,rfl,ρ',q1,q2,q3⟩:=D;have aj:k.cs.take (o+i * 2)++((k.cs.drop (o+(i+1) * 2)).take ((n - (i+1)) * 2)++(([.int .u32 0,.int .u32 0]:List AV)++k.cs.drop (o+n * 2)))=k.cs.take o++((k.cs.drop o).take (i * 2)++((k.cs.drop (o+(i+1) * 2)).take ((n - (i+1)) * 2)++([.int .u32 0,.int .u32 0]:List AV))++k.cs.drop (o+n * 2)):=by
        rw [List.take_add];simp only [List.append_assoc]
       rw [aj] at O;exact ⟨u,rfl,fin_s E hn hk hf ((hX.take _).app ((((hX.drop _).take _).app (((hX.drop _).take _).app (ag ρ))).app (hX.drop _))) q1 q2 O ⟨_,Nat.le_trans (Nat.sub_le _ _) hc,b,d,hρ,rfl⟩ q3⟩
      ·cases D
     ·cases D
    ·cases D
   ·cases D
  ·cases D
 ·cases D
end
end Go.V
