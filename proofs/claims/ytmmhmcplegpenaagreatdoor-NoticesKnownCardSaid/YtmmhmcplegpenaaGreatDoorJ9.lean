/- Own lemmas and walks. -/
import Derived.Test.YtmmhmcplegpenaaGreatDoorJ5
import Derived.Test.YtmmhmcplegpenaaGreatDoorJ8
import Derived.Test.YtmmhmcplegpenaaGreatDoorJ7
set_option linter.unusedSimpArgs false
set_option linter.unusedVariables false
set_option maxRecDepth 10000
set_option maxHeartbeats 1600000
open Go.Value renaming slice→vS,string→vT,int→vI,bool→vB,pointer→vP
open Go.IntKind renaming i64→kI,u64→kU
open Go.Lib renaming cut→xC
open Go.Proofs.Tryz renaming prog→pG
open Go.Y.Res renaming blk→rB,row→rR
open Go.Y (pP qT iI iB iU sN)
open List renaming length_append→lA,length_cons→lC,length_nil→lN,length_take→lT,length_drop→lD,mem_of_getElem?→mG,mem_cons→mC,length_map→lM
namespace Go.Proofs.YtmmhmcplegpenaaGreatDoor
open Go Go.Y
def B8 (c:RulesD) (x:ItemD):EntD:=⟨x,Dt c x,false⟩
def Ay (a n m:Int):Prop:=(0≤a∧a≤m)∧(0≤n∧n≤m - a)
instance (a n m:Int):Decidable (Ay a n m):=by unfold Ay;infer_instance
def Kx (xs:List ItemD) (k:Nat):Prop:=∃ y∈xs,y.key=k
theorem Mo.has {xs:List ItemD} {k:Nat} {z:Int} (h:Mo xs k z):0≤z↔Kx xs k:=by
 rcases h with ⟨rfl,h⟩ | ⟨i,x,rfl,D,A,I⟩
 ·exact ⟨fun A=>by omega,fun ⟨y,H,E⟩=>absurd E (h y H)⟩
 exact ⟨fun _=>⟨x,mG D,A⟩,fun _=>by omega⟩
noncomputable def Qc (c:RulesD) (l:List EntD) (xs:List ItemD) (i:Nat):Int:=match xs[i]? with
 | some x=>E7 c x (Dj l x.key∨Kx (xs.take i) x.key)
 | none=>0
theorem Q0 {c:RulesD} {l:List EntD} {xs:List ItemD} {i:Nat} {x:ItemD} (h:xs[i]?=some x):Qc c l xs i=E7 c x (Dj l x.key∨Kx (xs.take i) x.key):=by unfold Qc;rw [h]
noncomputable def Nv (c:RulesD) (l:List EntD) (xs:List ItemD):Int:=Bv (Qc c l xs) xs.length
theorem inc_hit {c:RulesD} {l:List EntD} {xs:List ItemD} {i:Nat} {x:ItemD} {z:Int} (h:Bv (Qc c l xs) i=0) (A:xs[i]?=some x) (D:E7 c x (Dj l x.key∨Kx (xs.take i) x.key)=z) (E:z≠0):Nv c l xs=z:=by
 have H:Qc c l xs i≠0:=by rw [Q0 A,D];exact E
 unfold Nv;rw [Kz h (A3 A) H,Q0 A,D]
theorem inc_end {c:RulesD} {l:List EntD} {xs:List ItemD} {i:Nat} (h:Bv (Qc c l xs) i=0) (A:xs.length≤i):Nv c l xs=0:=Ds.2 fun j D=>Ds.1 h j tM
theorem Ts {f:Nat→Int} (h:∀ i,0≤f i):∀ n,0≤Bv f n
 | 0=>Int.le_refl _
 | n+1=>by simp only [Bv];split;exact h n;exact Ts h n
theorem Azn {c:RulesD} {l:List EntD} {xs:List ItemD}:0≤Nv c l xs:=Ts (fun i=>by unfold Qc;split;exact Xq;decide) _
def C1 (l:List EntD) (p n:Nat) (fr:List EntD):List EntD:=l.take p++fr++l.drop (p+n)
open Classical in
noncomputable def Gy (c:RulesD) (l:List EntD) (a:Int) (xs:List ItemD):List EntD × Int :=
 if ¬ Ay a 0 l.length then ([],4) else if 1024 < l.length+xs.length then ([],3) else if Nv c l xs≠0 then ([],Nv c l xs)
 else if Dp (C1 l a.toNat 0 (xs.map (B8 c)))≠0 then ([],13) else (C1 l a.toNat 0 (xs.map (B8 c)),0)
section
variable {c:RulesD} {l:List EntD} {a:Int} {xs:List ItemD} {p:Nat}
theorem Aan (h:¬ Ay a 0 l.length):Gy c l a xs=([],4):=by unfold Gy;rw [if_pos h]
theorem Aow (h:Ay a 0 l.length) (A:1024 < l.length+xs.length):Gy c l a xs=([],3):=by unfold Gy;rw [if_neg (not_not_intro h),if_pos A]
theorem Aov (h:Ay a 0 l.length) (A:¬ 1024 < l.length+xs.length) (D:Nv c l xs≠0):Gy c l a xs=([],Nv c l xs):=by unfold Gy;rw [if_neg (not_not_intro h),if_neg A,if_pos D]
theorem Adt (h:Ay a 0 l.length) (A:¬ 1024 < l.length+xs.length) (D:Nv c l xs=0) (E:Dp (C1 l a.toNat 0 (xs.map (B8 c)))≠0):Gy c l a xs=([],13):=by
 unfold Gy;rw [if_neg (not_not_intro h),if_neg A,if_neg (not_not_intro D),if_pos E]
theorem Aao (h:Ay a 0 l.length) (A:¬ 1024 < l.length+xs.length) (D:Nv c l xs=0) (E:Dp (C1 l a.toNat 0 (xs.map (B8 c)))=0):Gy c l a xs=(C1 l a.toNat 0 (xs.map (B8 c)),0):=by
 unfold Gy;rw [if_neg (not_not_intro h),if_neg A,if_neg (not_not_intro D),if_neg (not_not_intro E)]
end
def M9 (l:List EntD) (a n:Int):List EntD × Int:=if Ay a n l.length then (C1 l a.toNat n.toNat [],0) else ([],4)
theorem Amq {l:List EntD} {a n:Int} (h:¬ Ay a n l.length):M9 l a n=([],4):=by unfold M9;rw [if_neg h]
theorem Zw {l:List EntD} {a n:Int} (h:Ay a n l.length):M9 l a n=(C1 l a.toNat n.toNat [],0):=by unfold M9;rw [if_pos h]
def R0 (l:List EntD) (p n q:Nat):List EntD:=C1 (C1 l p n []) q 0 ((l.drop p).take n)
def Iv (l:List EntD) (a n b:Int):List EntD × Int:=if Ay a n l.length∧Ay b 0 (l.length - n) then (R0 l a.toNat n.toNat b.toNat,0) else ([],4)
theorem Aoi {l:List EntD} {a n b:Int} (h:¬ (Ay a n l.length∧Ay b 0 (l.length - n))):Iv l a n b=([],4):=by unfold Iv;rw [if_neg h]
theorem Agu {l:List EntD} {a n b:Int} (h:Ay a n l.length∧Ay b 0 (l.length - n)):Iv l a n b=(R0 l a.toNat n.toNat b.toNat,0):=by unfold Iv;rw [if_pos h]
open Classical in
noncomputable def Q3 (c:RulesD) (x:ItemD) (other:Prop):Int:=if ¬ ItemOk (c.kZ.length:Int) x then 6 else if other then 9 else if Hz c x=0 then 0 else 14
section
variable {c:RulesD} {x:ItemD} {other:Prop}
theorem Alw (h:¬ ItemOk (c.kZ.length:Int) x):Q3 c x other=6:=by unfold Q3;rw [if_pos h]
theorem Alv (h:ItemOk (c.kZ.length:Int) x) (A:other):Q3 c x other=9:=by unfold Q3;rw [if_neg (not_not_intro h),if_pos A]
theorem Aei (h:ItemOk (c.kZ.length:Int) x) (A:¬ other) (D:¬ Hz c x=0):Q3 c x other=14:=by unfold Q3;rw [if_neg (not_not_intro h),if_neg A,if_neg D]
theorem A1z (h:ItemOk (c.kZ.length:Int) x) (A:¬ other) (D:Hz c x=0):Q3 c x other=0:=by unfold Q3;rw [if_neg (not_not_intro h),if_neg A,if_pos D]
theorem Avb:Q3 c x other=0↔ItemOk (c.kZ.length:Int) x∧¬ other∧Hz c x=0:=by
 unfold Q3
 split
 ·rename_i h;exact ⟨fun A=>(by cases A),fun A=>absurd A.1 h⟩
 rename_i h
 split
 ·rename_i D;exact ⟨fun A=>(by cases A),fun A=>absurd D A.2.1⟩
 rename_i D
 split
 ·rename_i A;exact ⟨fun _=>⟨Classical.byContradiction h,D,A⟩,fun _=>rfl⟩
 rename_i A;exact ⟨fun E=>(by cases E),fun E=>absurd E.2.2 A⟩
end
def Qs (l:List EntD) (p:Nat) (k:Nat):Prop:=∀ y,l[p]?=some y→y.item.key≠k
noncomputable def Js (c:RulesD) (l:List EntD) (p:Nat) (xs:List ItemD) (i:Nat):Int:=match xs[i]? with
 | some x=>Q3 c x (Qs l (p+i) x.key)
 | none=>0
theorem Ye {c:RulesD} {l:List EntD} {p:Nat} {xs:List ItemD} {i:Nat} {x:ItemD} (h:xs[i]?=some x):Js c l p xs i=Q3 c x (Qs l (p+i) x.key):=by unfold Js;rw [h]
open Classical in
noncomputable def Jw (c:RulesD) (l:List EntD) (a:Int) (xs:List ItemD):List EntD × Int :=
 if ¬ Ay a xs.length l.length then ([],4) else if Bv (Js c l a.toNat xs) xs.length≠0 then ([],Bv (Js c l a.toNat xs) xs.length)
 else if Dp (C1 l a.toNat xs.length (xs.map (B8 c)))≠0 then ([],13) else (C1 l a.toNat xs.length (xs.map (B8 c)),0)
section
variable {c:RulesD} {l:List EntD} {a:Int} {xs:List ItemD} {i:Nat} {x:ItemD}
theorem Apu (h:¬ Ay a xs.length l.length):Jw c l a xs=([],4):=by unfold Jw;rw [if_pos h]
theorem Aba {z:Int} (h:Ay a xs.length l.length) (N:Bv (Js c l a.toNat xs) i=0) (D:xs[i]?=some x) (H:Q3 c x (Qs l (a.toNat+i) x.key)=z) (E:z≠0):Jw c l a xs=([],z):=by
 have I:Js c l a.toNat xs i≠0:=by rw [Ye D,H];exact E
 have A:=Kz N (A3 D) I;rw [Ye D,H] at A;unfold Jw;rw [if_neg (not_not_intro h),if_pos (by rw [A];exact E),A]
theorem Aeh (h:Ay a xs.length l.length) (A:Bv (Js c l a.toNat xs) xs.length=0) (D:Dp (C1 l a.toNat xs.length (xs.map (B8 c)))≠0):Jw c l a xs=([],13):=by
 unfold Jw;rw [if_neg (not_not_intro h),if_neg (not_not_intro A),if_pos D]
theorem Apv (h:Ay a xs.length l.length) (A:Bv (Js c l a.toNat xs) xs.length=0) (D:Dp (C1 l a.toNat xs.length (xs.map (B8 c)))=0):Jw c l a xs=(C1 l a.toNat xs.length (xs.map (B8 c)),0):=by
 unfold Jw;rw [if_neg (not_not_intro h),if_neg (not_not_intro A),if_neg (not_not_intro D)]
theorem chg_ok {p:Nat} (A:Bv (Js c l p xs) i=0) (D:xs[i]?=some x) (E:Q3 c x (Qs l (p+i) x.key)=0):Bv (Js c l p xs) (i+1)=0:=by rw [F9 A,Ye D,E]
end
def K4 (l:List EntD) (p:Nat) (fr:List EntD) (i:Nat):List EntD:=(l.take i).take p++(if p < i then fr else [])++(l.take i).drop p
theorem Aap (l:List EntD) (p:Nat) (fr:List EntD):K4 l p fr 0=[]:=by simp [K4]
theorem Mb {l:List EntD} {i:Nat} {x:EntD} (h:l[i]?=some x):l.take (i+1)=l.take i++[x]:=by rw [List.take_add_one,h];rfl
theorem H1 {l:List EntD} {fr:List EntD} {i p:Nat} {x:EntD} (h:l[i]?=some x) (A:i=p):K4 l p fr i++fr++[x]=K4 l p fr (i+1):=by
 subst A;have D:(l.take i).length=i:=by rw [lT];have:=A3 h;omega
 unfold K4;rw [Mb h,if_neg (Nat.lt_irrefl i),if_pos (Nat.lt_succ_self i),List.take_append_of_le_length tM,List.drop_append_of_le_length tM]
 simp
theorem Gf {l:List EntD} {p:Nat} {fr:List EntD} {i:Nat} {x:EntD} (h:l[i]?=some x) (S:i≠p):K4 l p fr i++[x]=K4 l p fr (i+1):=by
 have O:(l.take i).length=i:=by rw [lT];have:=A3 h;omega
 unfold K4;rw [Mb h]
 rcases Nat.lt_or_ge p i with A | A
 ·rw [if_pos A,if_pos tM,List.take_append_of_le_length tM,List.drop_append_of_le_length tM]
  simp
 have N:i < p:=by omega
 have D:(l.take i).take p=l.take i:=List.take_of_length_le tM;have E:(l.take i++[x]).take p=l.take i++[x]:=List.take_of_length_le (by simp;omega);have H:(l.take i).drop p=[]:=List.drop_eq_nil_of_le tM;have I:(l.take i++[x]).drop p=[]:=List.drop_eq_nil_of_le (by simp;omega);rw [if_neg tM,if_neg tM,D,E,H,I]
 simp
theorem Ahk {l:List EntD} {p:Nat} {fr:List EntD} {i:Nat} (D:p≤l.length) (A:l.length < i):K4 l p fr i=C1 l p 0 fr:=by
 unfold K4 C1;rw [List.take_of_length_le (show l.length≤i by omega),if_pos tM,Nat.add_zero]
theorem F6 {l:List EntD} {p:Nat} {fr:List EntD} {i:Nat} (D:i=l.length) (A:i=p):K4 l p fr i++fr=K4 l p fr (i+1):=by
 subst A;unfold K4;rw [List.take_of_length_le (show l.length≤i by omega),List.take_of_length_le (show l.length≤i+1 by omega),if_neg (Nat.lt_irrefl i),if_pos (Nat.lt_succ_self i),List.drop_eq_nil_of_le tM]
 simp
theorem Ed {l:List EntD} {p:Nat} {fr:List EntD} {i:Nat} (D:i=l.length) (E:i≠p) (A:p≤l.length):K4 l p fr i=K4 l p fr (i+1):=by
 unfold K4;rw [List.take_of_length_le (show l.length≤i by omega),List.take_of_length_le (show l.length≤i+1 by omega),if_pos tM,if_pos tM]
def Wl (l:List EntD) (p n i:Nat):List EntD:=(l.take i).take p++(l.take i).drop (p+n)
theorem Arb (l:List EntD) (p n:Nat):Wl l p n 0=[]:=by simp [Wl]
theorem Amr {l:List EntD} {p n i:Nat} {x:EntD} (h:l[i]?=some x) (N:i < p∨p+n≤i):Wl l p n i++[x]=Wl l p n (i+1):=by
 have O:(l.take i).length=i:=by rw [lT];have:=A3 h;omega
 unfold Wl;rw [Mb h]
 rcases N with I | I
 ·have A:(l.take i).take p=l.take i:=List.take_of_length_le tM;have D:(l.take i++[x]).take p=l.take i++[x]:=List.take_of_length_le (by simp;omega);have E:(l.take i).drop (p+n)=[]:=List.drop_eq_nil_of_le tM;have H:(l.take i++[x]).drop (p+n)=[]:=List.drop_eq_nil_of_le (by simp;omega);rw [A,D,E,H]
  simp
 rw [List.take_append_of_le_length tM,List.drop_append_of_le_length tM]
 simp
theorem Axb {l:List EntD} {p n i:Nat} {x:EntD} (h:l[i]?=some x) (A:p≤i) (D:i < p+n):Wl l p n i=Wl l p n (i+1):=by
 have E:(l.take i).length=i:=by rw [lT];have:=A3 h;omega
 unfold Wl;rw [Mb h,List.take_append_of_le_length tM,List.drop_eq_nil_of_le tM,List.drop_eq_nil_of_le (by simp;omega)]
theorem Axc {l:List EntD} {p n i:Nat} (A:l.length≤i):Wl l p n i=C1 l p n []:=by
 unfold Wl C1;rw [List.take_of_length_le A];simp
theorem Ava {l:List EntD} {p i:Nat} {fr:List EntD} {x:EntD} (A:fr[i]?=some x) (O:p+fr.length≤l.length):(C1 l p i (fr.take i)).set (p+i) x=C1 l p (i+1) (fr.take (i+1)):=by
 have N:=A3 A;unfold C1;rw [Mb A];have D:(l.take p).length=p:=by rw [lT];omega
 have E:(fr.take i).length=i:=by rw [lT];omega
 rw [List.set_append_right _ _ (by simp;omega)];have H:p+i - (l.take p++fr.take i).length=0:=by rw [lA,D,E];omega
 have I:l.drop (p+i)=l[p+i]' tM ::l.drop (p+(i+1)):=by rw [List.drop_eq_getElem_cons tM];rfl
 rw [H,I,List.set_cons_zero]
 simp
theorem Auz (l:List EntD) (p:Nat):C1 l p 0 []=l:=by unfold C1;simp
theorem Kp {l:List EntD} {p n:Nat} {fr:List EntD} (h:p+n≤l.length):(C1 l p n fr).length=l.length - n+fr.length:=by
 unfold C1;simp;omega
theorem Mh {l:List EntD} {p n:Nat} (h:p+n≤l.length):(C1 l p n []).length=l.length - n:=by rw [Kp h];simp
open Go Go.Y Go.Proofs
variable {w0 w:World} {G:Av} {L:List Res}
theorem Vd {p q:Prop} [Decidable p] [Decidable q] (h:p↔q):(if p then (1:Int) else 0)=if q then 1 else 0:=by
 by_cases hp:p
 ·rw [if_pos hp,if_pos (h.1 hp)]
 rw [if_neg hp,if_neg (fun A=>hp (h.2 A))]
theorem Ads {b:Bool}:(if b=true then (1:Int) else 0)=1↔b=true:=by
 split
 ·rename_i h;exact ⟨fun _=>h,fun _=>rfl⟩
 rename_i h;exact ⟨fun A=>(by cases A),fun A=>absurd A h⟩
theorem Gw {a n m:Int}:(if Ay a n m then (1:Int) else 0)=0↔¬ Ay a n m:=by
 split
 ·rename_i h;exact ⟨fun A=>(by cases A),fun A=>absurd h A⟩
 rename_i h;exact ⟨fun _=>h,fun _=>rfl⟩
theorem Acq {c:RulesD} {x:ItemD} {sn:Prop} (h:¬ 0 < E7 c x sn):E7 c x sn=0:=by have:=Xq (c:=c) (x:=x) (seen:=sn);omega
theorem inc_ok {c:RulesD} {l:List EntD} {xs:List ItemD} (h:Nv c l xs=0) {i:Nat} {x:ItemD} (D:xs[i]?=some x):ItemOk (c.kZ.length:Int) x:=by
 have A:=Ds.1 h i (A3 D);rw [Q0 D] at A
 exact (Fj.1 A).1
theorem Ob {c:RulesD} {G:Av} {a:Option Addr} {n:Nat} (S:Aj Cq 9 G (vS a c.kZ.length n) c.kZ) {x:ItemD} {k:KindD} (h:c.kZ[x.typ]?=some k):Al .i64 (Dt c x):=by
 rw [Jk h];obtain ⟨b,o,cs,_,_,_,_,D⟩:=S.index h;obtain ⟨_,_,_,A⟩:=D
 exact A
theorem Lk (M:Mem w0 G L w) {z n m:Int} (hm:0≤m∧m≤9223372036854775807):Calls pG 121 #[iI z,iI n,iI m] w (B5 w0 G L fun v=>v=iI (if Ay z n m then (1:Int) else 0)):=by
 refine Ap (vs:=[_,_,_]) Tryz.func121 rfl (n:=26) rfl rfl<|wk ?_
 rcases bE (decide (0≤z)) with A | N
 ·skip
  have O:=dT A;refine wk ?_
  rcases bE (decide (z≤m)) with D | I
  ·skip
   have S:=dT D;refine wk ?_
   rcases bE (decide (0≤n)) with E | H
   ·skip
    have T:=dT E;refine wk ?_;refine A2 Aas rfl rfl (Pq (b:=(decide (n≤m - z))) M)<|?_;clear M;rintro _ w M rfl
    refine wk ?_;refine Af rfl rfl<|?_
    exact ⟨M,by rw [Vd (show ((decide (n≤m - z))=true)↔Ay z n m by unfold Ay;first | (simp only [decide_eq_true_eq];omega) | (simp only [Bool.false_eq_true,false_iff];omega))]⟩
   have U:=dF H;refine wk ?_;refine A2 Aas rfl rfl (Pq (b:=false) M)<|?_;clear M;rintro _ w M rfl
   refine wk ?_;refine Af rfl rfl<|?_
   exact ⟨M,by rw [Vd (show (false=true)↔Ay z n m by unfold Ay;first | (simp only [decide_eq_true_eq];omega) | (simp only [Bool.false_eq_true,false_iff];omega))]⟩
  have V:=dF I;refine wk ?_;refine A2 Aas rfl rfl (Pq (b:=false) M)<|?_;clear M;rintro _ w M rfl
  refine wk ?_;refine Af rfl rfl<|?_
  exact ⟨M,by rw [Vd (show (false=true)↔Ay z n m by unfold Ay;first | (simp only [decide_eq_true_eq];omega) | (simp only [Bool.false_eq_true,false_iff];omega))]⟩
 have Y:=dF N;refine wk ?_;refine A2 Aas rfl rfl (Pq (b:=false) M)<|?_;clear M;rintro _ w M rfl
 refine wk ?_;refine Af rfl rfl<|?_
 exact ⟨M,by rw [Vd (show (false=true)↔Ay z n m by unfold Ay;first | (simp only [decide_eq_true_eq];omega) | (simp only [Bool.false_eq_true,false_iff];omega))]⟩
theorem Le (M:Mem w0 G L w) {c:RulesD} {A:Option Addr} {D:Nat} (SC:Aj Cq 9 G (vS A c.kZ.length D) c.kZ) {x:ItemD} {E:Option Addr} {H:Nat} (hI:(x.key < 18446744073709551616∧x.typ < 256∧x.text.length≤9223372036854775807)) (SM:Aj Cr 1 G (vS E x.mZ.length H) x.mZ) {k:KindD} (hK:c.kZ[x.typ]?=some k):Calls pG 67 #[.agg #[vS A c.kZ.length D,iI c.cap],.agg #[iU ((x.key:Nat):Int),iB ((x.typ:Nat):Int),qT x.text,vS E x.mZ.length H]] w (B5 w0 G L fun v=>v=.agg #[iU ((x.key:Nat):Int),iB ((x.typ:Nat):Int),qT x.text,vS E x.mZ.length H,iI (Dt c x),vB false]):=by
 refine Ap (vs:=[_,_]) Tryz.func67 rfl (n:=14) rfl rfl<|?_
 refine Bt<|?_
 refine Ch M rfl rfl rfl<|?_;clear M;intro V w M
 refine Ch M rfl rfl rfl<|?_;clear M;intro b2 w M
 refine B0 M Cn rfl rfl<|?_;clear M;intro b3 w M
 refine wk ?_;refine fun a F=>D5 [(.pure,0),(.free,1),(.pure,2),(.free,3),(.pure,4),(.free,5),(.free,6),(.pure,7),(.free,8),(.chg,9)] [9] (Keep G [rB b2 [iU ((x.key:Nat):Int),iB ((x.typ:Nat):Int),qT x.text,vS E x.mZ.length H] 26,rB V [vS A c.kZ.length D,iI c.cap] 51]) rfl kR kF (Aw (M.drew _)) ?_;replace M:=M.drew (w.drawn+1);revert a;refine wk ?_;obtain ⟨al,am,_,ak,_,aj,S⟩:=SC.at hK;obtain ⟨Y,I,O,N⟩:=S;obtain ⟨ah,ai,ae,ag,rfl,ab,ac,T,U⟩:=D7 O;subst I;have aa:-9223372036854775808≤k.base∧k.base≤9223372036854775807:=N;refine wk ?_;refine k_f (fun a F w _=>Am (cs:=[iU ((x.key:Nat):Int),iB ((x.typ:Nat):Int),qT x.text,vS E x.mZ.length H,iI k.base,vB false]) Cn.k rfl Cn (F.evp rfl) rfl) rfl<|k_c rfl<|fun a F=>?_
 refine Bf F M Cn 0 ?_;clear F M a;intro w a M F;revert a;refine Ao<|?_
 refine fun a F=>⟨Keep G [rB b3 [iU ((x.key:Nat):Int),iB ((x.typ:Nat):Int),qT x.text,vS E x.mZ.length H,iI k.base,vB false] 69,rB b2 [iU ((x.key:Nat):Int),iB ((x.typ:Nat):Int),qT x.text,vS E x.mZ.length H] 26,rB V [vS A c.kZ.length D,iI c.cap] 51],M.keep (Gle.refl _) (by simp),?_⟩;revert a;refine wk ?_;refine fun a F=>Hf F M (k:=0) rfl rfl Cn rfl rfl rfl ?_
 exact ⟨M.wn dS3,by rw [Jk hK]⟩
theorem Ahm (M:Mem w0 G L w) {c:RulesD} {D:Option Addr} {E:Nat} (SC:Aj Cq 9 G (vS D c.kZ.length E) c.kZ) (ay:Dd c) {a1:Option Addr} {c1:Nat} {l:List EntD} (S:Aj Bj 6 G (vS a1 l.length c1) l) {ta:Option Addr} {tc:Nat} {xs:List ItemD} (T:Aj Bp 4 G (vS ta xs.length tc) xs):Calls pG 120 #[.agg #[vS D c.kZ.length E,iI c.cap],vS a1 l.length c1,vS ta xs.length tc] w (B5 w0 G L fun v=>v=iI (Nv c l xs)):=by
 have bS:=S.bound;have bT:=T.bound;refine Ap (vs:=[_,_,_]) Tryz.func120 rfl (n:=51) rfl rfl<|?_
 refine Bt<|?_
 refine Ch M rfl rfl rfl<|?_;clear M;intro U w M
 refine wk ?_;refine fun a F=>Bd (fun m a' w'=>∃ (i:Nat),m=xs.length - i∧Fits 51 a' [(1,vS a1 l.length c1),(2,vS ta xs.length tc),(3,pP U),(7,iI ((i:Nat):Int))]∧Mem w0 G (rB U [vS D c.kZ.length E,iI c.cap] 51::L) w'∧(i≤xs.length)∧(Bv (Qc c l xs) i=0)) _ ⟨0,rfl,fU,M,Nat.zero_le _,rfl⟩ ?_;clear F M;rintro m a w ⟨i,rfl,F,M,hi,hS⟩;revert a;refine wk ?_;refine qD rfl ?_ ?_
 ·intro h2;refine wk ?_;obtain ⟨A,H⟩:=Aq (xs:=xs) (i:=i) tM;intro a F;refine I6 (fun a' w'=>∃ (sn:Int),Fits 51 a' [(1,vS a1 l.length c1),(2,vS ta xs.length tc),(3,pP U),(7,iI ((i:Nat):Int)),(8,iI sn)]∧Mem w0 G (rB U [vS D c.kZ.length E,iI c.cap] 51::L) w'∧(sn=1↔Dj l A.key∨Kx (xs.take i) A.key)) ?_ ?_
  ·skip
   refine D5 [(.free,0),(.free,1),(.free,2),(.free,3),(.free,4),(.pure,5),(.keep,6),(.free,7),(.free,8),(.free,9),(.free,10),(.free,11),(.free,12),(.free,13),(.free,14),(.free,15),(.pure,16),(.keep,17),(.free,18),(.free,19),(.keep,20),(.free,21)] [] (Keep G [rB U [vS D c.kZ.length E,iI c.cap] 51]) rfl kR kF (Aw (M.drew _)) ?_;replace M:=M.drew (w.drawn+1);revert a;refine wk ?_;obtain ⟨aZ,bh,_,aW,_,aU,ap⟩:=T.at H;obtain ⟨aO,aQ,rfl,ar,aw,az,aM,aE⟩:=ap;have aI:(A.key < 18446744073709551616∧A.typ < 256∧A.text.length≤9223372036854775807):=⟨ar,aw,az⟩;refine wk ?_;refine k_k rfl<|A2 ent79 rfl rfl (Afv (l:=l) (k:=A.key) M S)<|?_;clear M;rintro _ w M ⟨z4,rfl,a3⟩
   refine Ao<|?_
   refine eQ (Aw M)<|wk ?_
   rcases bE (decide (0≤z4)) with a6 | I
   ·skip
    have h5:=dT a6;refine wk ?_;refine k_k rfl<|A2 Aas rfl rfl (Pq (b:=true) M)<|?_;clear M;rintro _ w M rfl
    refine Ao<|?_
    refine eQ (Aw M)<|wk ?_;intro a F
    exact ⟨(if true=true then (1:Int) else 0),fU,M,by clear F M;rw [← a3.has];first | (simp only [Ads,decide_eq_true_eq];omega) | (simp only [Ads,true_iff];omega) | simp_all⟩
   have h6:=dF I;refine wk ?_;obtain ⟨aY,bb,a5,aL,aK,ao⟩:=T.partT (i) tM;refine Nu rfl I (fun a F w _=>Gu Ci.k Bc a5 (F.ev rfl) (h:=i) (kl:=.i64) (zl:=0) rfl ⟨(F.ev rfl),tM⟩ tM tM)<|wk ?_;obtain ⟨ba,bi,_,aX,_,aV,aq⟩:=T.at H;obtain ⟨aP,aR,rfl,au,ax,a0,aN,aF⟩:=aq;have aJ:(A.key < 18446744073709551616∧A.typ < 256∧A.text.length≤9223372036854775807):=⟨au,ax,a0⟩;refine wk ?_;refine fun a F=>Gj F rfl rfl I ?_;revert a;refine g_t rfl I<|?_
   have a7:i - 0=(xs.take (i)).length:=by rw [lT];omega
   intro a F;rw [a7] at F ao;revert a;refine A2 ent61 rfl rfl (Wj (xs:=xs.take (i)) (k:=A.key) M ao)<|?_;clear M;rintro _ w M ⟨a4,rfl,a2⟩
   refine Ao<|?_
   refine eQ (Aw M)<|wk ?_;refine k_k rfl<|A2 Aas rfl rfl (Pq (b:=(decide (0≤a4))) M)<|?_;clear M;rintro _ w M rfl
   refine Ao<|?_
   refine eQ (Aw M)<|wk ?_;intro a F
   exact ⟨(if (decide (0≤a4))=true then (1:Int) else 0),fU,M,by clear F M;rw [← a3.has];rw [← a2.has];first | (simp only [Ads,decide_eq_true_eq];omega) | (simp only [Ads,true_iff];omega) | simp_all⟩
  clear F M;rintro a w ⟨sn,F,M,av⟩;revert a;refine Ca<|?_
  refine fun a F=>Dv [(true,0),(true,1),(true,2),(true,3),(true,4),(true,5),(false,6),(true,7)] (Keep G [rB U [vS D c.kZ.length E,iI c.cap] 51]) rfl kR kF (Aw (M.drew _)) ?_;replace M:=M.drew (w.drawn+1);revert a;refine wk ?_;obtain ⟨aG,aS,_,aD,_,aC,aa⟩:=T.at H;obtain ⟨aA,aB,rfl,ac,ag,ai,a8,N⟩:=aa;have V:(A.key < 18446744073709551616∧A.typ < 256∧A.text.length≤9223372036854775807):=⟨ac,ag,ai⟩;refine wk ?_;refine l_a rfl<|A2 Apm rfl rfl (M8 (c:=c) (x:=A) (sn:=sn) M SC ay V N)<|?_;clear M;rintro _ w M rfl
  refine Ao<|?_
  refine eQ (Aw M)<|wk ?_;refine qD rfl ?_ ?_
  ·intro be;refine Ca<|?_
   refine fun a F=>Dv [(true,0),(true,1),(true,2),(true,3),(true,4),(true,5),(false,6),(true,7)] (Keep G [rB U [vS D c.kZ.length E,iI c.cap] 51]) rfl kR kF (Aw (M.drew _)) ?_;replace M:=M.drew (w.drawn+1);revert a;refine lLb Fo 0 rfl rfl rfl rfl<|lMv rfl<|lMv rfl<|?_
   obtain ⟨aH,aT,_,an,_,am,ab⟩:=T.at H;obtain ⟨ak,al,rfl,ae,ah,aj,a9,O⟩:=ab;have Y:(A.key < 18446744073709551616∧A.typ < 256∧A.text.length≤9223372036854775807):=⟨ae,ah,aj⟩;refine l_r (fun a F w M=>Fw Ci.k Bc (F.ev rfl) (F.ev rfl) tM an) rfl<|l_r (fun a F w M=>Cv Bc rfl (F.ev rfl) (cs:=[iU ((A.key:Nat):Int),iB ((A.typ:Nat):Int),qT A.text,vS ak A.mZ.length al]) rfl (M.cellsA am 0 tM rfl)) rfl<|lMv rfl<|?_
   refine l_a rfl<|A2 Apm rfl rfl (M8 (c:=c) (x:=A) (sn:=sn) M SC ay Y O)<|?_;clear M;rintro _ w M rfl
   refine Ao<|?_
   refine eQ (Aw M)<|wk ?_;refine Af rfl rfl<|?_
   exact ⟨M.wn dS1,by rw [inc_hit hS H (Up av).symm tM]⟩
  intro bf;refine wk ?_;intro a F
  exact ⟨_,tM,i+1,rfl,fU,M,tM,by rw [F9 hS,Q0 H,← Up av];exact Acq tA⟩
 intro bg;refine wk ?_;refine Af rfl rfl<|?_
 exact ⟨M.wn dS1,by rw [inc_end hS tM]⟩
theorem fr_snoc {c:RulesD} {xs:List ItemD} {k:Nat} {x:ItemD} (h:xs[k]?=some x):(xs.map (B8 c)).take k++[B8 c x]=(xs.map (B8 c)).take (k+1):=by
 rw [List.take_add_one,List.getElem?_map,h];rfl
theorem Ahj (M:Mem w0 G L w) {c:RulesD} {ax:Option Addr} {ay:Nat} (SC:Aj Cq 9 G (vS ax c.kZ.length ay) c.kZ) (aW:Dd c) {a1:Option Addr} {c1:Nat} {l:List EntD} (S:Aj Bj 6 G (vS a1 l.length c1) l) {z:Int} {ta:Option Addr} {tc:Nat} {xs:List ItemD} (T:Aj Bp 4 G (vS ta xs.length tc) xs) (cf:l.length≤1024) (cj:xs.length≤4000000):Calls pG 70 #[.agg #[vS ax c.kZ.length ay,iI c.cap],vS a1 l.length c1,iI z,vS ta xs.length tc] w (Ret w0 G L fun G' v=>∃ (a:Option Addr) (cc:Nat),v=.tuple #[vS a (Gy c l z xs).1.length cc,iI (Gy c l z xs).2]∧Aj Bj 6 G' (vS a (Gy c l z xs).1.length cc) (Gy c l z xs).1):=by
 have bS:=S.bound;have bT:=T.bound;refine Ap (vs:=[_,_,_,_]) Tryz.func70 rfl (n:=75) rfl rfl<|?_
 refine Bt<|?_
 refine Ch M rfl rfl rfl<|?_;clear M;intro b1 w M
 refine wk ?_
 rcases bE (decide (z < 0)) with bo | bp
 ·skip
  have h2:=dT bo;refine wk ?_;refine Co rfl rfl rfl<|?_
  exact ⟨_,(Gle.refl _),M.wn dS1,none,0,by rw [Aan (fun E=>by unfold Ay at E;omega)];rfl,by rw [Aan (fun E=>by unfold Ay at E;omega)];exact Aj.nil⟩
 have h3:=dF bp;refine wk ?_;refine qD rfl ?_ ?_
 ·intro h4;refine wk ?_;refine Co rfl rfl rfl<|?_
  exact ⟨_,(Gle.refl _),M.wn dS1,none,0,by rw [Aan (fun E=>by unfold Ay at E;omega)];rfl,by rw [Aan (fun E=>by unfold Ay at E;omega)];exact Aj.nil⟩
 intro h5;refine wk ?_;refine qD rfl ?_ ?_
 ·intro h6;refine wk ?_;refine Co rfl rfl rfl<|?_
  exact ⟨_,(Gle.refl _),M.wn dS1,none,0,by rw [Aow (by unfold Ay;omega) tM];rfl,by rw [Aow (by unfold Ay;omega) tM];exact Aj.nil⟩
 intro h7;refine wk ?_;refine A2 A1e rfl rfl (Ahm (c:=c) (l:=l) (xs:=xs) M SC aW S T)<|?_;clear M;rintro _ w M rfl
 refine wk ?_;refine qD rfl ?_ ?_
 ·intro h8;refine wk ?_;refine A2 A1e rfl rfl (Ahm (c:=c) (l:=l) (xs:=xs) M SC aW S T)<|?_;clear M;rintro _ w M rfl
  refine wk ?_;refine Co rfl rfl rfl<|?_
  exact ⟨_,(Gle.refl _),M.wn dS1,none,0,by rw [Aov (by unfold Ay;omega) tM tM];rfl,by rw [Aov (by unfold Ay;omega) tM tM];exact Aj.nil⟩
 intro h9;refine wk ?_;obtain ⟨p,rfl⟩:=Int.eq_ofNat_of_zero_le (show 0≤z by omega);have ag:Nv c l xs=0:=by have:=Azn (c:=c) (l:=l) (xs:=xs);omega
 have a2:Ay ((p:Nat):Int) 0 ((l.length:Nat):Int):=by unfold Ay;omega
 refine wk ?_;have M:=M.nilrow 69 6;replace M:=z_M M;intro a F;refine Bd (fun m a' w'=>∃ (i:Nat),∃ (ar:Option Addr),∃ (nr:Nat),∃ (cr:Nat),∃ (ai:List Value),m=l.length+1 - i∧Fits 75 a' [(1,vS a1 l.length c1),(2,iI ((p:Nat):Int)),(3,vS ta xs.length tc),(4,pP b1),(10,vS ar nr cr),(11,iI ((i:Nat):Int))]∧Mem w0 G (rR (vS ar nr cr) (nr) (ai) 69 6::rB b1 [vS ax c.kZ.length ay,iI c.cap] 51::L) w'∧(i≤l.length+1)∧(Els Bj 6 G ai (K4 l p (xs.map (B8 c)) i))∧((i≤p∧nr≤i)∨(p < i∧nr≤i+xs.length))) _ ⟨0,none,0,0,[],rfl,fU,M,tM,by rw [Aap];exact Els.nil,tM⟩ ?_;clear F M;rintro m a w ⟨i,ar,nr,cr,ai,rfl,F,M,hi,Er,ci⟩;revert a;refine wk ?_;refine qD rfl ?_ ?_
 ·intro bQ;refine wk ?_;refine qD rfl ?_ ?_
  ·intro bR;refine wk ?_;have bl:Els Bj 6 G ai (K4 l p (xs.map (B8 c)) i++(xs.map (B8 c)).take 0):=by rw [List.take_zero,List.append_nil];exact Er
   intro a F;refine Bd (fun m a' w'=>∃ (k:Nat),∃ (ak:Option Addr),∃ (nk:Nat),∃ (ck:Nat),∃ (aj:List Value),m=xs.length - k∧Fits 75 a' [(1,vS a1 l.length c1),(2,iI ((p:Nat):Int)),(3,vS ta xs.length tc),(4,pP b1),(11,iI ((i:Nat):Int)),(10,vS ak nk ck),(12,iI ((k:Nat):Int))]∧Mem w0 G (rR (vS ak nk ck) (nk) (aj) 69 6::rB b1 [vS ax c.kZ.length ay,iI c.cap] 51::L) w'∧(k≤xs.length)∧(Els Bj 6 G aj (K4 l p (xs.map (B8 c)) i++(xs.map (B8 c)).take k))∧(nk≤nr+k)) _ ⟨0,ar,nr,cr,ai,rfl,fU,M,tM,bl,tM⟩ ?_;clear F M;rintro m a w ⟨k,ak,nk,ck,aj,rfl,F,M,hk,Ek,cg⟩;revert a;refine wk ?_;refine qD rfl ?_ ?_
   ·intro bU;refine wk ?_;obtain ⟨H,aA⟩:=Aq (xs:=xs) (i:=k) tM;obtain ⟨kd,hK⟩:=J5 (inc_ok ag aA);intro a F;refine Dv [(true,0),(true,1),(true,2),(true,3),(true,4),(true,5),(false,6),(false,7),(false,8),(true,9)] (Keep G [rB b1 [vS ax c.kZ.length ay,iI c.cap] 51]) rfl kR kF (Aw (M.drew _)) ?_;replace M:=M.drew (w.drawn+1);revert a;refine wk ?_;obtain ⟨bH,bN,_,bA,_,b6,a7⟩:=T.at aA;obtain ⟨I,U,rfl,aC,aG,aH,b5,ah⟩:=a7;have ab:(H.key < 18446744073709551616∧H.typ < 256∧H.text.length≤9223372036854775807):=⟨aC,aG,aH⟩;refine wk ?_;refine l_a rfl<|A2 Apl rfl rfl (Le (c:=c) (x:=H) M SC ab ah hK)<|?_;clear M;rintro _ w M rfl
    refine Ao<|?_
    refine eQ (Aw M)<|l_a rfl<|fun a F=>?_
    refine Ar F M Db.k Cn rfl rfl (cs:=[iU ((H.key:Nat):Int),iB ((H.typ:Nat):Int),qT H.text,vS I H.mZ.length U,iI (Dt c H),vB false]) rfl rfl tS tD rfl ?_;clear F M a;intro cl w a M F;obtain ⟨bD,bK,rfl,bf,aX,bw⟩:=M.rS (k:=0) rfl;revert a;refine Ao<|?_
    refine eQ (Aw M)<|?_
    have aI:Els Bj 6 G [iU ((H.key:Nat):Int),iB ((H.typ:Nat):Int),qT H.text,vS I H.mZ.length U,iI (Dt c H),vB false] [(B8 c H)]:=⟨[iU ((H.key:Nat):Int),iB ((H.typ:Nat):Int),qT H.text,vS I H.mZ.length U,iI (Dt c H),vB false],[],rfl,rfl,⟨[iU ((H.key:Nat):Int),iB ((H.typ:Nat):Int),qT H.text,vS I H.mZ.length U],rfl,⟨I,U,rfl,ab.1,ab.2.1,ab.2.2,(by have E:=ah.bound;show H.mZ.length≤_;omega),ah⟩,Ob SC hK⟩,rfl⟩;refine l_a rfl<|fun a F=>?_
    refine A4 F M (k:=1) (k2:=0) rfl rfl Db.k Cn rfl rfl tD rfl rfl tX tO rfl ?_;clear F M a;intro cm w a M F;have aL:=Els.append Ek aI;obtain ⟨aO,aS,rfl,bg,aY,bx⟩:=M.rS (k:=1) rfl;revert a;refine Ao<|?_
    refine eQ (Aw M)<|wk ?_;intro a F
    exact ⟨_,tM,k+1,(aO),(nk+1),(aS),aj++([iU ((H.key:Nat):Int),iB ((H.typ:Nat):Int),qT H.text,vS I H.mZ.length U,iI (Dt c H),vB false]),rfl,fU,(M.wn tW),tM,by have E:=aL;rwa [List.append_assoc,fr_snoc aA] at E,tM⟩
   intro bV;refine wk ?_;have bv:(xs.map (B8 c)).take k=xs.map (B8 c):=List.take_of_length_le (by rw [lM];omega);intro a F;rw [bv] at Ek;revert a;refine wk ?_;refine qD rfl ?_ ?_
   ·intro bW;refine wk ?_;obtain ⟨A,ac⟩:=Aq (xs:=l) (i:=i) tM;obtain ⟨bI,bO,_,bB,_,b7,a8⟩:=S.at ac;obtain ⟨bm,az,a5,am⟩:=a8;obtain ⟨N,V,rfl,ao,aq,av,aD,a3⟩:=a5;subst az;have bq:(A.item.key < 18446744073709551616∧A.item.typ < 256∧A.item.text.length≤9223372036854775807):=⟨ao,aq,av⟩;have bt:-9223372036854775808≤A.size∧A.size≤9223372036854775807:=am;refine wk ?_;intro a F;refine Ar F M Db.k Cn rfl rfl (cs:=[iU ((A.item.key:Nat):Int),iB ((A.item.typ:Nat):Int),qT A.item.text,vS N A.item.mZ.length V,iI A.size,vB A.known]) rfl rfl tS tD rfl ?_;clear F M a;intro cn w a M F;obtain ⟨bF,bL,rfl,bh,aZ,bz⟩:=M.rS (k:=0) rfl;have aJ:Els Bj 6 G [iU ((A.item.key:Nat):Int),iB ((A.item.typ:Nat):Int),qT A.item.text,vS N A.item.mZ.length V,iI A.size,vB A.known] [A]:=⟨[iU ((A.item.key:Nat):Int),iB ((A.item.typ:Nat):Int),qT A.item.text,vS N A.item.mZ.length V,iI A.size,vB A.known],[],rfl,rfl,⟨[iU ((A.item.key:Nat):Int),iB ((A.item.typ:Nat):Int),qT A.item.text,vS N A.item.mZ.length V],rfl,⟨N,V,rfl,ao,aq,av,aD,a3⟩,am⟩,rfl⟩;refine A4 F M (k:=1) (k2:=0) rfl rfl Db.k Cn rfl rfl tD rfl rfl tX tO rfl ?_;clear F M a;intro co w a M F
    have aM:=Els.append Ek aJ;obtain ⟨aP,aT,rfl,bi,ba,b0⟩:=M.rS (k:=1) rfl;revert a;refine wk ?_;intro a F
    exact ⟨_,tM,i+1,(aP),(nk+1),(aT),aj++([iU ((A.item.key:Nat):Int),iB ((A.item.typ:Nat):Int),qT A.item.text,vS N A.item.mZ.length V,iI A.size,vB A.known]),rfl,fU,(M.wn tW),tM,by have E:=aM;first | rwa [H1 ac tM] at E | rwa [List.append_nil,Gf ac tM] at E | rwa [Gf ac tM] at E | rwa [F6 tM tM] at E | rwa [Ed tM tM tM] at E,tM⟩
   intro bX;refine wk ?_;intro a F
   exact ⟨_,tM,i+1,(ak),(nk),(ck),aj,rfl,fU,M,tM,by have E:=Ek;first | rwa [H1 hX0 tM] at E | rwa [List.append_nil,Gf hX0 tM] at E | rwa [Gf hX0 tM] at E | rwa [F6 tM tM] at E | rwa [Ed tM tM tM] at E,tM⟩
  intro bY;refine wk ?_;refine qD rfl ?_ ?_
  ·intro bZ;refine wk ?_;obtain ⟨D,ae⟩:=Aq (xs:=l) (i:=i) tM;obtain ⟨bJ,bP,_,bC,_,b8,a9⟩:=S.at ae;obtain ⟨bn,a0,a6,an⟩:=a9;obtain ⟨O,Y,rfl,ap,au,aw,aE,a4⟩:=a6;subst a0;have br:(D.item.key < 18446744073709551616∧D.item.typ < 256∧D.item.text.length≤9223372036854775807):=⟨ap,au,aw⟩;have bu:-9223372036854775808≤D.size∧D.size≤9223372036854775807:=an;refine wk ?_;intro a F;refine Ar F M Db.k Cn rfl rfl (cs:=[iU ((D.item.key:Nat):Int),iB ((D.item.typ:Nat):Int),qT D.item.text,vS O D.item.mZ.length Y,iI D.size,vB D.known]) rfl rfl tS tD rfl ?_;clear F M a;intro cp w a M F;obtain ⟨bG,bM,rfl,bj,bb,b3⟩:=M.rS (k:=0) rfl;have aK:Els Bj 6 G [iU ((D.item.key:Nat):Int),iB ((D.item.typ:Nat):Int),qT D.item.text,vS O D.item.mZ.length Y,iI D.size,vB D.known] [D]:=⟨[iU ((D.item.key:Nat):Int),iB ((D.item.typ:Nat):Int),qT D.item.text,vS O D.item.mZ.length Y,iI D.size,vB D.known],[],rfl,rfl,⟨[iU ((D.item.key:Nat):Int),iB ((D.item.typ:Nat):Int),qT D.item.text,vS O D.item.mZ.length Y],rfl,⟨O,Y,rfl,ap,au,aw,aE,a4⟩,an⟩,rfl⟩;refine A4 F M (k:=1) (k2:=0) rfl rfl Db.k Cn rfl rfl tD rfl rfl tX tO rfl ?_;clear F M a;intro cq w a M F
   have aN:=Els.append Er aK;obtain ⟨aQ,aU,rfl,bk,be,b4⟩:=M.rS (k:=1) rfl;revert a;refine wk ?_;intro a F
   exact ⟨_,tM,i+1,(aQ),(nr+1),(aU),ai++([iU ((D.item.key:Nat):Int),iB ((D.item.typ:Nat):Int),qT D.item.text,vS O D.item.mZ.length Y,iI D.size,vB D.known]),rfl,fU,(M.wn tW),tM,by have E:=aN;first | rwa [H1 ae tM] at E | rwa [List.append_nil,Gf ae tM] at E | rwa [Gf ae tM] at E | rwa [F6 tM tM] at E | rwa [Ed tM tM tM] at E,tM⟩
  intro ca;refine wk ?_;intro a F
  exact ⟨_,tM,i+1,(ar),(nr),(cr),ai,rfl,fU,M,tM,by have E:=Er;first | rwa [H1 hX0 tM] at E | rwa [List.append_nil,Gf hX0 tM] at E | rwa [Gf hX0 tM] at E | rwa [F6 tM tM] at E | rwa [Ed tM tM tM] at E,tM⟩
 intro cb;refine wk ?_;intro a F;rw [Ahk tM tM] at Er;obtain ⟨aF,b9,aR,aV,aa,aB,al,M⟩:=M.fZ Ab (k:=0) rfl Er tD;clear aB aR aV;rw [aF] at F al;revert a;refine wk ?_;refine A2 ent80 rfl rfl (V9 (l:=(C1 l p 0 (xs.map (B8 c)))) M al)<|?_;clear M;rintro _ w M rfl
 refine wk ?_;refine qD rfl ?_ ?_
 ·intro cd;refine wk ?_;refine Co rfl rfl rfl<|?_
  exact ⟨_,aa,M.wn dS1,none,0,by rw [Adt a2 tM ag (by rw [Int.toNat_natCast];omega)];rfl,by rw [Adt a2 tM ag (by rw [Int.toNat_natCast];omega)];exact Aj.nil⟩
 intro ce;refine wk ?_;refine Co rfl rfl rfl<|?_
 exact ⟨_,aa,M.wn dS1,ar,cr,by rw [Aao a2 tM ag (by rw [Int.toNat_natCast];unfold Dp at *;split at * <;> omega),Int.toNat_natCast],by rw [Aao a2 tM ag (by rw [Int.toNat_natCast];unfold Dp at *;split at * <;> omega),Int.toNat_natCast];exact al⟩
theorem Afx (M:Mem w0 G L w) {a1:Option Addr} {c1:Nat} {l:List EntD} (S:Aj Bj 6 G (vS a1 l.length c1) l) {z n:Int} (bo:l.length≤1024):Calls pG 71 #[vS a1 l.length c1,iI z,iI n] w (Ret w0 G L fun G' v=>∃ (a:Option Addr) (cc:Nat),v=.tuple #[vS a (M9 l z n).1.length cc,iI (M9 l z n).2]∧Aj Bj 6 G' (vS a (M9 l z n).1.length cc) (M9 l z n).1):=by
 have bS:=S.bound;refine Ap (vs:=[_,_,_]) Tryz.func71 rfl (n:=40) rfl rfl<|wk ?_;refine A2 Aec rfl rfl (Lk (z:=z) (n:=n) (m:=((l.length:Nat):Int)) M tM)<|?_;clear M;rintro _ w M rfl
 refine wk ?_;refine qD rfl ?_ ?_
 ·intro h1;refine wk ?_;refine Co rfl rfl rfl<|?_
  exact ⟨_,(Gle.refl _),M.wn (sR _),none,0,by rw [Amq (Gw.1 tA)];rfl,by rw [Amq (Gw.1 tA)];exact Aj.nil⟩
 intro h2;refine wk ?_;have aq:Ay z n ((l.length:Nat):Int):=Classical.byContradiction fun h_=>absurd (Gw.2 h_) tA;have a6:=aq;unfold Ay at a6;obtain ⟨p,rfl⟩:=Int.eq_ofNat_of_zero_le (show 0≤z by omega);obtain ⟨u,rfl⟩:=Int.eq_ofNat_of_zero_le (show 0≤n by omega);refine wk ?_;have M:=M.nilrow 69 6;replace M:=z_M M;intro a F;refine Bd (fun m a' w'=>∃ (i:Nat),∃ (ar:Option Addr),∃ (nr:Nat),∃ (cr:Nat),∃ (O:List Value),m=l.length - i∧Fits 40 a' [(0,vS a1 l.length c1),(1,iI ((p:Nat):Int)),(2,iI ((u:Nat):Int)),(8,vS ar nr cr),(9,iI ((i:Nat):Int))]∧Mem w0 G (rR (vS ar nr cr) (nr) (O) 69 6::L) w'∧(i≤l.length)∧(Els Bj 6 G O (Wl l p u i))∧(nr≤i)) _ ⟨0,none,0,0,[],rfl,fU,M,tM,by rw [Arb];exact Els.nil,tM⟩ ?_;clear F M;rintro m a w ⟨i,ar,nr,cr,O,rfl,F,M,hi,Er,bp⟩;revert a;refine wk ?_;refine qD rfl ?_ ?_
 ·intro h3;refine wk ?_
  rcases bE (decide (((i:Nat):Int) < ((p:Nat):Int))) with aH | aI
  ·skip
   have h4:=dT aH;refine wk ?_;obtain ⟨D,ah⟩:=Aq (xs:=l) (i:=i) tM;obtain ⟨bj,bq,_,bh,_,bg,a5⟩:=S.at ah;obtain ⟨aX,ao,a4,ag⟩:=a5;obtain ⟨I,N,rfl,ai,aj,ak,a7,ay⟩:=a4;subst ao;have aZ:(D.item.key < 18446744073709551616∧D.item.typ < 256∧D.item.text.length≤9223372036854775807):=⟨ai,aj,ak⟩;have ba:-9223372036854775808≤D.size∧D.size≤9223372036854775807:=ag;refine wk ?_;intro a F;refine Ar F M Db.k Cn rfl rfl (cs:=[iU ((D.item.key:Nat):Int),iB ((D.item.typ:Nat):Int),qT D.item.text,vS I D.item.mZ.length N,iI D.size,vB D.known]) rfl rfl tS tD rfl ?_;clear F M a;intro v6 w a M F;obtain ⟨bi,bk,rfl,aO,aM,bb⟩:=M.rS (k:=0) rfl;have aC:Els Bj 6 G [iU ((D.item.key:Nat):Int),iB ((D.item.typ:Nat):Int),qT D.item.text,vS I D.item.mZ.length N,iI D.size,vB D.known] [D]:=⟨[iU ((D.item.key:Nat):Int),iB ((D.item.typ:Nat):Int),qT D.item.text,vS I D.item.mZ.length N,iI D.size,vB D.known],[],rfl,rfl,⟨[iU ((D.item.key:Nat):Int),iB ((D.item.typ:Nat):Int),qT D.item.text,vS I D.item.mZ.length N],rfl,⟨I,N,rfl,ai,aj,ak,a7,ay⟩,ag⟩,rfl⟩;refine A4 F M (k:=1) (k2:=0) rfl rfl Db.k Cn rfl rfl tD rfl rfl tX tO rfl ?_;clear F M a;intro v8 w a M F
   have aD:=Els.append Er aC;obtain ⟨aE,aG,rfl,aP,aN,be⟩:=M.rS (k:=1) rfl;revert a;refine wk ?_;intro a F
   exact ⟨_,tM,i+1,(aE),(nr+1),(aG),O++([iU ((D.item.key:Nat):Int),iB ((D.item.typ:Nat):Int),qT D.item.text,vS I D.item.mZ.length N,iI D.size,vB D.known]),rfl,fU,(M.wn tW),tM,by have h_:=aD;rwa [Amr ah tM] at h_,tM⟩
  have h9:=dF aI;refine wk ?_;refine qD rfl ?_ ?_
  ·intro bl;refine wk ?_;obtain ⟨A,V⟩:=Aq (xs:=l) (i:=i) tM;obtain ⟨aW,bf,_,aU,_,aS,an⟩:=S.at V;obtain ⟨aF,ac,am,T⟩:=an;obtain ⟨E,H,rfl,Y,aa,ab,au,al⟩:=am;subst ac;have aJ:(A.item.key < 18446744073709551616∧A.item.typ < 256∧A.item.text.length≤9223372036854775807):=⟨Y,aa,ab⟩;have aK:-9223372036854775808≤A.size∧A.size≤9223372036854775807:=T;refine wk ?_;intro a F;refine Ar F M Db.k Cn rfl rfl (cs:=[iU ((A.item.key:Nat):Int),iB ((A.item.typ:Nat):Int),qT A.item.text,vS E A.item.mZ.length H,iI A.size,vB A.known]) rfl rfl tS tD rfl ?_;clear F M a;intro br w a M F;obtain ⟨aV,aY,rfl,aA,a8,aQ⟩:=M.rS (k:=0) rfl;have aw:Els Bj 6 G [iU ((A.item.key:Nat):Int),iB ((A.item.typ:Nat):Int),qT A.item.text,vS E A.item.mZ.length H,iI A.size,vB A.known] [A]:=⟨[iU ((A.item.key:Nat):Int),iB ((A.item.typ:Nat):Int),qT A.item.text,vS E A.item.mZ.length H,iI A.size,vB A.known],[],rfl,rfl,⟨[iU ((A.item.key:Nat):Int),iB ((A.item.typ:Nat):Int),qT A.item.text,vS E A.item.mZ.length H],rfl,⟨E,H,rfl,Y,aa,ab,au,al⟩,T⟩,rfl⟩;refine A4 F M (k:=1) (k2:=0) rfl rfl Db.k Cn rfl rfl tD rfl rfl tX tO rfl ?_;clear F M a;intro bt w a M F
   have ax:=Els.append Er aw;obtain ⟨az,a2,rfl,aB,a9,aR⟩:=M.rS (k:=1) rfl;revert a;refine wk ?_;intro a F
   exact ⟨_,tM,i+1,(az),(nr+1),(a2),O++([iU ((A.item.key:Nat):Int),iB ((A.item.typ:Nat):Int),qT A.item.text,vS E A.item.mZ.length H,iI A.size,vB A.known]),rfl,fU,(M.wn tW),tM,by have h_:=ax;rwa [Amr V tM] at h_,tM⟩
  intro bm;refine wk ?_;intro a F
  exact ⟨_,tM,i+1,(ar),(nr),(cr),O,rfl,fU,M,tM,by have h_:=Er;obtain ⟨X_,aL⟩:=Aq (xs:=l) (i:=i) tM;rwa [Axb aL tM tM] at h_,tM⟩
 intro bn;refine wk ?_;intro a F;rw [Axc tM] at Er;obtain ⟨av,aT,a0,a3,U,ap,ae,M⟩:=M.fZ Ab (k:=0) rfl Er tD;clear ap a0 a3;rw [av] at F ae;revert a;refine wk ?_;refine Co rfl rfl rfl<|?_
 exact ⟨_,U,M.wn (sR _),ar,cr,by rw [Zw aq,Int.toNat_natCast,Int.toNat_natCast],by rw [Zw aq,Int.toNat_natCast,Int.toNat_natCast];exact ae⟩
theorem mv_snoc {l:List EntD} {p m k:Nat} {x:EntD} (h:l[p+k]?=some x) (A:k < m):((l.drop p).take m).take k++[x]=((l.drop p).take m).take (k+1):=by
 rw [List.take_add_one,List.getElem?_take,if_pos A,List.getElem?_drop,h];rfl
theorem Ayh (M:Mem w0 G L w) {a1:Option Addr} {c1:Nat} {l:List EntD} (S:Aj Bj 6 G (vS a1 l.length c1) l) {z n b:Int} (d3:l.length≤1024):Calls pG 72 #[vS a1 l.length c1,iI z,iI n,iI b] w (Ret w0 G L fun G' v=>∃ (a:Option Addr) (cc:Nat),v=.tuple #[vS a (Iv l z n b).1.length cc,iI (Iv l z n b).2]∧Aj Bj 6 G' (vS a (Iv l z n b).1.length cc) (Iv l z n b).1):=by
 have bS:=S.bound;refine Ap (vs:=[_,_,_,_]) Tryz.func72 rfl (n:=74) rfl rfl<|?_
 refine Bt<|Dq rfl<|Dq rfl<|Ca<|Ca<|?_
 refine fun a F=>I6 (fun a' w'=>∃ (bb:Bool),Fits 74 a' [(0,vS a1 l.length c1),(1,iI z),(2,iI n),(3,iI b),(29,vB bb)]∧Mem w0 G (L) w'∧(bb=true↔¬ (Ay z n ((l.length:Nat):Int)∧Ay b 0 (((l.length:Nat):Int) - n)))) ?_ ?_
 ·skip
  revert a;refine wk ?_;refine A2 Aec rfl rfl (Lk (z:=z) (n:=n) (m:=((l.length:Nat):Int)) M tM)<|?_;clear M;rintro _ w M rfl
  refine wk ?_
  rcases bE (decide ((if Ay z n ((l.length:Nat):Int) then (1:Int) else 0)=0)) with co | cp
  ·skip
   have h1:=dT co;refine wk ?_;intro a F
   exact ⟨true,fU,M,by simp only [decide_eq_true_eq,Gw] at *;clear F M;first | (simp only [true_iff];exact fun N=>absurd N.1 tA) | grind⟩
  have h2:=dF cp;have bI:Ay z n ((l.length:Nat):Int):=Classical.byContradiction fun N=>absurd (Gw.2 N) tA;unfold Ay at bI;refine wk ?_;refine A2 Aec rfl rfl (Lk (z:=b) (n:=0) (m:=((l.length:Nat):Int) - n) M tM)<|?_;clear M;rintro _ w M rfl
  refine wk ?_;intro a F
  exact ⟨(decide ((if Ay b 0 (((l.length:Nat):Int) - n) then (1:Int) else 0)=0)),fU,M,by simp only [decide_eq_true_eq,Gw] at *;clear F M;first | (simp only [true_iff];exact fun N=>absurd N.1 tA) | grind⟩
 clear F M;rintro a w ⟨bb,F,M,ba⟩;revert a;refine Gd<|?_
 refine Ag rfl ?_ ?_
 ·intro cq;have h3:(bb)=true:=cq;refine wk ?_;refine Co rfl rfl rfl<|?_
  exact ⟨_,(Gle.refl _),M.wn (sR _),none,0,by rw [Aoi (ba.1 tA)];rfl,by rw [Aoi (ba.1 tA)];exact Aj.nil⟩
 intro ct;have h4:(bb)=false:=ct;refine wk ?_;have aG:Ay z n ((l.length:Nat):Int)∧Ay b 0 (((l.length:Nat):Int) - n):=Classical.byContradiction fun N=>by have:=ba.2 N;simp_all
 have bJ:=aG;unfold Ay at bJ;obtain ⟨p,rfl⟩:=Int.eq_ofNat_of_zero_le (show 0≤z by omega);obtain ⟨u,rfl⟩:=Int.eq_ofNat_of_zero_le (show 0≤n by omega);obtain ⟨q,rfl⟩:=Int.eq_ofNat_of_zero_le (show 0≤b by omega);refine wk ?_;refine C3 ent71 rfl rfl (Afx (l:=l) (z:=((p:Nat):Int)) (n:=((u:Nat):Int)) M S tM)<|?_;clear M;rintro _ ag w aJ M ⟨bz,b7,rfl,Sq5⟩
 replace S:=S.mono Ab aJ;refine wk ?_;intro a F;rw [Zw aG.1,Int.toNat_natCast,Int.toNat_natCast] at F Sq5;have d4:=Mh (l:=l) (p:=p) (n:=u) tM;revert a;refine wk ?_;have M:=M.nilrow 69 6;replace M:=z_M M;intro a F;refine Bd (fun m a' w'=>∃ (i:Nat),∃ (ar:Option Addr),∃ (nr:Nat),∃ (cr:Nat),∃ (aq:List Value),m=(C1 l p u []).length+1 - i∧Fits 74 a' [(0,vS a1 l.length c1),(1,iI ((p:Nat):Int)),(2,iI ((u:Nat):Int)),(3,iI ((q:Nat):Int)),(10,vS bz ((C1 l p u []).length) (b7)),(12,vS ar nr cr),(13,iI ((i:Nat):Int))]∧Mem w0 ag (rR (vS ar nr cr) (nr) (aq) 69 6::L) w'∧(i≤(C1 l p u []).length+1)∧(Els Bj 6 ag aq (K4 (C1 l p u []) q ((l.drop p).take u) i))∧((i≤q∧nr≤i)∨(q < i∧nr≤i+u))) _ ⟨0,none,0,0,[],rfl,fU,M,tM,by rw [Aap];exact Els.nil,tM⟩ ?_;clear F M;rintro m a w ⟨i,ar,nr,cr,aq,rfl,F,M,hi,Er,d6⟩;revert a;refine wk ?_;refine qD rfl ?_ ?_
 ·intro h6;refine wk ?_;have ci:Els Bj 6 ag aq ((K4 (C1 l p u []) q ((l.drop p).take u) i)++((l.drop p).take u).take 0):=by rw [List.take_zero,List.append_nil];exact Er
  intro a F;refine Bd (fun m a' w'=>∃ (k:Nat),∃ (ak:Option Addr),∃ (nk:Nat),∃ (ck:Nat),∃ (ae:List Value),m=u - k∧Fits 74 a' [(0,vS a1 l.length c1),(1,iI ((p:Nat):Int)),(2,iI ((u:Nat):Int)),(3,iI ((q:Nat):Int)),(10,vS bz ((C1 l p u []).length) (b7)),(13,iI ((i:Nat):Int)),(12,vS ak nk ck),(14,iI ((k:Nat):Int))]∧Mem w0 ag (rR (vS ak nk ck) (nk) (ae) 69 6::L) w'∧(k≤u)∧(Els Bj 6 ag ae ((K4 (C1 l p u []) q ((l.drop p).take u) i)++((l.drop p).take u).take k))∧(nk≤nr+k)∧(k=0∨i=q)) _ ⟨0,ar,nr,cr,aq,rfl,fU,M,tM,ci,tM,tM⟩ ?_;clear F M;rintro m a w ⟨k,ak,nk,ck,ae,rfl,F,M,hk,Ek,d5,d2⟩;revert a;refine wk ?_
  rcases bE (decide (((i:Nat):Int)=((q:Nat):Int))) with cu | bF
  ·skip
   have h7:=dT cu;refine wk ?_;refine qD rfl ?_ ?_
   ·intro h8;refine wk ?_;obtain ⟨I,aK⟩:=Aq (xs:=l) (i:=p+k) tM;obtain ⟨dp,d7,_,dn,_,dm,bH⟩:=S.at aK;obtain ⟨cZ,be,bG,aI⟩:=bH;obtain ⟨ah,ai,rfl,aL,aM,aN,bK,bx⟩:=bG;subst be;have dg:(I.item.key < 18446744073709551616∧I.item.typ < 256∧I.item.text.length≤9223372036854775807):=⟨aL,aM,aN⟩;have dh:-9223372036854775808≤I.size∧I.size≤9223372036854775807:=aI;refine wk ?_;intro a F;refine Ar F M Db.k Cn rfl rfl (cs:=[iU ((I.item.key:Nat):Int),iB ((I.item.typ:Nat):Int),qT I.item.text,vS ah I.item.mZ.length ai,iI I.size,vB I.known]) rfl rfl tS tD rfl ?_;clear F M a;intro d8 w a M F;obtain ⟨cQ,da,rfl,bW,bL,c5⟩:=M.rS (k:=0) rfl;have bm:Els Bj 6 ag [iU ((I.item.key:Nat):Int),iB ((I.item.typ:Nat):Int),qT I.item.text,vS ah I.item.mZ.length ai,iI I.size,vB I.known] [I]:=⟨[iU ((I.item.key:Nat):Int),iB ((I.item.typ:Nat):Int),qT I.item.text,vS ah I.item.mZ.length ai,iI I.size,vB I.known],[],rfl,rfl,⟨[iU ((I.item.key:Nat):Int),iB ((I.item.typ:Nat):Int),qT I.item.text,vS ah I.item.mZ.length ai],rfl,⟨ah,ai,rfl,aL,aM,aN,bK,bx⟩,aI⟩,rfl⟩;refine A4 F M (k:=1) (k2:=0) rfl rfl Db.k Cn rfl rfl tD rfl rfl tX tO rfl ?_;clear F M a;intro d9 w a M F
    have br:=Els.append Ek bm;obtain ⟨b0,b8,rfl,bX,bM,c6⟩:=M.rS (k:=1) rfl;revert a;refine wk ?_;intro a F
    exact ⟨_,tM,k+1,(b0),(nk+1),(b8),ae++([iU ((I.item.key:Nat):Int),iB ((I.item.typ:Nat):Int),qT I.item.text,vS ah I.item.mZ.length ai,iI I.size,vB I.known]),rfl,fU,(M.wn tW),tM,by have N:=br;rwa [List.append_assoc,mv_snoc aK tM] at N,tM,tM⟩
   intro dq;refine wk ?_
   rcases (show (i=q∧k=u)∨(¬ i=q∧k=0) by omega) with ⟨bg,a3⟩ | ⟨bg,a3⟩
   ·skip
    have ap:((l.drop p).take u).take k=(l.drop p).take u:=List.take_of_length_le (by rw [lT];omega);intro a F;rw [ap] at Ek;revert a;refine wk ?_;refine qD rfl ?_ ?_
    ·intro dr;refine wk ?_;obtain ⟨A,al⟩:=Aq (xs:=(C1 l p u [])) (i:=i) tM;obtain ⟨cV,di,_,cL,_,cG,aW⟩:=Sq5.at al;obtain ⟨cj,aC,aS,au⟩:=aW;obtain ⟨O,Y,rfl,ay,a4,a8,bh,aO⟩:=aS;subst aC;have cv:(A.item.key < 18446744073709551616∧A.item.typ < 256∧A.item.text.length≤9223372036854775807):=⟨ay,a4,a8⟩;have cz:-9223372036854775808≤A.size∧A.size≤9223372036854775807:=au;refine wk ?_;intro a F;refine Ar F M Db.k Cn rfl rfl (cs:=[iU ((A.item.key:Nat):Int),iB ((A.item.typ:Nat):Int),qT A.item.text,vS O A.item.mZ.length Y,iI A.size,vB A.known]) rfl rfl tS tD rfl ?_;clear F M a;intro dA w a M F;obtain ⟨cR,db,rfl,bY,bN,c7⟩:=M.rS (k:=0) rfl;have bn:Els Bj 6 ag [iU ((A.item.key:Nat):Int),iB ((A.item.typ:Nat):Int),qT A.item.text,vS O A.item.mZ.length Y,iI A.size,vB A.known] [A]:=⟨[iU ((A.item.key:Nat):Int),iB ((A.item.typ:Nat):Int),qT A.item.text,vS O A.item.mZ.length Y,iI A.size,vB A.known],[],rfl,rfl,⟨[iU ((A.item.key:Nat):Int),iB ((A.item.typ:Nat):Int),qT A.item.text,vS O A.item.mZ.length Y],rfl,⟨O,Y,rfl,ay,a4,a8,bh,aO⟩,au⟩,rfl⟩;refine A4 F M (k:=1) (k2:=0) rfl rfl Db.k Cn rfl rfl tD rfl rfl tX tO rfl ?_;clear F M a;intro dB w a M F
     have bt:=Els.append Ek bn;obtain ⟨b1,b9,rfl,bZ,bO,c8⟩:=M.rS (k:=1) rfl;revert a;refine wk ?_;intro a F
     exact ⟨_,tM,i+1,(b1),(nk+1),(b9),ae++([iU ((A.item.key:Nat):Int),iB ((A.item.typ:Nat):Int),qT A.item.text,vS O A.item.mZ.length Y,iI A.size,vB A.known]),rfl,fU,(M.wn tW),tM,by have N:=bt;first | rwa [H1 al tM] at N | rwa [Gf al tM] at N | rwa [F6 tM tM] at N | rwa [Ed tM tM tM] at N,tM⟩
    intro dt;refine wk ?_;intro a F
    exact ⟨_,tM,i+1,(ak),(nk),(ck),ae,rfl,fU,M,tM,by have N:=Ek;first | rwa [H1 hX0 tM] at N | rwa [Gf hX0 tM] at N | rwa [F6 tM tM] at N | rwa [Ed tM tM tM] at N,tM⟩
   have ap:((l.drop p).take u).take k=[]:=by rw [a3];rfl
   intro a F;rw [ap,List.append_nil] at Ek;revert a;refine wk ?_;refine qD rfl ?_ ?_
   ·intro du;refine wk ?_;obtain ⟨D,am⟩:=Aq (xs:=(C1 l p u [])) (i:=i) tM;obtain ⟨cW,dj,_,cM,_,cH,aX⟩:=Sq5.at am;obtain ⟨cl,aD,aT,av⟩:=aX;obtain ⟨T,aa,rfl,az,a5,a9,bi,aP⟩:=aT;subst aD;have cw:(D.item.key < 18446744073709551616∧D.item.typ < 256∧D.item.text.length≤9223372036854775807):=⟨az,a5,a9⟩;have c0:-9223372036854775808≤D.size∧D.size≤9223372036854775807:=av;refine wk ?_;intro a F;refine Ar F M Db.k Cn rfl rfl (cs:=[iU ((D.item.key:Nat):Int),iB ((D.item.typ:Nat):Int),qT D.item.text,vS T D.item.mZ.length aa,iI D.size,vB D.known]) rfl rfl tS tD rfl ?_;clear F M a;intro dC w a M F;obtain ⟨cS,dc,rfl,ca,bP,c9⟩:=M.rS (k:=0) rfl;have bo:Els Bj 6 ag [iU ((D.item.key:Nat):Int),iB ((D.item.typ:Nat):Int),qT D.item.text,vS T D.item.mZ.length aa,iI D.size,vB D.known] [D]:=⟨[iU ((D.item.key:Nat):Int),iB ((D.item.typ:Nat):Int),qT D.item.text,vS T D.item.mZ.length aa,iI D.size,vB D.known],[],rfl,rfl,⟨[iU ((D.item.key:Nat):Int),iB ((D.item.typ:Nat):Int),qT D.item.text,vS T D.item.mZ.length aa],rfl,⟨T,aa,rfl,az,a5,a9,bi,aP⟩,av⟩,rfl⟩;refine A4 F M (k:=1) (k2:=0) rfl rfl Db.k Cn rfl rfl tD rfl rfl tX tO rfl ?_;clear F M a;intro dD w a M F
    have bu:=Els.append Ek bo;obtain ⟨b3,bA,rfl,cb,bQ,cA⟩:=M.rS (k:=1) rfl;revert a;refine wk ?_;intro a F
    exact ⟨_,tM,i+1,(b3),(nk+1),(bA),ae++([iU ((D.item.key:Nat):Int),iB ((D.item.typ:Nat):Int),qT D.item.text,vS T D.item.mZ.length aa,iI D.size,vB D.known]),rfl,fU,(M.wn tW),tM,by have N:=bu;first | rwa [H1 am tM] at N | rwa [Gf am tM] at N | rwa [F6 tM tM] at N | rwa [Ed tM tM tM] at N,tM⟩
   intro dv;refine wk ?_;intro a F
   exact ⟨_,tM,i+1,(ak),(nk),(ck),ae,rfl,fU,M,tM,by have N:=Ek;first | rwa [H1 hX0 tM] at N | rwa [Gf hX0 tM] at N | rwa [F6 tM tM] at N | rwa [Ed tM tM tM] at N,tM⟩
  have dw:=dF bF;refine wk ?_
  rcases (show (i=q∧k=u)∨(¬ i=q∧k=0) by omega) with ⟨bg,a3⟩ | ⟨bg,a3⟩
  ·skip
   have ap:((l.drop p).take u).take k=(l.drop p).take u:=List.take_of_length_le (by rw [lT];omega);intro a F;rw [ap] at Ek;revert a;refine wk ?_;refine qD rfl ?_ ?_
   ·intro dx;refine wk ?_;obtain ⟨E,an⟩:=Aq (xs:=(C1 l p u [])) (i:=i) tM;obtain ⟨cX,dk,_,cO,_,cI,aY⟩:=Sq5.at an;obtain ⟨cm,aE,aU,aw⟩:=aY;obtain ⟨U,ab,rfl,a0,a6,aA,bj,aQ⟩:=aU;subst aE;have cx:(E.item.key < 18446744073709551616∧E.item.typ < 256∧E.item.text.length≤9223372036854775807):=⟨a0,a6,aA⟩;have c2:-9223372036854775808≤E.size∧E.size≤9223372036854775807:=aw;refine wk ?_;intro a F;refine Ar F M Db.k Cn rfl rfl (cs:=[iU ((E.item.key:Nat):Int),iB ((E.item.typ:Nat):Int),qT E.item.text,vS U E.item.mZ.length ab,iI E.size,vB E.known]) rfl rfl tS tD rfl ?_;clear F M a;intro dE w a M F;obtain ⟨cT,de,rfl,cd,bR,cB⟩:=M.rS (k:=0) rfl;have bp:Els Bj 6 ag [iU ((E.item.key:Nat):Int),iB ((E.item.typ:Nat):Int),qT E.item.text,vS U E.item.mZ.length ab,iI E.size,vB E.known] [E]:=⟨[iU ((E.item.key:Nat):Int),iB ((E.item.typ:Nat):Int),qT E.item.text,vS U E.item.mZ.length ab,iI E.size,vB E.known],[],rfl,rfl,⟨[iU ((E.item.key:Nat):Int),iB ((E.item.typ:Nat):Int),qT E.item.text,vS U E.item.mZ.length ab],rfl,⟨U,ab,rfl,a0,a6,aA,bj,aQ⟩,aw⟩,rfl⟩;refine A4 F M (k:=1) (k2:=0) rfl rfl Db.k Cn rfl rfl tD rfl rfl tX tO rfl ?_;clear F M a;intro dG w a M F
    have bv:=Els.append Ek bp;obtain ⟨b4,bB,rfl,ce,bT,cD⟩:=M.rS (k:=1) rfl;revert a;refine wk ?_;intro a F
    exact ⟨_,tM,i+1,(b4),(nk+1),(bB),ae++([iU ((E.item.key:Nat):Int),iB ((E.item.typ:Nat):Int),qT E.item.text,vS U E.item.mZ.length ab,iI E.size,vB E.known]),rfl,fU,(M.wn tW),tM,by have N:=bv;first | rwa [H1 an tM] at N | rwa [Gf an tM] at N | rwa [F6 tM tM] at N | rwa [Ed tM tM tM] at N,tM⟩
   intro dy;refine wk ?_;intro a F
   exact ⟨_,tM,i+1,(ak),(nk),(ck),ae,rfl,fU,M,tM,by have N:=Ek;first | rwa [H1 hX0 tM] at N | rwa [Gf hX0 tM] at N | rwa [F6 tM tM] at N | rwa [Ed tM tM tM] at N,tM⟩
  have ap:((l.drop p).take u).take k=[]:=by rw [a3];rfl
  intro a F;rw [ap,List.append_nil] at Ek;revert a;refine wk ?_;refine qD rfl ?_ ?_
  ·intro dz;refine wk ?_;obtain ⟨H,ao⟩:=Aq (xs:=(C1 l p u [])) (i:=i) tM;obtain ⟨cY,dl,_,cP,_,cJ,aZ⟩:=Sq5.at ao;obtain ⟨cn,aF,aV,ax⟩:=aZ;obtain ⟨V,ac,rfl,a2,a7,aB,bk,aR⟩:=aV;subst aF;have cy:(H.item.key < 18446744073709551616∧H.item.typ < 256∧H.item.text.length≤9223372036854775807):=⟨a2,a7,aB⟩;have c4:-9223372036854775808≤H.size∧H.size≤9223372036854775807:=ax;refine wk ?_;intro a F;refine Ar F M Db.k Cn rfl rfl (cs:=[iU ((H.item.key:Nat):Int),iB ((H.item.typ:Nat):Int),qT H.item.text,vS V H.item.mZ.length ac,iI H.size,vB H.known]) rfl rfl tS tD rfl ?_;clear F M a;intro dH w a M F;obtain ⟨cU,df,rfl,cf,bU,cE⟩:=M.rS (k:=0) rfl;have bq:Els Bj 6 ag [iU ((H.item.key:Nat):Int),iB ((H.item.typ:Nat):Int),qT H.item.text,vS V H.item.mZ.length ac,iI H.size,vB H.known] [H]:=⟨[iU ((H.item.key:Nat):Int),iB ((H.item.typ:Nat):Int),qT H.item.text,vS V H.item.mZ.length ac,iI H.size,vB H.known],[],rfl,rfl,⟨[iU ((H.item.key:Nat):Int),iB ((H.item.typ:Nat):Int),qT H.item.text,vS V H.item.mZ.length ac],rfl,⟨V,ac,rfl,a2,a7,aB,bk,aR⟩,ax⟩,rfl⟩;refine A4 F M (k:=1) (k2:=0) rfl rfl Db.k Cn rfl rfl tD rfl rfl tX tO rfl ?_;clear F M a;intro dI w a M F
   have bw:=Els.append Ek bq;obtain ⟨b5,bC,rfl,cg,bV,cF⟩:=M.rS (k:=1) rfl;revert a;refine wk ?_;intro a F
   exact ⟨_,tM,i+1,(b5),(nk+1),(bC),ae++([iU ((H.item.key:Nat):Int),iB ((H.item.typ:Nat):Int),qT H.item.text,vS V H.item.mZ.length ac,iI H.size,vB H.known]),rfl,fU,(M.wn tW),tM,by have N:=bw;first | rwa [H1 ao tM] at N | rwa [Gf ao tM] at N | rwa [F6 tM tM] at N | rwa [Ed tM tM tM] at N,tM⟩
  intro d0;refine wk ?_;intro a F
  exact ⟨_,tM,i+1,(ak),(nk),(ck),ae,rfl,fU,M,tM,by have N:=Ek;first | rwa [H1 hX0 tM] at N | rwa [Gf hX0 tM] at N | rwa [F6 tM tM] at N | rwa [Ed tM tM tM] at N,tM⟩
 intro d1;refine wk ?_;intro a F;rw [Ahk tM tM] at Er;change Els Bj 6 _ _ (R0 l p u q) at Er;obtain ⟨bl,cK,b6,bD,aj,bf,aH,M⟩:=M.fZ Ab (k:=0) rfl Er tD;clear bf b6 bD;rw [bl] at F aH;revert a;refine wk ?_;refine Co rfl rfl rfl<|?_
 exact ⟨_,(aJ.trans aj),M.wn (sR _),ar,cr,by rw [Agu aG,Int.toNat_natCast,Int.toNat_natCast,Int.toNat_natCast],by rw [Agu aG,Int.toNat_natCast,Int.toNat_natCast,Int.toNat_natCast];exact aH⟩
section
variable {c:RulesD} {x:ItemD}
theorem it_6 (h:E7 c x ((0:Int)=1)=6):¬ ItemOk (c.kZ.length:Int) x:=fun A=>by
 by_cases h3:Hz c x=0
 ·rw [Lj A tD h3] at h;cases h
 rw [Kt A tD h3] at h;cases h
theorem Qb (h:¬ E7 c x ((0:Int)=1)=6):ItemOk (c.kZ.length:Int) x:=Classical.byContradiction fun A=>h (R8 A)
theorem Azh (A:ItemOk (c.kZ.length:Int) x) (h:0 < E7 c x ((0:Int)=1)):E7 c x ((0:Int)=1)=14∧¬ Hz c x=0:=by
 by_cases h3:Hz c x=0
 ·rw [Lj A tD h3] at h;omega
 exact ⟨Kt A tD h3,h3⟩
theorem it_0 (A:ItemOk (c.kZ.length:Int) x) (h:¬ 0 < E7 c x ((0:Int)=1)):Hz c x=0:=(Fj.1 (Acq h)).2.2
theorem Jp {l:List EntD} {q k:Nat} {y:EntD} (h:l[q]?=some y):Qs l q k↔y.item.key≠k:=⟨fun A=>A y h,fun A z D=>by rw [h] at D;simp only [Option.some.injEq] at D;subst D;exact A⟩
end
theorem fr_at {c:RulesD} {xs:List ItemD} {k:Nat} {x:ItemD} (h:xs[k]?=some x):(xs.map (B8 c))[k]?=some (B8 c x):=by rw [List.getElem?_map,h];rfl
theorem A1x (M:Mem w0 G L w) {c:RulesD} {ac:Option Addr} {ae:Nat} (SC:Aj Cq 9 G (vS ac c.kZ.length ae) c.kZ) (bA:Dd c) {a1:Option Addr} {c1:Nat} {l:List EntD} (S:Aj Bj 6 G (vS a1 l.length c1) l) {z:Int} {ta:Option Addr} {tc:Nat} {xs:List ItemD} (T:Aj Bp 4 G (vS ta xs.length tc) xs) (c5:l.length≤1024):Calls pG 73 #[.agg #[vS ac c.kZ.length ae,iI c.cap],vS a1 l.length c1,iI z,vS ta xs.length tc] w (Ret w0 G L fun G' v=>∃ (a:Option Addr) (cc:Nat),v=.tuple #[vS a (Jw c l z xs).1.length cc,iI (Jw c l z xs).2]∧Aj Bj 6 G' (vS a (Jw c l z xs).1.length cc) (Jw c l z xs).1):=by
 have bS:=S.bound;have bT:=T.bound;refine Ap (vs:=[_,_,_,_]) Tryz.func73 rfl (n:=80) rfl rfl<|?_
 refine Bt<|?_
 refine Ch M rfl rfl rfl<|?_;clear M;intro b1 w M
 refine wk ?_;refine A2 Aec rfl rfl (Lk (z:=z) (n:=((xs.length:Nat):Int)) (m:=((l.length:Nat):Int)) M tM)<|?_;clear M;rintro _ w M rfl
 refine wk ?_;refine qD rfl ?_ ?_
 ·intro h2;refine wk ?_;refine Co rfl rfl rfl<|?_
  exact ⟨_,(Gle.refl _),M.wn dS1,none,0,by rw [Apu (Gw.1 tA)];rfl,by rw [Apu (Gw.1 tA)];exact Aj.nil⟩
 intro h3;refine wk ?_;have I:Ay z ((xs.length:Nat):Int) ((l.length:Nat):Int):=Classical.byContradiction fun h_=>absurd (Gw.2 h_) tA;have bb:=I;unfold Ay at bb;obtain ⟨p,rfl⟩:=Int.eq_ofNat_of_zero_le (show 0≤z by omega);refine wk ?_;have M:=M.nilrow 69 6;replace M:=z_M M;intro a F;refine Bd (fun m a' w'=>∃ (i:Nat),∃ (ar:Option Addr),∃ (nr:Nat),∃ (cr:Nat),∃ (ag:List Value),m=l.length - i∧Fits 80 a' [(1,vS a1 l.length c1),(2,iI ((p:Nat):Int)),(3,vS ta xs.length tc),(4,pP b1),(10,vS ar nr cr),(11,iI ((i:Nat):Int))]∧Mem w0 G (rR (vS ar nr cr) (nr) (ag) 69 6::rB b1 [vS ac c.kZ.length ae,iI c.cap] 51::L) w'∧(i≤l.length)∧(Els Bj 6 G ag (l.take i))∧(nr≤i)) _ ⟨0,none,0,0,[],rfl,fU,M,tM,by rw [List.take_zero];exact Els.nil,tM⟩ ?_;clear F M;rintro m a w ⟨i,ar,nr,cr,ag,rfl,F,M,hi,Er,c7⟩;revert a;refine wk ?_;refine qD rfl ?_ ?_
 ·intro h4;refine wk ?_;obtain ⟨A,ap⟩:=Aq (xs:=l) (i:=i) tM;obtain ⟨cp,c8,_,cn,_,cm,ba⟩:=S.at ap;obtain ⟨bZ,aA,aZ,ao⟩:=ba;obtain ⟨N,O,rfl,aq,au,av,be,aW⟩:=aZ;subst aA;have cd:(A.item.key < 18446744073709551616∧A.item.typ < 256∧A.item.text.length≤9223372036854775807):=⟨aq,au,av⟩;have ce:-9223372036854775808≤A.size∧A.size≤9223372036854775807:=ao;refine wk ?_;intro a F;refine Ar F M Db.k Cn rfl rfl (cs:=[iU ((A.item.key:Nat):Int),iB ((A.item.typ:Nat):Int),qT A.item.text,vS N A.item.mZ.length O,iI A.size,vB A.known]) rfl rfl tS tD rfl ?_;clear F M a;intro v6 w a M F;obtain ⟨co,cq,rfl,b0,bw,cf⟩:=M.rS (k:=0) rfl;have bf:Els Bj 6 G [iU ((A.item.key:Nat):Int),iB ((A.item.typ:Nat):Int),qT A.item.text,vS N A.item.mZ.length O,iI A.size,vB A.known] [A]:=⟨[iU ((A.item.key:Nat):Int),iB ((A.item.typ:Nat):Int),qT A.item.text,vS N A.item.mZ.length O,iI A.size,vB A.known],[],rfl,rfl,⟨[iU ((A.item.key:Nat):Int),iB ((A.item.typ:Nat):Int),qT A.item.text,vS N A.item.mZ.length O],rfl,⟨N,O,rfl,aq,au,av,be,aW⟩,ao⟩,rfl⟩;refine A4 F M (k:=1) (k2:=0) rfl rfl Db.k Cn rfl rfl tD rfl rfl tX tO rfl ?_;clear F M a;intro v8 w a M F
  have bh:=Els.append Er bf;obtain ⟨bl,bo,rfl,b3,bx,cg⟩:=M.rS (k:=1) rfl;revert a;refine wk ?_;intro a F
  exact ⟨_,tM,i+1,(bl),(nr+1),(bo),ag++([iU ((A.item.key:Nat):Int),iB ((A.item.typ:Nat):Int),qT A.item.text,vS N A.item.mZ.length O,iI A.size,vB A.known]),rfl,fU,(M.wn tW),tM,by have h_:=bh;rwa [← Mb ap] at h_,tM⟩
 intro h9;refine wk ?_;have bg:Els Bj 6 G ag (C1 l p 0 ((xs.map (B8 c)).take 0)):=by rw [List.take_zero,Auz];rwa [List.take_of_length_le tM] at Er
 intro a F;refine Bd (fun m a' w'=>∃ (k:Nat),∃ (ax:List Value),m=xs.length - k∧Fits 80 a' [(1,vS a1 l.length c1),(2,iI ((p:Nat):Int)),(3,vS ta xs.length tc),(4,pP b1),(10,vS ar nr cr),(12,iI ((k:Nat):Int))]∧Mem w0 G (rR (vS ar nr cr) (nr) (ax) 69 6::rB b1 [vS ac c.kZ.length ae,iI c.cap] 51::L) w'∧(k≤xs.length)∧(Els Bj 6 G ax (C1 l p k ((xs.map (B8 c)).take k)))∧(Bv (Js c l p xs) k=0)) _ ⟨0,ag,rfl,fU,M,tM,bg,rfl⟩ ?_;clear F M;rintro m a w ⟨k,ax,rfl,F,M,hk,Ek,hS⟩;revert a;refine wk ?_;refine qD rfl ?_ ?_
 ·intro ct;refine wk ?_;obtain ⟨D,H⟩:=Aq (xs:=xs) (i:=k) tM;obtain ⟨Yk,ah⟩:=Aq (xs:=l) (i:=p+k) tM;intro a F;refine Dv [(true,0),(true,1),(true,2),(true,3),(true,4),(false,5),(true,6)] (Keep G [rB b1 [vS ac c.kZ.length ae,iI c.cap] 51]) rfl kR kF (Aw (M.drew _)) ?_;replace M:=M.drew (w.drawn+1);revert a;refine wk ?_;obtain ⟨bU,ci,_,bP,_,bK,a5⟩:=T.at H;obtain ⟨bB,bG,rfl,aC,aI,aN,b5,aw⟩:=a5;have a2:(D.key < 18446744073709551616∧D.typ < 256∧D.text.length≤9223372036854775807):=⟨aC,aI,aN⟩;refine wk ?_;refine l_a rfl<|A2 Apm rfl rfl (M8 (c:=c) (x:=D) (sn:=0) M SC bA a2 aw)<|?_;clear M;rintro _ w M rfl
  refine Ao<|?_
  refine eQ (Aw M)<|wk ?_;refine qD rfl ?_ ?_
  ·intro cu;refine wk ?_;refine Co rfl rfl rfl<|?_
   exact ⟨_,(Gle.refl _),M.wn dS2,none,0,by rw [Aba I (i:=k) hS H (Alw (it_6 tA)) tD];rfl,by rw [Aba I (i:=k) hS H (Alw (it_6 tA)) tD];exact Aj.nil⟩
  intro cv;refine wk ?_;refine fun a F=>Dv [(true,0),(true,1),(true,2),(true,3),(true,4),(true,5),(true,6),(true,7),(true,8),(true,9),(true,10),(true,11),(true,12),(true,13)] (Keep G [rB b1 [vS ac c.kZ.length ae,iI c.cap] 51]) rfl kR kF (Aw (M.drew _)) ?_;replace M:=M.drew (w.drawn+1);revert a;refine wk ?_;obtain ⟨bV,cj,_,bQ,_,bL,a6⟩:=S.at ah;obtain ⟨bm,ak,a3,az⟩:=a6;obtain ⟨bC,bH,rfl,aD,aJ,aO,b6,bi⟩:=a3;subst ak;have bq:(Yk.item.key < 18446744073709551616∧Yk.item.typ < 256∧Yk.item.text.length≤9223372036854775807):=⟨aD,aJ,aO⟩;have bu:-9223372036854775808≤Yk.size∧Yk.size≤9223372036854775807:=az;refine wk ?_;obtain ⟨bW,ck,_,bR,_,bM,a7⟩:=T.at H;obtain ⟨bD,bI,rfl,aE,aK,aP,b7,bj⟩:=a7;have br:(D.key < 18446744073709551616∧D.typ < 256∧D.text.length≤9223372036854775807):=⟨aE,aK,aP⟩;refine wk ?_
  generalize ({ w with drawn:=w.drawn+1 }:World)=w at M ⊢
  refine wk ?_;refine Ag rfl ?_ ?_
  ·intro am;have cw:=dF (Ad am);have ca:(decide (((Yk.item.key:Nat):Int)=((D.key:Nat):Int)))=false:=(Ad am);refine wk ?_;refine Co rfl rfl rfl<|?_
   exact ⟨_,(Gle.refl _),M.wn dS2,none,0,by rw [Aba I (i:=k) hS H (Alv (Qb tA) ((Jp ah).2 tM)) tD];rfl,by rw [Aba I (i:=k) hS H (Alv (Qb tA) ((Jp ah).2 tM)) tD];exact Aj.nil⟩
  intro an;have cx:=dT (Ae an);have cb:(decide (((Yk.item.key:Nat):Int)=((D.key:Nat):Int)))=true:=(Ae an);refine wk ?_;refine qD rfl ?_ ?_
  ·intro cy;refine wk ?_;refine Co rfl rfl rfl<|?_
   have bp:=(Azh (Qb (c:=c) (x:=D) tA) tA).1
   exact ⟨_,(Gle.refl _),M.wn dS2,none,0,by rw [Aba I (i:=k) hS H (Aei (Qb tA) (fun h_=>(Jp ah).1 h_ tM) (Azh (Qb tA) tA).2) tD,bp];rfl,by rw [Aba I (i:=k) hS H (Aei (Qb tA) (fun h_=>(Jp ah).1 h_ tM) (Azh (Qb tA) tA).2) tD];exact Aj.nil⟩
  intro cz;refine D8<|Gd<|?_
  obtain ⟨kd,hK⟩:=J5 (Qb (c:=c) (x:=D) tA);have c6:(C1 l p k ((xs.map (B8 c)).take k)).length=l.length:=by rw [Kp tM,lT,lM];omega
  intro a F;refine Dv [(true,0),(true,1),(true,2),(true,3),(true,4),(true,5),(true,6),(true,7),(true,8),(false,9),(true,10),(false,11)] (Keep G [rB b1 [vS ac c.kZ.length ae,iI c.cap] 51]) rfl kR kF (Aw (M.drew _)) ?_;replace M:=M.drew (w.drawn+1);revert a;refine lMv rfl<|lMv rfl<|lMv rfl<|l_r (fun a F w M=>Fx (F.ev rfl) (F.ev rfl) (Bi tM tM)) rfl<|lLb Fo 0 rfl rfl rfl rfl<|lMv rfl<|lMv rfl<|?_
  obtain ⟨bX,cl,_,aU,_,aS,a8⟩:=T.at H;obtain ⟨V,Y,rfl,aF,aL,aQ,b8,ab⟩:=a8;have U:(D.key < 18446744073709551616∧D.typ < 256∧D.text.length≤9223372036854775807):=⟨aF,aL,aQ⟩;refine l_r (fun a F w M=>Fw Ci.k Bc (F.ev rfl) (F.ev rfl) tM aU) rfl<|l_r (fun a F w M=>Cv Bc rfl (F.ev rfl) (cs:=[iU ((D.key:Nat):Int),iB ((D.typ:Nat):Int),qT D.text,vS V D.mZ.length Y]) rfl (M.cellsA aS 0 tM rfl)) rfl<|?_
  refine l_a rfl<|A2 Apl rfl rfl (Le (c:=c) (x:=D) M SC U ab hK)<|?_;clear M;rintro _ w M rfl
  refine Ao<|?_
  refine eQ (Aw M)<|?_
  obtain ⟨aa,aj⟩:=Aq (xs:=(C1 l p k ((xs.map (B8 c)).take k))) (i:=p+k) tM;obtain ⟨bY,_,aV,b4,_,bN,a9⟩:=M.atRow (k:=0) rfl tD Ek aj;obtain ⟨bn,al,a4,a0⟩:=a9;obtain ⟨bF,bJ,rfl,aG,aM,aR,b9,bk⟩:=a4;subst al;have bt:(aa.item.key < 18446744073709551616∧aa.item.typ < 256∧aa.item.text.length≤9223372036854775807):=⟨aG,aM,aR⟩;have bv:-9223372036854775808≤aa.size∧aa.size≤9223372036854775807:=a0;refine wk ?_;refine l_a rfl<|fun a F=>?_
  refine M7 F M Cn (k:=0) rfl rfl Ek aV (A3 aj) rfl rfl (us:=[iU ((D.key:Nat):Int),iB ((D.typ:Nat):Int),qT D.text,vS V D.mZ.length Y,iI (Dt c D),vB false]) rfl rfl tS (X':=(B8 c D)) (⟨[iU ((D.key:Nat):Int),iB ((D.typ:Nat):Int),qT D.text,vS V D.mZ.length Y],rfl,⟨V,Y,rfl,U.1,U.2.1,U.2.2,(by have h_:=ab.bound;show D.mZ.length≤_;omega),ab⟩,Ob SC hK⟩) ?_;clear F M a;intro ay w a M aT F;revert a;refine Ao<|?_
  refine eQ (Aw M)<|wk ?_;intro a F
  exact ⟨_,tM,k+1,ay,rfl,fU,M,tM,by have h_:=aT;rwa [Ava (fr_at H) (by rw [lM];omega)] at h_,chg_ok hS H (A1z (Qb tA) (fun h_=>(Jp ah).1 h_ tM) (it_0 (Qb tA) tA))⟩
 intro c0;refine wk ?_;have bz:k=xs.length:=by omega
 subst bz;intro a F;rw [List.take_of_length_le (by rw [lM];omega)] at Ek;obtain ⟨aH,bO,aX,aY,E,aB,ai,M⟩:=M.fZ Ab (k:=0) rfl Ek tD;clear aB aX aY;rw [aH] at F ai;revert a;refine wk ?_;refine A2 ent80 rfl rfl (V9 (l:=(C1 l p xs.length (xs.map (B8 c)))) M ai)<|?_;clear M;rintro _ w M rfl
 refine wk ?_;refine qD rfl ?_ ?_
 ·intro c2;refine wk ?_;refine Co rfl rfl rfl<|?_
  exact ⟨_,E,M.wn dS1,none,0,by rw [Aeh I hS (by rw [Int.toNat_natCast];omega)];rfl,by rw [Aeh I hS (by rw [Int.toNat_natCast];omega)];exact Aj.nil⟩
 intro c4;refine wk ?_;refine Co rfl rfl rfl<|?_
 exact ⟨_,E,M.wn dS1,ar,cr,by rw [Apv I hS (by rw [Int.toNat_natCast];unfold Dp at *;split at * <;> omega),Int.toNat_natCast],by rw [Apv I hS (by rw [Int.toNat_natCast];unfold Dp at *;split at * <;> omega),Int.toNat_natCast];exact ai⟩
theorem Awx (M:Mem w0 G L w) {c:RulesD} {D:Option Addr} {E:Nat} (SC:Aj Cq 9 G (vS D c.kZ.length E) c.kZ) (O:Dd c) {U:Option Addr} {V:Nat} {xs:List ItemD} (T:Aj Bp 4 G (vS U xs.length V) xs) (ab:xs.length≤4000000):Calls pG 74 #[.agg #[vS D c.kZ.length E,iI c.cap],vS U xs.length V] w (Ret w0 G L fun Y v=>∃ (a:Option Addr) (S:Nat),v=.tuple #[vS a (Gy c [] 0 xs).1.length S,iI (Gy c [] 0 xs).2]∧Aj Bj 6 Y (vS a (Gy c [] 0 xs).1.length S) (Gy c [] 0 xs).1):=by
 refine Ap (vs:=[_,_]) Tryz.func74 rfl (n:=11) rfl rfl<|?_
 refine Bt<|?_
 refine Ch M rfl rfl rfl<|?_;clear M;intro b1 w M
 refine wk ?_;refine C3 ent70 rfl rfl (Ahj (c:=c) (l:=([]:List EntD)) (z:=0) (xs:=xs) M SC O Aj.nil T (by exact Nat.zero_le _) tM)<|?_;clear M;rintro _ aa w A M ⟨I,N,rfl,H⟩
 refine wk ?_;refine Co rfl rfl rfl<|?_
 exact ⟨_,A,M.wn dS1,I,N,rfl,H⟩
end Go.Proofs.YtmmhmcplegpenaaGreatDoor
namespace Go.Y
open Go
section
variable {w0 w:World} {G:Av} {L Ls:List Res}
open Classical in
noncomputable def P0 (G:Av) (Ls:List Res) (w:World):Av:=fun r=>if ∃ x∈Ls,x.foot=some r then w.heap[r]? else G r
theorem Adl {x:Res} (D:x∈Ls) {b:Nat} (A:x.foot=some b):P0 G Ls w b=w.heap[b]?:=by
 unfold P0;rw [if_pos ⟨x,D,A⟩]
theorem Mem.lend (M:Mem w0 G (Ls++L) w):Gle G (P0 G Ls w)∧Mem w0 (P0 G Ls w) L w:=by
 have D:∀ r,(∃ x∈Ls,x.foot=some r)→G r=none:=fun r ⟨x,E,H⟩=>M.free x (List.mem_append_left _ E) r H;refine ⟨fun r o A=>?_,⟨M.os,M.tape,M.output,M.grow,fun r o A=>?_,fun x E=>M.own x (List.mem_append_right _ E),fun x E b H=>?_,(List.pairwise_append.1 M.apart).2.1⟩⟩
 ·unfold P0
  by_cases h:∃ x∈Ls,x.foot=some r
  ·rw [D r h] at A;cases A
  rw [if_neg h];exact A
 ·unfold P0 at A
  by_cases h:∃ x∈Ls,x.foot=some r
  ·rw [if_pos h] at A;exact A
  rw [if_neg h] at A;exact M.pers r o A
 unfold P0;rw [if_neg]
 ·exact M.free x (List.mem_append_right _ E) b H
 rintro ⟨y,N,I⟩
 exact (List.pairwise_append.1 M.apart).2.2 y N x E b I H
theorem Mem.back {w':World} (M:Mem w0 G (Ls++L) w) (A:Mem w0 (P0 G Ls w) L w'):Mem w0 G (Ls++L) w':=by
 have H:=M.lend.1;refine ⟨A.os,A.tape,A.output,A.grow,fun r o O=>A.pers r o (H r o O),fun x D=>?_,M.free,M.apart⟩
 rcases List.mem_append.1 D with D | D
 ·refine Res.holds_of (M.own x (List.mem_append_left _ D)) fun b I=>?_;have E:=Res.foot_lt (M.own x (List.mem_append_left _ D)) I;have N:P0 G Ls w b=some w.heap[b]:=by rw [Adl D I];exact Array.getElem?_eq_getElem E
  rw [A.pers b _ N,Array.getElem?_eq_getElem E]
 exact A.own x D
theorem Ks {α:Type} {rd:Rd α} {sz:Nat} {a:Option Addr} {c:Nat} {cs:List Value} {t:TypeId} {xs:List α} (M:Mem w0 G (Ls++L) w) (T:Res.row (vS a xs.length c) xs.length cs t sz∈Ls) (hE:Els rd sz (P0 G Ls w) cs xs) (hs:0 < sz) :
  Aj rd sz (P0 G Ls w) (vS a xs.length c) xs:=by
 obtain ⟨⟨hl,h2⟩,Y⟩:=M.own _ (List.mem_append_left L T)
 rcases h2 with ⟨h,V⟩ | ⟨g,U,D,S,_,hg,O,H,aa,A⟩
 ·have:xs=[]:=List.eq_nil_of_length_eq_zero V;subst this;simp only [Value.slice.injEq] at h;obtain ⟨rfl,_,rfl⟩:=h
  exact Aj.nil
 simp only [Value.slice.injEq,true_and] at S;obtain ⟨rfl,rfl⟩:=S;refine Aj.of_cells (cs:=cs) hE Y ?_ O (by simpa [maxLen] using H);intro j u I;have N:j < xs.length * sz:=by
  rw [← hl]
  rcases Nat.lt_or_ge j cs.length with E | E
  ·exact E
  simp [List.getElem?_eq_none E] at I
 rw [← A,List.getElem?_take,if_pos N] at I;have h9:P0 G Ls w g=some (.cells D t (0,0)):=by rw [Adl T rfl];exact hg
 simp only [Ic,h9,Nat.zero_add]
 simpa using I
end
end Go.Y
