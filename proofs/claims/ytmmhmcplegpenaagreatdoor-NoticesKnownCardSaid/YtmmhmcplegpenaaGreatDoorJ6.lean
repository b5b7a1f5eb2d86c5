/- Own lemmas and walks. -/
import Derived.Test.YtmmhmcplegpenaaGreatDoorJ5
import Derived.Test.YtmmhmcplegpenaaGreatDoorYB
import Derived.Lib.IndexMore
import Derived.Lib.SplitLaws
import Derived.Lib.ParseIntB
import Derived.Lib.Join
import Derived.Test.YtmmhmcplegpenaaGreatDoorJ1
set_option linter.unusedSimpArgs false
set_option linter.unusedVariables false
set_option maxRecDepth 10000
set_option maxHeartbeats 1600000
open Go.Value renaming slice→vS,string→vT,int→vI,bool→vB,pointer→vP
open Go.IntKind renaming i64→kI,u64→kU
open Go.Lib renaming cut→xC
open Go.Proofs.Tryz renaming prog→pG
open Go.Y.Res renaming blk→rB,row→rR
open Go.Y (pP qT iI iB iU sN)
open List renaming length_append→lA,length_cons→lC,length_nil→lN,length_take→lT,length_drop→lD,mem_of_getElem?→mG,mem_cons→mC,length_map→lM
namespace Go.Proofs.YtmmhmcplegpenaaGreatDoor
open Go Go.Y
theorem Fb (u:Nat):Lib.decDigits u=(if u / 10=0 then [] else Lib.decDigits (u / 10))++[UInt8.ofNat (48+u % 10)]:=by
 rw [Lib.decDigits]
 split
 ·rename_i h
  rw [if_pos tM,Nat.mod_eq_of_lt h]
  rfl
 rename_i h
 rw [if_neg tM]
def Nr (c:UInt8):Prop:=48≤c.toNat∧c.toNat≤57
def L5:List UInt8→Nat→Nat
 | [],acc=>acc
 | c::r,acc=>L5 r (10 * acc+(c.toNat - 48))
theorem Abm:∀ (l:List UInt8) (acc:Nat),acc≤L5 l acc
 | [],acc=>Nat.le_refl _
 | c::r,acc=>by have:=Abm r (10 * acc+(c.toNat - 48));simp only [L5];omega
theorem Sp (c:UInt8):∀ (l:List UInt8) (acc:Nat),L5 (l++[c]) acc=10 * L5 l acc+(c.toNat - 48)
 | [],acc=>rfl
 | b::r,acc=>Sp c r _
instance (c:UInt8):Decidable (Nr c):=by unfold Nr;infer_instance
theorem Lm:∀ (u:Nat),∀ c∈Lib.decDigits u,Nr c:=by
 intro u
 induction u using Nat.strongRecOn with
 | _ u ih =>
  intro c A;rw [Fb] at A
  rcases List.mem_append.1 A with A | A
  ·split at A
   ·simp at A
   ·exact ih (u / 10) tM c A
  ·simp only [List.mem_singleton] at A;subst A;have D:(UInt8.ofNat (48+u % 10)).toNat=48+u % 10:=UInt8.toNat_ofNat_of_lt' (by show 48+u % 10 < 256;omega);unfold Nr
   omega
theorem J1:∀ (u:Nat),L5 (Lib.decDigits u) 0=u:=by
 intro u
 induction u using Nat.strongRecOn with
 | _ u ih =>
  have A:(UInt8.ofNat (48+u % 10)).toNat=48+u % 10:=UInt8.toNat_ofNat_of_lt' (by show 48+u % 10 < 256;omega);rw [Fb,Sp,A]
  split
  ·rename_i h;simp only [L5];omega
  ·rename_i h;rw [ih (u / 10) tM];omega
def ix (c:UInt8):List UInt8→Nat
 | []=>0
 | b::l=>if b=c then 0 else ix c l+1
theorem ix_le (c:UInt8):∀ (l:List UInt8),ix c l≤l.length
 | []=>Nat.le_refl _
 | b::l=>by have:=ix_le c l;unfold ix;split <;> simp only [lC] <;> omega
theorem Azd (c:UInt8):∀ (l:List UInt8) (m:Nat) (b:UInt8),m < ix c l→l[m]?=some b→b≠c
 | [],m,b,h,_=>by simp [ix] at h
 | a::l,m,b,h,hb=>by
  unfold ix at h
  split at h
  ·omega
  ·rename_i ha
   cases m with
   | zero=>simp at hb;subst hb;exact ha
   | succ m=>exact Azd c l m b tM (by simpa using hb)
theorem Aze (c:UInt8):∀ (l:List UInt8),ix c l < l.length→l[ix c l]?=some c
 | [],h=>by simp at h
 | a::l,h=>by
  unfold ix at h ⊢
  split
  ·rename_i ha;subst ha;rfl
  ·rename_i ha
   rw [if_neg ha] at h;simp only [lC] at h;rw [List.getElem?_cons_succ]
   exact Aze c l tM
theorem Tl {c:UInt8}:∀ {l:List UInt8} {k:Nat},(∀ (m:Nat) (b:UInt8),m < k→l[m]?=some b→b≠c)→(l[k]?=some c∨k=l.length)→ix c l=k
 | [],k,_,h=>by
  rcases h with h | h
  ·simp at h
  ·simp [ix,h]
 | a::l,k,h,hk=>by
  unfold ix
  cases k with
  | zero =>
   rcases hk with hk | hk
   ·simp at hk;rw [if_pos hk]
   ·simp at hk
  | succ k =>
   have h0:=h 0 a tM (by simp);rw [if_neg h0,Tl (l:=l) (k:=k) (fun m b h1 h2=>h (m+1) b tM (by simpa using h2)) (by
    rcases hk with hk | hk
    ·left;simpa using hk
    ·right;simpa using hk)]
theorem Mm (c:UInt8):∀ (l:List UInt8),Lib.index l [c]=if ix c l < l.length then ((ix c l:Nat):Int) else -1
 | []=>by simp [Lib.index,ix]
 | b::l=>by
  have ih:=Mm c l;unfold Lib.index ix
  by_cases h:b=c
  ·subst h
   simp
  ·have hp:([c].isPrefixOf (b::l))=false:=by simp [List.isPrefixOf,Ne.symm h]
   rw [if_neg (by rw [hp];simp),if_neg h]
   by_cases hl:ix c l < l.length
   ·rw [if_pos hl] at ih;have h1:¬ (Lib.index l [c]==-1)=true:=by rw [ih,beq_iff_eq];omega
    have h2:ix c l+1 < (b::l).length:=by rw [lC];omega
    rw [if_neg h1,if_pos h2,ih]
    omega
   ·rw [if_neg hl] at ih;have h1:(Lib.index l [c]==-1)=true:=by rw [ih];rfl
    have h2:¬ ix c l+1 < (b::l).length:=by rw [lC];omega
    rw [if_pos h1,if_neg h2]
theorem Ni (c:UInt8) (l:List UInt8):xC l [c]=if ix c l < l.length then (l.take (ix c l),l.drop (ix c l+1),true) else (l,[],false):=by
 unfold xC;rw [Mm]
 by_cases h:ix c l < l.length
 ·simp only [if_pos h];rw [if_pos tM]
  simp
 simp only [if_neg h];rw [if_neg tM]
theorem E8 (c:UInt8) (s:List UInt8):(xC s [c]).1.length≤s.length∧(xC s [c]).2.1.length≤s.length:=by
 rw [Ni]
 split
 ·simp only [lT,lD];omega
 simp
theorem C7 (u:Nat) (h:u < 18446744073709551616):(Lib.decDigits u).length≤20:=by
 rw [Lib.decDigits_length]
 rcases Nat.eq_zero_or_pos u with A | A
 ·subst A;rw [Lib.nDigits_small tD];omega
 have D:=Lib.numDigits_eq u A h
 split at D <;> omega
theorem Adp {c:UInt8}:∀ {d e:List UInt8},c ∉ d→ix c (d++c::e)=d.length
 | [],e,_=>by simp [ix]
 | b::d,e,h=>by
  simp only [List.cons_append,lC];unfold ix;rw [if_neg (fun hb=>h (by rw [hb];simp)),Adp (fun hd=>h (by simp [hd]))]
theorem Aef (u:Nat):Lib.decDigits u≠[]:=by
 rw [Fb];simp
theorem Amz {most:Nat} (hm:most≤18446744073709551615):∀ (l:List UInt8) (acc:Nat),(∀ c∈l,Nr c)→L5 l acc≤most→Lib.parseUintM most acc l=.ok (L5 l acc)
 | [],acc,_,_=>rfl
 | c::r,acc,hd,hv=>by
  have hc:48≤c.toNat∧c.toNat≤57:=hd c (by simp);simp only [L5] at hv ⊢;have:=Abm r (10 * acc+(c.toNat - 48));unfold Lib.parseUintM;rw [if_pos hc,if_neg tM,if_neg tM,Nat.mul_comm acc 10]
  exact Amz hm r _ (fun x hx=>hd x (by simp [hx])) hv
theorem Acs {B u:Nat} (D:B≤64) (E:u < 2 ^ B):Lib.parseUintB B (Lib.decDigits u)=.ok u:=by
 unfold Lib.parseUintB;have A:2 ^ B≤2 ^ 64:=Nat.pow_le_pow_right tD D;rw [if_neg (Aef u),Amz tM _ _ (Lm u) (by rw [J1];omega),J1]
theorem Pw {c:UInt8} {u:Nat} (A:¬ Nr c):c ∉ Lib.decDigits u:=fun h=>A (Lm u c h)
theorem Iy {c:UInt8} {d e:List UInt8} (h:c ∉ d):xC (d++c::e) [c]=(d,e,true):=by
 rw [Ni,Adp h,if_pos (by simp)]
 simp
theorem X9 {c:UInt8} {d:List UInt8} (h:c ∉ d):xC d [c]=(d,[],false):=by
 have:ix c d=d.length:=Tl (fun m b _ A=>fun e=>h (e ▸ mG A)) (Or.inr rfl);rw [Ni,this,if_neg tM]
def Fp (ms:List (List UInt8)):List UInt8:=if ms=[] then [45] else Lib.join ms [44]
def Cx (x:ItemD):List UInt8:=Lib.decDigits x.key++[32]++Lib.decDigits x.typ++[32]++Fp x.mZ++[32]++x.text
theorem Ke {s:List UInt8} (h:C2 s) {c:UInt8} (A:¬ Dl c):c ∉ s:=fun D=>A (h.2 c D)
theorem R6 (m:List UInt8) (y:List UInt8) (r:List (List UInt8)):Lib.join (m::y::r) [44]=m++44::Lib.join (y::r) [44]:=by
 rw [Lib.join_cons,Lib.join_cons]
 simp [Lib.joinTail]
theorem Xh {c:UInt8} (hc:¬ Dl c) (h44:c≠44):∀ (ms:List (List UInt8)),(∀ s∈ms,C2 s)→c ∉ Lib.join ms [44]
 | [],_=>by simp [Lib.join_nil]
 | [m],h=>by rw [Lib.join_one];exact Ke (h m (by simp)) hc
 | m::y::r,h=>by
  rw [R6];intro hx
  rcases List.mem_append.1 hx with hx | hx
  ·exact Ke (h m (by simp)) hc hx
  ·rcases List.mem_cons.1 hx with hx | hx
   ·exact h44 hx
   ·exact Xh hc h44 (y::r) (fun s hs=>h s (by simp [hs])) hx
theorem join_ne {m:List UInt8} {r:List (List UInt8)} (h:C2 m):Lib.join (m::r) [44]≠[]:=by
 rw [Lib.join_cons];intro e;have A:=(List.append_eq_nil_iff.1 e).1;subst A
 exact absurd h.1.1 (by simp)
theorem Po {m:List UInt8} {r:List (List UInt8)} (h:C2 m):Lib.join (m::r) [44]≠[45]:=by
 rw [Lib.join_cons];intro e
 cases m with
 | nil=>exact absurd h.1.1 (by simp)
 | cons b m =>
  simp only [List.cons_append,List.cons.injEq] at e;have A:=h.2 b (by simp);rw [e.1] at A
  exact absurd A tD
theorem Aad {A:List (List UInt8)} (h:∀ s∈A,C2 s):(32:UInt8) ∉ Fp A∧(10:UInt8) ∉ Fp A:=by
 unfold Fp
 split
 ·exact ⟨tD,tD⟩
 exact ⟨Xh tD tD A h,Xh tD tD A h⟩
theorem Zi {s:List UInt8} (h:Str s):(10:UInt8) ∉ s:=fun A=>absurd (h.2 10 A) tD
theorem Qx {x:ItemD} (h:ItemOk 8 x):(10:UInt8) ∉ Cx x:=by
 obtain ⟨_,_,A,_,D⟩:=h;unfold Cx;simp only [List.mem_append,List.mem_singleton,not_or]
 exact ⟨⟨⟨⟨⟨⟨Pw tD,tD⟩,Pw tD⟩,tD⟩,(Aad D).2⟩,tD⟩,Zi A⟩
theorem line_r (x:ItemD):Cx x=Lib.decDigits x.key++32::(Lib.decDigits x.typ++32::(Fp x.mZ++32::x.text)):=by
 simp [Cx]
theorem Pn (x:ItemD) (e:List UInt8):xC (Cx x++e) [32]=(Lib.decDigits x.key,Lib.decDigits x.typ++32::(Fp x.mZ++32::(x.text++e)),true):=by
 rw [line_r,show Lib.decDigits x.key++32::(Lib.decDigits x.typ++32::(Fp x.mZ++32::x.text))++e=Lib.decDigits x.key++32::(Lib.decDigits x.typ++32::(Fp x.mZ++32::(x.text++e))) by simp]
 exact Iy (Pw tD)
theorem Kf (t:Nat) (r:List UInt8):xC (Lib.decDigits t++32::r) [32]=(Lib.decDigits t,r,true):=Iy (Pw tD)
theorem Pm {A:List (List UInt8)} (h:∀ s∈A,C2 s) (r:List UInt8):xC (Fp A++32::r) [32]=(Fp A,r,true):=Iy (Aad h).1
theorem Aos {b:Nat}:∀ (ms:List (List UInt8)),(∀ s∈ms,s.length≤b)→Lib.lens ms≤b * ms.length
 | [],_=>by simp [Lib.lens]
 | m::r,h=>by
  have h1:=Aos r (fun s hs=>h s (by simp [hs]));have h2:=h m (by simp);simp only [Lib.lens,List.map_cons,List.sum_cons,lC,Nat.mul_succ] at h1 ⊢
  omega
theorem Azb {A:List (List UInt8)} {b:Nat} (h:∀ s∈A,s.length≤b):(Lib.join A [44]).length≤(b+1) * A.length:=by
 cases A with
 | nil=>simp [Lib.join_nil]
 | cons m r =>
  rw [Lib.join_length];have D:=Aos (m::r) h;simp only [lC,lN,Nat.add_mul] at D ⊢
  omega
theorem Nc {A:List (List UInt8)} (D:A.length≤8) (h:∀ s∈A,C2 s):(Lib.join A [44]).length≤136:=by
 have H:=Azb (b:=16) (fun s E=>(h s E).1.2);have I:=Nat.mul_le_mul_left 17 D
 omega
theorem Aud {A:List (List UInt8)} (D:A.length≤8) (h:∀ s∈A,C2 s):(Fp A).length≤136:=by
 unfold Fp
 split
 ·decide
 exact Nc D h
theorem Kr {x:ItemD} {t:Int} (h:ItemOk t x) (H:x.key < 18446744073709551616) (T:x.typ < 256):(Cx x).length≤300:=by
 obtain ⟨_,_,A,D,E⟩:=h;have I:=Aud D E;have N:=C7 x.key H;have O:=C7 x.typ tM;have S:=A.1;unfold Cx;simp only [lA,lC,lN]
 omega
def Cg (s:List UInt8):List (List UInt8):=Lib.split s [44]
theorem Vr:∀ (k:Nat) (s:List UInt8) (p:List UInt8),p∈Lib.splitK [44] 0 k s→p.length≤s.length
 | 0,s,p,h=>by simp only [Lib.splitK,List.mem_singleton] at h;subst h;exact Nat.le_refl _
 | k+1,s,p,h=>by
  unfold Lib.splitK at h
  split at h
  ·simp only [List.mem_singleton] at h;subst h;exact Nat.le_refl _
  ·rcases List.mem_cons.1 h with rfl | h
   ·simp only [lT];omega
   ·have:=Vr k _ p h;simp only [lD] at this;omega
theorem Ajo {s p:List UInt8} (h:p∈Cg s):p.length≤s.length:=Vr _ _ _ h
theorem Ajn {m r:List UInt8} (k:Nat) (h:(44:UInt8) ∉ m):Lib.splitK [44] 0 (k+1) (m++44::r)=m::Lib.splitK [44] 0 k r:=by
 have A:Lib.index (m++44::r) [44]=((m.length:Nat):Int):=by rw [Mm,Adp h,if_pos (by simp)]
 rw [Lib.splitK,A,if_neg (by rw [beq_iff_eq];omega)]
 congr 1
 ·simp
 congr 1;simp
theorem Ub:∀ (m:List UInt8) (r:List (List UInt8)),(∀ s∈m::r,C2 s)→Lib.splitK [44] 0 r.length (Lib.join (m::r) [44])=m::r
 | m,[],_=>by simp [Lib.join_one,Lib.splitK]
 | m,y::r,h=>by
  rw [R6,lC,Ajn _ (Ke (h m (by simp)) tD),Ub y r (fun s hs=>h s (by simp [hs]))]
theorem Ya:∀ (m:List UInt8) (r:List (List UInt8)),(∀ s∈m::r,C2 s)→(Lib.join (m::r) [44]).count 44=r.length
 | m,[],h=>by
  rw [Lib.join_one];exact List.count_eq_zero.2 (Ke (h m (by simp)) tD)
 | m,y::r,h=>by
  rw [R6,List.count_append,List.count_cons_self,Ya y r (fun s hs=>h s (by simp [hs])),List.count_eq_zero.2 (Ke (h m (by simp)) tD)]
  simp
theorem N3 {A:List (List UInt8)} (h:∀ s∈A,C2 s) (D:A≠[]):Cg (Fp A)=A:=by
 cases A with
 | nil=>exact absurd rfl D
 | cons m r =>
  unfold Cg Lib.split Fp;rw [if_neg D,Lib.count_one,Ya m r h,Ub m r h]
def Rd8 (s:List UInt8) (x:ItemD):Prop:=ItemOk 8 x∧x.key < 18446744073709551616∧Cx x=s
theorem Aai {x y:ItemD} (N:ItemOk 8 x) (O:ItemOk 8 y) (aa:x.key < 18446744073709551616) (ab:y.key < 18446744073709551616) (e:Cx x=Cx y):x=y:=by
 have E:=Pn x [];have S:=Pn y [];rw [List.append_nil,List.append_nil] at E S;rw [e,S] at E;simp only [Prod.mk.injEq,and_true] at E;obtain ⟨T,U⟩:=E;have H:=Kf x.typ (Fp x.mZ++32::x.text);rw [← U,Kf] at H;simp only [Prod.mk.injEq,and_true] at H;obtain ⟨V,Y⟩:=H;have I:=Pm N.2.2.2.2 x.text;rw [← Y,Pm O.2.2.2.2] at I;simp only [Prod.mk.injEq,and_true] at I;obtain ⟨D,h6⟩:=I;refine Ml ?_ ?_ h6.symm ?_
 ·rw [← J1 x.key,← T,J1]
 ·rw [← J1 x.typ,← V,J1]
 by_cases hm:x.mZ=[]
 ·by_cases hn:y.mZ=[]
  ·rw [hm,hn]
  obtain ⟨m,r,A⟩:=List.exists_cons_of_ne_nil hn;rw [hm,A] at D;simp only [Fp,if_true,if_neg (List.cons_ne_nil m r)] at D
  exact absurd D (Po (O.2.2.2.2 m (by rw [A];simp)))
 by_cases hn:y.mZ=[]
 ·obtain ⟨m,r,A⟩:=List.exists_cons_of_ne_nil hm;rw [hn,A] at D;simp only [Fp,if_true,if_neg (List.cons_ne_nil m r)] at D
  exact absurd D.symm (Po (N.2.2.2.2 m (by rw [A];simp)))
 rw [← N3 N.2.2.2.2 hm,← D,N3 O.2.2.2.2 hn]
theorem Rd8.uniq {s:List UInt8} {x y:ItemD} (A:Rd8 s x) (D:Rd8 s y):x=y:=Aai A.1 D.1 A.2.1 D.2.1 (A.2.2.trans D.2.2.symm)
def Ce (l:List ItemD):List UInt8:=(l.map fun x=>Cx x++[10]).flatten
theorem Qh {l:List ItemD} {i:Nat} {x:ItemD} (h:l[i]?=some x):Ce (l.take (i+1))=Ce (l.take i)++(Cx x++[10]):=by
 unfold Ce;rw [List.take_add_one,h]
 simp
def Ih (l:List ItemD):Prop:=∀ x∈l,ItemOk 8 x
instance (l:List ItemD):Decidable (Ih l):=by unfold Ih;infer_instance
theorem Ih.no {l:List ItemD} {i:Nat} {x:ItemD} (h:l[i]?=some x) (D:¬ ItemOk 8 x):¬ Ih l:=fun A=>D (A x (mG h))
def K9 (l:List ItemD):Int:=if 1024 < l.length then 3 else if Ih l then 0 else 6
def Np (l:List ItemD):List UInt8:=if K9 l=0 then Ce l else []
theorem Kj {l:List ItemD} (h:1024 < l.length):K9 l=3∧Np l=[]:=by
 have:K9 l=3:=by unfold K9;rw [if_pos h]
 exact ⟨this,by unfold Np;rw [this];rfl⟩
theorem Ma {l:List ItemD} (h:l.length≤1024) (A:¬ Ih l):K9 l=6∧Np l=[]:=by
 have:K9 l=6:=by unfold K9;rw [if_neg tM,if_neg A]
 exact ⟨this,by unfold Np;rw [this];rfl⟩
theorem Mt {l:List ItemD} (h:l.length≤1024) (A:Ih l):K9 l=0∧Np l=Ce l:=by
 have:K9 l=0:=by unfold K9;rw [if_neg tM,if_pos A]
 exact ⟨this,by unfold Np;rw [if_pos this]⟩
theorem Aag {x:ItemD} (h:¬ Lib.join x.mZ [44]=[]):Cx x=Lib.decDigits x.key++[32]++Lib.decDigits x.typ++[32]++Lib.join x.mZ [44]++[32]++x.text:=by
 unfold Cx Fp;rw [if_neg (fun e=>h (by rw [e];rfl))]
theorem Aah {x:ItemD} (h:Lib.join x.mZ [44]=[]) (A:ItemOk 8 x):Cx x=Lib.decDigits x.key++[32]++Lib.decDigits x.typ++[32]++[45]++[32]++x.text:=by
 have:x.mZ=[]:=by
  cases hm:x.mZ with
  | nil=>rfl
  | cons m r=>rw [hm] at h;exact absurd h (join_ne (A.2.2.2.2 m (by rw [hm];simp)))
 unfold Cx Fp;rw [if_pos this]
theorem Auk {A:List (List UInt8)} {i:Nat} {m:List UInt8} (h:A[i]?=some m) (D:0 < i):Lib.join (A.take (i+1)) [44]=Lib.join (A.take i) [44]++[44]++m:=by
 cases A with
 | nil=>simp at h
 | cons a r =>
  cases i with
  | zero=>omega
  | succ i =>
   rw [List.take_succ_cons,List.take_succ_cons,Lib.join_cons,Lib.join_cons,Lib.joinTail_take_succ _ _ _ _ (by simpa using h)]
   simp
theorem Azc {A:List (List UInt8)} {m:List UInt8} (h:A[0]?=some m):Lib.join (A.take 1) [44]=m:=by
 cases A with
 | nil=>simp at h
 | cons a r=>simp at h;subst h;rw [List.take_succ_cons,List.take_zero,Lib.join_one]
theorem Tk {x:ItemD} (h:ItemOk 8 x) (i:Nat):(Lib.join (x.mZ.take i) [44]).length≤136:=Nc (by rw [lT];have:=h.2.2.2.1;omega) (fun s A=>h.2.2.2.2 s (List.mem_of_mem_take A))
theorem Tg {x:ItemD} (h:x.mZ.length=0):Cx x=Lib.decDigits x.key++[32]++Lib.decDigits x.typ++[32]++[45]++[32]++x.text:=by
 unfold Cx Fp;rw [if_pos (List.eq_nil_of_length_eq_zero h)]
theorem Aaf {x:ItemD} {i:Nat} (h:¬ x.mZ.length=0) (A:x.mZ.length≤i):Cx x=Lib.decDigits x.key++[32]++Lib.decDigits x.typ++[32]++Lib.join (x.mZ.take i) [44]++[32]++x.text:=by
 unfold Cx Fp;rw [if_neg (fun e=>h (by rw [e];rfl)),List.take_of_length_le A]
def Za (lim:Nat) (s:List UInt8) (u:Nat) (b:Bool):Prop:=u < lim∧∀ m:Nat,m < lim→s=Lib.decDigits m→b=true∧u=m
def Kq (c:List UInt8):List (List UInt8):=if c=[45] then [] else Cg c
theorem Aym {A:List (List UInt8)} (h:∀ s∈A,C2 s):Kq (Fp A)=A:=by
 unfold Kq
 cases A with
 | nil=>rfl
 | cons m r =>
  have:Fp (m::r)=Lib.join (m::r) [44]:=by unfold Fp;rw [if_neg (List.cons_ne_nil m r)]
  rw [if_neg (by rw [this];exact Po (h m (by simp))),N3 h (List.cons_ne_nil m r)]
theorem Ib {s:List UInt8} {y:ItemD} {O S D:Nat} {I b2:Bool} (h:Rd8 s y) (N:Za 18446744073709551616 (xC s [32]).1 O I) (hl:256≤D) (H:Za D (xC (xC s [32]).2.1 [32]).1 S b2) :
  I=true∧b2=true∧(⟨O,S,(xC (xC (xC s [32]).2.1 [32]).2.1 [32]).2.1,Kq (xC (xC (xC s [32]).2.1 [32]).2.1 [32]).1⟩:ItemD)=y:=by
 obtain ⟨A,hk,rfl⟩:=h;have ht:y.typ < 256:=by have:=A.2.1;omega
 have E:=Pn y [];rw [List.append_nil,List.append_nil] at E;rw [E] at N H;simp only [Kf] at H;rw [E];simp only [Kf,Pm A.2.2.2.2,Aym A.2.2.2.2];obtain ⟨T,U⟩:=N.2 y.key hk rfl;obtain ⟨V,Y⟩:=H.2 y.typ tM rfl
 exact ⟨T,V,by rw [U,Y]⟩
def U0 (s:List UInt8) (x:ItemD):Prop:=ItemOk 8 x∧x.key < 18446744073709551616∧Cx x++[10]=s
theorem U0.one {s:List UInt8} {x:ItemD} (h:U0 (s++[10]) x):Rd8 s x:=⟨h.1,h.2.1,by have:=h.2.2;simpa using this⟩
theorem Rd8.ten {s:List UInt8} {x:ItemD} (h:Rd8 s x):U0 (s++[10]) x:=⟨h.1,h.2.1,by rw [h.2.2]⟩
theorem Ard {s:List UInt8} {y:ItemD} {O S D:Nat} {I b2:Bool} (h:U0 s y) (N:Za 18446744073709551616 (xC s [32]).1 O I) (hl:256≤D) (E:Za D (xC (xC s [32]).2.1 [32]).1 S b2) :
  I=true∧b2=true∧O=y.key∧S=y.typ∧(xC (xC (xC s [32]).2.1 [32]).2.1 [32]).1=Fp y.mZ∧xC (xC (xC (xC s [32]).2.1 [32]).2.1 [32]).2.1 [10]=(y.text,[],true):=by
 obtain ⟨A,hk,rfl⟩:=h;have ht:y.typ < 256:=by have:=A.2.1;omega
 have H:=Pn y [10];rw [H] at N E;simp only [Kf] at E;rw [H];simp only [Kf,Pm A.2.2.2.2];obtain ⟨T,U⟩:=N.2 y.key hk rfl;obtain ⟨V,Y⟩:=E.2 y.typ tM rfl
 exact ⟨T,V,U,Y,trivial,Iy (Zi A.2.2.1)⟩
def MkI (y xs:List (List UInt8)) (c:List UInt8):Prop:=∃ ys,y=xs++ys∧c=Fp ys
theorem MkI.nil {y:List (List UInt8)} {c:List UInt8} (h:c=Fp y):MkI y [] c:=⟨y,rfl,h⟩
theorem MkI.dash {y xs:List (List UInt8)} (E:∀ s∈y,C2 s) (h:MkI y xs [45]):y=xs:=by
 obtain ⟨ys,A,D⟩:=h
 cases ys with
 | nil=>simpa using A
 | cons m r =>
  have:Fp (m::r)=Lib.join (m::r) [44]:=by unfold Fp;rw [if_neg (List.cons_ne_nil m r)]
  rw [this] at D
  exact absurd D.symm (Po (E m (by rw [A];simp)))
theorem MkI.step {y xs:List (List UInt8)} {c:List UInt8} (N:∀ s∈y,C2 s) (h:MkI y xs c) (I:¬ c=[45]) :
  ((xC c [44]).2.2=true→MkI y (xs++[(xC c [44]).1]) (xC c [44]).2.1)∧(¬ (xC c [44]).2.2=true→y=xs++[(xC c [44]).1]):=by
 obtain ⟨ys,D,A⟩:=h
 cases ys with
 | nil=>exact absurd A I
 | cons m r =>
  have H:(44:UInt8) ∉ m:=Ke (N m (by rw [D];simp)) tD;have E:Fp (m::r)=Lib.join (m::r) [44]:=by unfold Fp;rw [if_neg (List.cons_ne_nil m r)]
  cases r with
  | nil =>
   rw [E,Lib.join_one] at A;subst A;rw [X9 H]
   exact ⟨fun h=>(by cases h),fun _=>D⟩
  | cons m2 r =>
   rw [E,R6] at A;subst A;rw [Iy H];refine ⟨fun _=>⟨m2::r,by rw [D];simp,?_⟩,fun h=>absurd rfl h⟩;unfold Fp;rw [if_neg (List.cons_ne_nil m2 r)]
theorem J6 {t:Int} {x:ItemD} (h:¬ 0 < Hi t x):ItemOk t x:=by
 unfold Hi at h
 split at h
 ·assumption
 omega
theorem R7 {t:Int} {x:ItemD} (h:0 < Hi t x):¬ ItemOk t x:=fun A=>by rw [Dc A] at h;omega
noncomputable def Xp (s:List UInt8):Option ItemD:=by
 classical exact if h:∃ x,Rd8 s x then some h.choose else none
theorem Qz {s:List UInt8} {x:ItemD} (h:Rd8 s x):Xp s=some x:=by
 have A:∃ x,Rd8 s x:=⟨x,h⟩;unfold Xp;rw [dif_pos A,Rd8.uniq A.choose_spec h]
theorem Aal {s:List UInt8} (h:∀ y,¬ Rd8 s y):Xp s=none:=by
 unfold Xp;rw [dif_neg (fun ⟨x,A⟩=>h x A)]
noncomputable def pGo:Nat→List ItemD→List UInt8→List ItemD × Nat × Int
 | 0,_,_=>([],0,0)
 | f+1,l,s=>if s=[] then (l,0,0) else if (xC s [10]).2.2=true then
   (match Xp (xC s [10]).1 with
    | some x=>if l.length=1024 then ([],l.length+1,3) else pGo f (l++[x]) (xC s [10]).2.1
    | none=>([],l.length+1,5)) else ([],l.length+1,5)
noncomputable def D1 (s:List UInt8):List ItemD × Nat × Int:=if 1048576 < s.length then ([],0,3) else pGo (s.length+1) [] s
def O3 (s0:List UInt8) (xs:List ItemD) (c:List UInt8):Prop:=∃ f,c.length < f∧D1 s0=pGo f xs c∧xs.length≤1024∧Ih xs
theorem Arr {s:List UInt8} (h:1048576 < s.length):D1 s=([],0,3):=by unfold D1;rw [if_pos h]
theorem O3.start {s:List UInt8} (h:¬ 1048576 < s.length):O3 s [] s:=⟨s.length+1,tM,by unfold D1;rw [if_neg h],by simp,fun x A=>by simp at A⟩
theorem O3.fin {A:List UInt8} {xs:List ItemD} (h:O3 A xs []):D1 A=(xs,0,0):=by
 obtain ⟨f,D,E,_⟩:=h
 cases f with
 | zero=>simp at D
 | succ f=>rw [E];unfold pGo;rw [if_pos rfl]
theorem A1t {s:List UInt8} (h:¬ s=[]):(xC s [10]).2.1.length < s.length:=by
 have A:=List.length_pos_iff.2 h;rw [Ni]
 split
 ·simp only [lD];omega
 simpa using A
theorem O3.bad {A:List UInt8} {xs:List ItemD} {c:List UInt8} (h:O3 A xs c) (H:¬ c=[]) (E:¬ (xC c [10]).2.2=true∨∀ y,¬ Rd8 (xC c [10]).1 y):D1 A=([],xs.length+1,5):=by
 obtain ⟨f,I,D,_⟩:=h
 cases f with
 | zero=>omega
 | succ f =>
  rw [D];unfold pGo;rw [if_neg H]
  by_cases hq:(xC c [10]).2.2=true
  ·rw [if_pos hq,Aal (E.resolve_left (fun h=>h hq))]
  ·rw [if_neg hq]
theorem O3.full {A:List UInt8} {xs:List ItemD} {c:List UInt8} {x:ItemD} (h:O3 A xs c) (E:¬ c=[]) (I:(xC c [10]).2.2=true) (N:Rd8 (xC c [10]).1 x) (H:xs.length=1024):D1 A=([],xs.length+1,3):=by
 obtain ⟨f,O,D,_⟩:=h
 cases f with
 | zero=>omega
 | succ f =>
  rw [D];unfold pGo;rw [if_neg E,if_pos I,Qz N];simp only;rw [if_pos H]
theorem O3.next {H:List UInt8} {xs:List ItemD} {c:List UInt8} {x:ItemD} (h:O3 H xs c) (D:¬ c=[]) (S:(xC c [10]).2.2=true) (E:Rd8 (xC c [10]).1 x) (O:¬ xs.length=1024):O3 H (xs++[x]) (xC c [10]).2.1:=by
 obtain ⟨f,T,I,U,N⟩:=h
 cases f with
 | zero=>omega
 | succ f =>
  have V:=A1t D;refine ⟨f,tM,?_,by simp only [lA,lC,lN];omega,fun y A=>?_⟩
  ·rw [I,pGo,if_neg D,if_pos S,Qz E];simp only;rw [if_neg O]
  ·rcases List.mem_append.1 A with A | A
   ·exact N y A
   ·simp only [List.mem_singleton] at A;subst A;exact E.1
theorem Kk (x:ItemD) (l:List ItemD):Ce (x::l)=Cx x++10::Ce l:=by unfold Ce;simp
theorem Zh {l:List ItemD} (h:Ih l) (A:∀ x∈l,x.key < 18446744073709551616∧x.typ < 256):(Ce l).length≤301 * l.length:=by
 induction l with
 | nil=>simp [Ce]
 | cons x l ih =>
  have E:=Kr (h x (by simp)) (A x (by simp)).1 (A x (by simp)).2;have H:=ih (fun y D=>h y (by simp [D])) (fun y D=>A y (by simp [D]));rw [Kk];simp only [lA,lC]
  omega
open Go Go.Y Go.Proofs
variable {w0 w:World} {G:Av} {L:List Res}
theorem Aji {w:World} {x:Nat}:Calls pG 49 #[vI .i32 (x:Int)] w (fun e w'=>e=.returned (vB (Jg x))∧∃ q,w' = w.drewN q):=by
 refine Ap (vs:=[_]) Tryz.func49 rfl (n:=9) rfl rfl<|wk ?_
 rcases bE (decide ((x:Int) < 32)) with A | D
 ·skip
  have H:=dT A;refine wk ?_;refine Af rfl rfl<|?_
  exact ⟨by have E:Jg x=true:=(by unfold Jg;first | (simp_all;omega) | simp_all);rw [E],0,rfl⟩
 have I:=dF D;refine wk ?_;refine Af rfl rfl<|?_
 exact ⟨by have E:Jg x=(decide (126 < (x:Int))):=(by unfold Jg;first | (simp_all;omega) | simp_all);rw [E],0,rfl⟩
theorem Ald (M:Mem w0 G L w) {s:List UInt8}:Calls pG 103 #[qT s,.func (.func 49) #[] #[]] w (B5 w0 G L fun v=>∃ z:Int,v=iI z∧(z < 0↔∀ c∈s,J7 c)):=by
 have D:PredAt pG 49 #[] encR Jg w:=fun W x _=>(Aji (x:=x));refine (Any.strings_IndexFunc Tryz.laysGw15 49 #[] (Go.Proofs.enters_of Tryz.func49 kR rfl) Jg (str s) w D).mono ?_;rintro e w' ⟨rfl,A⟩
 exact ⟨M.below' A,_,rfl,Adu s⟩
theorem Aid (M:Mem w0 G L w) {s:List UInt8}:Calls pG 48 #[qT s,.func (.func 49) #[] #[]] w (B5 w0 G L fun v=>∃ b:Bool,v=vB b∧(b=true↔¬ ∀ c∈s,J7 c)):=by
 refine Ap (vs:=[_,_]) Tryz.func48 rfl (n:=9) rfl rfl<|wk ?_;refine A2 Alq rfl rfl (Ald (s:=s) M)<|?_;clear M;rintro _ w M ⟨D,rfl,A⟩
 refine wk ?_;refine Af rfl rfl<|?_
 exact ⟨M,_,rfl,by rw [decide_eq_true_iff,← A];omega⟩
theorem Akw {w:World} {x:Nat}:Calls pG 105 #[vI .i32 (x:Int)] w (fun e w'=>e=.returned (vB (P3 x))∧∃ q,w' = w.drewN q):=by
 refine Ap (vs:=[_]) Tryz.func105 rfl (n:=17) rfl rfl<|wk ?_
 rcases bE (decide ((x:Int) < 97)) with D | I
 ·skip
  have U:=dT D;refine wk ?_
  rcases bE (decide ((x:Int) < 48)) with E | H
  ·skip
   have V:=dT E;refine wk ?_;refine Af rfl rfl<|?_
   exact ⟨by have A:P3 x=true:=(by unfold P3;first | (simp_all;omega) | simp_all);rw [A],0,rfl⟩
  have Y:=dF H;refine wk ?_;refine Af rfl rfl<|?_
  exact ⟨by have A:P3 x=(decide (57 < (x:Int))):=(by unfold P3;first | (simp_all;omega) | simp_all);rw [A],0,rfl⟩
 have h4:=dF I;refine wk ?_
 rcases bE (decide (122 < (x:Int))) with N | T
 ·skip
  have h5:=dT N;refine wk ?_
  rcases bE (decide ((x:Int) < 48)) with O | S
  ·skip
   have h6:=dT O;refine wk ?_;refine Af rfl rfl<|?_
   exact ⟨by have A:P3 x=true:=(by unfold P3;first | (simp_all;omega) | simp_all);rw [A],0,rfl⟩
  have h7:=dF S;refine wk ?_;refine Af rfl rfl<|?_
  exact ⟨by have A:P3 x=(decide (57 < (x:Int))):=(by unfold P3;first | (simp_all;omega) | simp_all);rw [A],0,rfl⟩
 have h8:=dF T;refine wk ?_;refine Af rfl rfl<|?_
 exact ⟨by have A:P3 x=false:=(by unfold P3;first | (simp_all;omega) | simp_all);rw [A],0,rfl⟩
theorem Ale (M:Mem w0 G L w) {s:List UInt8}:Calls pG 103 #[qT s,.func (.func 105) #[] #[]] w (B5 w0 G L fun v=>∃ z:Int,v=iI z∧(z < 0↔∀ c∈s,Dl c)):=by
 have D:PredAt pG 105 #[] encR P3 w:=fun W x _=>(Akw (x:=x));refine (Any.strings_IndexFunc Tryz.laysGw15 105 #[] (Go.Proofs.enters_of Tryz.func105 kR rfl) P3 (str s) w D).mono ?_;rintro e w' ⟨rfl,A⟩
 exact ⟨M.below' A,_,rfl,Azr s⟩
theorem Aie (M:Mem w0 G L w) {s:List UInt8}:Calls pG 48 #[qT s,.func (.func 105) #[] #[]] w (B5 w0 G L fun v=>∃ b:Bool,v=vB b∧(b=true↔¬ ∀ c∈s,Dl c)):=by
 refine Ap (vs:=[_,_]) Tryz.func48 rfl (n:=9) rfl rfl<|wk ?_;refine A2 Alq rfl rfl (Ale (s:=s) M)<|?_;clear M;rintro _ w M ⟨D,rfl,A⟩
 refine wk ?_;refine Af rfl rfl<|?_
 exact ⟨M,_,rfl,by rw [decide_eq_true_iff,← A];omega⟩
theorem Arw (M:Mem w0 G L w) {s:List UInt8} (hs:s.length≤9223372036854775807):Calls pG 53 #[qT s] w (B5 w0 G L fun v=>∃ b:Bool,v=vB b∧(b=true↔C2 s)):=by
 refine Ap (vs:=[_]) Tryz.func53 rfl (n:=17) rfl rfl<|wk ?_;have T:s=[]↔s.length=0:=by cases s <;> simp
 refine wk ?_
 rcases bE (!(decide (s=([]:List UInt8)))) with A | D
 ·skip
  have U:=dF (Ad A);have N:(decide (s=([]:List UInt8)))=false:=(Ad A);refine wk ?_
  rcases bE (decide ((((s).length:Nat):Int)≤16)) with E | H
  ·skip
   have V:=dT E;refine wk ?_;refine A2 ent48 rfl rfl (Aie (s:=s) M)<|?_;clear M;rintro _ w M ⟨I,rfl,S⟩
   refine wk ?_;refine Af rfl rfl<|?_
   exact ⟨M,(!(I)),rfl,(by clear M;unfold C2;grind)⟩
  have Y:=dF H;refine wk ?_;refine Af rfl rfl<|?_
  exact ⟨M,false,rfl,(by clear M;unfold C2;grind)⟩
 have h5:=dT (Ae D);have O:(decide (s=([]:List UInt8)))=true:=(Ae D);refine wk ?_;refine Af rfl rfl<|?_
 exact ⟨M,false,rfl,(by clear M;unfold C2;grind)⟩
theorem E9 (M:Mem w0 G L w) {s:List UInt8} (hs:s.length≤9223372036854775807):Calls pG 107 #[qT s] w (B5 w0 G L fun v=>v=iI (if C2 s then (1:Int) else 0)):=by
 refine Ap (vs:=[_]) Tryz.func107 rfl (n:=37) rfl rfl<|wk ?_
 rcases bE (decide ((((s).length:Nat):Int) < 1)) with aa | ab
 ·skip
  have h1:=dT aa;refine wk ?_;refine Af rfl rfl<|?_
  exact ⟨M,by rw [if_neg (fun D:C2 s=>by have:=D.1;omega)]⟩
 have h2:=dF ab;refine wk ?_;refine qD rfl ?_ ?_
 ·intro h3;refine wk ?_;refine Af rfl rfl<|?_
  exact ⟨M,by rw [if_neg (fun D:C2 s=>by have:=D.1;omega)]⟩
 intro h4;refine wk ?_;refine fun a F=>Bd (fun m a' w'=>∃ (i:Nat),m=s.length - i∧Fits 37 a' [(0,qT s),(3,iI ((i:Nat):Int))]∧Mem w0 G (L) w'∧(i≤s.length)∧(∀ (m:Nat) (b:UInt8),m < i→s[m]?=some b→Dl b)) _ ⟨0,rfl,fU,M,tM,fun m b h=>by omega⟩ ?_;clear F M;rintro m a w ⟨i,rfl,F,M,hi,hA⟩;revert a;refine wk ?_;refine qD rfl ?_ ?_
 ·intro h5;refine wk ?_;obtain ⟨E,A⟩:=Aq (xs:=(s)) (i:=i) tM;have ar:=Ry E;refine Ak (fun a F=>Cu (i:=i) Dg.k (F.ev rfl) (F.ev rfl) A) rfl<|wk ?_
  rcases bE (decide (97≤nb E)) with ac | S
  ·skip
   have h7:=dT ac;refine wk ?_
   rcases bE (decide (nb E≤122)) with ae | ag
   ·skip
    have h8:=dT ae;refine wk ?_;intro a F
    exact ⟨_,tM,i+1,rfl,fU,M,tM,D9 hA A (by unfold Dl;omega)⟩
   have h9:=dF ag;refine wk ?_
   rcases bE (decide (48≤nb E)) with H | O
   ·skip
    have ah:=dT H;refine wk ?_;refine Ag rfl ?_ ?_
    ·intro I;have ai:=dF (Ad I);refine wk ?_;refine Af rfl rfl<|?_
     exact ⟨M,by rw [if_neg (fun D:C2 s=>absurd D.2 (He A (by unfold Dl;omega)))]⟩
    intro N;have aj:=dT (Ae N);refine wk ?_;intro a F
    exact ⟨_,tM,i+1,rfl,fU,M,tM,D9 hA A (by unfold Dl;omega)⟩
   have ak:=dF O;refine wk ?_;refine Af rfl rfl<|?_
   exact ⟨M,by rw [if_neg (fun D:C2 s=>absurd D.2 (He A (by unfold Dl;omega)))]⟩
  have al:=dF S;refine wk ?_
  rcases bE (decide (48≤nb E)) with T | Y
  ·skip
   have am:=dT T;refine wk ?_;refine Ag rfl ?_ ?_
   ·intro U;have an:=dF (Ad U);refine wk ?_;refine Af rfl rfl<|?_
    exact ⟨M,by rw [if_neg (fun D:C2 s=>absurd D.2 (He A (by unfold Dl;omega)))]⟩
   intro V;have ao:=dT (Ae V);refine wk ?_;intro a F
   exact ⟨_,tM,i+1,rfl,fU,M,tM,D9 hA A (by unfold Dl;omega)⟩
  have ap:=dF Y;refine wk ?_;refine Af rfl rfl<|?_
  exact ⟨M,by rw [if_neg (fun D:C2 s=>absurd D.2 (He A (by unfold Dl;omega)))]⟩
 intro aq;refine wk ?_;refine Af rfl rfl<|?_
 exact ⟨M,by rw [if_pos (show C2 s from ⟨tM,E3 hA tM⟩)]⟩
theorem Afj (M:Mem w0 G L w) {s:List UInt8} (hs:s.length≤9223372036854775807):Calls pG 106 #[qT s] w (B5 w0 G L fun v=>v=iI (if Str s then (1:Int) else 0)):=by
 refine Ap (vs:=[_]) Tryz.func106 rfl (n:=23) rfl rfl<|wk ?_;refine qD rfl ?_ ?_
 ·intro T;refine wk ?_;refine Af rfl rfl<|?_
  exact ⟨M,by rw [if_neg (fun D:Str s=>by have:=D.1;omega)]⟩
 intro U;refine wk ?_;refine fun a F=>Bd (fun m O w'=>∃ (i:Nat),m=s.length - i∧Fits 23 O [(0,qT s),(3,iI ((i:Nat):Int))]∧Mem w0 G (L) w'∧(i≤s.length)∧(∀ (m:Nat) (b:UInt8),m < i→s[m]?=some b→J7 b)) _ ⟨0,rfl,fU,M,tM,fun m b h=>by omega⟩ ?_;clear F M;rintro m a w ⟨i,rfl,F,M,hi,N⟩;revert a;refine wk ?_;refine qD rfl ?_ ?_
 ·intro V;refine wk ?_;obtain ⟨I,A⟩:=Aq (xs:=(s)) (i:=i) tM;have S:=Ry I;refine Ak (fun a F=>Cu (i:=i) Dg.k (F.ev rfl) (F.ev rfl) A) rfl<|wk ?_
  rcases bE (decide (nb I < 32)) with E | H
  ·skip
   have Y:=dT E;refine wk ?_;refine Af rfl rfl<|?_
   exact ⟨M,by rw [if_neg (fun D:Str s=>absurd D.2 (He A (by unfold J7;omega)))]⟩
  have h6:=dF H;refine wk ?_;refine Ak (fun a F=>Cu (i:=i) Dg.k (F.ev rfl) (F.ev rfl) A) rfl<|wk ?_;refine qD rfl ?_ ?_
  ·intro h7;refine wk ?_;refine Af rfl rfl<|?_
   exact ⟨M,by rw [if_neg (fun D:Str s=>absurd D.2 (He A (by unfold J7;omega)))]⟩
  intro h8;refine wk ?_;intro a F
  exact ⟨_,tM,i+1,rfl,fU,M,tM,D9 N A (by unfold J7;omega)⟩
 intro h9;refine wk ?_;refine Af rfl rfl<|?_
 exact ⟨M,by rw [if_pos (show Str s from ⟨tM,E3 N tM⟩)]⟩
theorem Alu (M:Mem w0 G L w) {s:List UInt8} (E:s.length≤9223372036854775807):Calls pG 52 #[qT s] w (B5 w0 G L fun v=>∃ b:Bool,v=vB b∧(b=true↔¬ C2 s)):=by
 refine Ap (vs:=[_]) Tryz.func52 rfl (n:=6) rfl rfl<|wk ?_;refine A2 ent53 rfl rfl (Arw (s:=s) M tA)<|?_;clear M;rintro _ w M ⟨A,rfl,D⟩
 refine wk ?_;refine Af rfl rfl<|?_
 exact ⟨M,(!(A)),rfl,(by clear M;grind)⟩
theorem Tn (M:Mem w0 G L w) {ad:Option Addr} {E:Nat} {xs:List (List UInt8)} (S:Aj Cr 1 G (vS ad xs.length E) xs):Calls pG 104 #[vS ad xs.length E,.func (.func 52) #[] #[]] w (B5 w0 G L fun v=>∃ z:Int,v=iI z∧(0≤z↔¬ ∀ s∈xs,C2 s)):=by
 have bS:=S.bound;refine Ap (vs:=[_,_]) Tryz.func104 rfl (n:=19) rfl rfl<|wk ?_;refine fun a F=>Bd (fun m a' w'=>∃ (i:Nat),m=xs.length - i∧Fits 19 a' [(0,vS ad xs.length E),(1,.func (.func 52) #[] #[]),(7,iI ((xs.length:Nat):Int)),(8,iI ((i:Nat):Int))]∧Mem w0 G (L) w'∧(i≤xs.length)∧(∀ (m:Nat) (s:List UInt8),m < i→xs[m]?=some s→C2 s)) _ ⟨0,rfl,fU,M,Nat.zero_le _,fun m d h=>by omega⟩ ?_;clear F M;rintro m a w ⟨i,rfl,F,M,hi,U⟩;revert a;refine wk ?_;refine qD rfl ?_ ?_
 ·intro h1;refine wk ?_;obtain ⟨D,A⟩:=Aq (xs:=xs) (i:=i) tM;obtain ⟨aa,ab,_,Y,_,V,⟨rfl,O⟩⟩:=S.at A;refine wk ?_;refine Ajq ent52 (caps:=[]) rfl rfl rfl (Alu (s:=D) M tM)<|?_;clear M;rintro _ w M ⟨T,rfl,N⟩
  refine Ao<|Gd<|?_
  refine Ag rfl ?_ ?_
  ·intro H;have h4:(T)=true:=H;refine wk ?_;refine Af rfl rfl<|?_
   exact ⟨M,_,rfl,⟨fun _ h_=>(N.1 tA) (h_ _ (mG A)),fun _=>by omega⟩⟩
  intro I;have h5:(T)=false:=I;refine wk ?_;intro a F
  exact ⟨_,tM,i+1,rfl,fU,M,tM,Ph U A (by clear F M;grind)⟩
 intro h6;refine wk ?_;refine Af rfl rfl<|?_
 exact ⟨M,_,rfl,⟨fun h=>by omega,fun h=>absurd (G7 U tM) h⟩⟩
theorem Q2 (M:Mem w0 G L w) {ad:Option Addr} {D:Nat} {xs:List (List UInt8)} (S:Aj Cr 1 G (vS ad xs.length D) xs):Calls pG 51 #[vS ad xs.length D,.func (.func 52) #[] #[]] w (B5 w0 G L fun v=>∃ b:Bool,v=vB b∧(b=true↔¬ ∀ s∈xs,C2 s)):=by
 refine Ap (vs:=[_,_]) Tryz.func51 rfl (n:=9) rfl rfl<|wk ?_;refine A2 A1i rfl rfl (Tn (xs:=xs) M S)<|?_;clear M;rintro _ w M ⟨E,rfl,A⟩
 refine wk ?_;refine Af rfl rfl<|?_
 exact ⟨M,_,rfl,decide_eq_true_iff.trans A⟩
theorem Aux {w0 w:World} {G:Av} {L:List Res} {b:Nat} {x:ItemD} {E:Option Addr} {H:Nat} (M:Mem w0 G (rB b [iU ((x.key:Nat):Int),iB ((x.typ:Nat):Int),qT x.text,vS E x.mZ.length H] 26::L) w) (O:Aj Cr 1 G (vS E x.mZ.length H) x.mZ) :
  Calls pG 47 #[pP b] w (B5 w0 G (rB b [iU ((x.key:Nat):Int),iB ((x.typ:Nat):Int),qT x.text,vS E x.mZ.length H] 26::L) fun v=>∃ I:Bool,v=vB I∧(I=true↔Str x.text)):=by
 refine Ap (vs:=[_]) Tryz.func47 rfl (n:=12) rfl rfl<|wk ?_
 rcases bE (decide ((((x.text).length:Nat):Int)≤64)) with A | D
 ·skip
  have S:=dT A;refine wk ?_;refine A2 ent48 rfl rfl (Aid (s:=x.text) M)<|?_;clear M;rintro _ w M ⟨b2,rfl,N⟩
  refine wk ?_;refine Af rfl rfl<|?_
  exact ⟨M,(!(b2)),rfl,(by clear M;unfold Str;grind)⟩
 have T:=dF D;refine wk ?_;refine Af rfl rfl<|?_
 exact ⟨M,false,rfl,(by clear M;unfold Str;grind)⟩
theorem Auw {w0 w:World} {G:Av} {L:List Res} {b:Nat} {x:ItemD} {E:Option Addr} {H:Nat} (M:Mem w0 G (rB b [iU ((x.key:Nat):Int),iB ((x.typ:Nat):Int),qT x.text,vS E x.mZ.length H] 26::L) w) (N:Aj Cr 1 G (vS E x.mZ.length H) x.mZ) :
  Calls pG 50 #[pP b] w (B5 w0 G (rB b [iU ((x.key:Nat):Int),iB ((x.typ:Nat):Int),qT x.text,vS E x.mZ.length H] 26::L) fun v=>∃ I:Bool,v=vB I∧(I=true↔(x.mZ.length≤8∧∀ s∈x.mZ,C2 s))):=by
 refine Ap (vs:=[_]) Tryz.func50 rfl (n:=12) rfl rfl<|wk ?_
 rcases bE (decide (((x.mZ.length:Nat):Int)≤8)) with A | D
 ·skip
  have S:=dT A;refine wk ?_;refine A2 ent51 rfl rfl (Q2 (xs:=x.mZ) M N)<|?_;clear M;rintro _ w M ⟨b2,rfl,O⟩
  refine wk ?_;refine Af rfl rfl<|?_
  exact ⟨M,(!(b2)),rfl,(by clear M;grind)⟩
 have T:=dF D;refine wk ?_;refine Af rfl rfl<|?_
 exact ⟨M,false,rfl,(by clear M;grind)⟩
theorem K2 (M:Mem w0 G L w) {x:ItemD} {ma:Option Addr} {mc:Nat} (hI:(x.key < 18446744073709551616∧x.typ < 256∧x.text.length≤9223372036854775807)) (V:Aj Cr 1 G (vS ma x.mZ.length mc) x.mZ) {t:Int}:Calls pG 14 #[.agg #[iU ((x.key:Nat):Int),iB ((x.typ:Nat):Int),qT x.text,vS ma x.mZ.length mc],iI t] w (B5 w0 G L fun v=>v=iI (Hi t x)):=by
 refine Ap (vs:=[_,_]) Tryz.func14 rfl (n:=29) rfl rfl<|?_
 refine Ca<|?_
 obtain ⟨ai,aj,ak⟩:=hI;refine Hg<|?_
 refine Ch M rfl rfl rfl<|?_;clear M;intro I w M
 refine wk ?_;refine Ak (fun a F=>Dh (vs:=#[pP I]) (by simp only [List.map_toArray,List.map_cons,List.map_nil,F.ev (x:=.tmp 2) rfl])) rfl<|wk ?_;refine Ak (fun a F=>Dh (vs:=#[pP I]) (by simp only [List.map_toArray,List.map_cons,List.map_nil,F.ev (x:=.tmp 2) rfl])) rfl<|wk ?_
 rcases bE (decide (((x.key:Nat):Int)=0)) with O | S
 ·skip
  have h2:=dT O;refine wk ?_;refine Af rfl rfl<|?_
  exact ⟨M.wn dS1,by rw [E1 (by clear M;unfold ItemOk;grind)]⟩
 have h3:=dF S;refine wk ?_;refine Ak (fun a F=>Bb Cj.k ⟨_,by rw [Be Cp.k]⟩ (F.ev rfl) (Bi tM tM)) rfl<|wk ?_
 rcases bE (decide (t≤((x.typ:Nat):Int))) with T | U
 ·skip
  have h4:=dT T;refine wk ?_;refine Af rfl rfl<|?_
  exact ⟨M.wn dS1,by rw [E1 (by clear M;unfold ItemOk;grind)]⟩
 have h5:=dF U;refine wk ?_;replace M:=z_M M;refine Ajq ent47 (caps:=[pP I]) rfl rfl rfl (Aux (x:=x) M V)<|?_;clear M;rintro _ w M ⟨N,rfl,al⟩
 refine wk ?_
 rcases bE (!(N)) with E | H
 ·skip
  have h7:=Ad E;have ag:(N)=false:=(Ad E);refine wk ?_;refine Af rfl rfl<|?_
  exact ⟨M.wn dS1,by rw [E1 (by clear M;unfold ItemOk;grind)]⟩
 have h8:=Ae H;have ah:(N)=true:=(Ae H);refine wk ?_;replace M:=z_M M;refine Ajq ent50 (caps:=[pP I]) rfl rfl rfl (Auw (x:=x) M V)<|?_;clear M;rintro _ w M ⟨Y,rfl,am⟩
 refine wk ?_;refine Ag rfl ?_ ?_
 ·intro A;have ac:=Ad A;have aa:(Y)=false:=(Ad A);refine wk ?_;refine Af rfl rfl<|?_
  exact ⟨M.wn dS1,by rw [E1 (by clear M;unfold ItemOk;grind)]⟩
 intro D;have ae:=Ae D;have ab:(Y)=true:=(Ae D);refine wk ?_;refine Af rfl rfl<|?_
 exact ⟨M.wn dS1,by rw [Dc (by first | (clear M;unfold ItemOk;grind) | exact ⟨tM,tM,by clear M;grind,tM,G7 hA tM⟩)]⟩
theorem Lf {P:Prop} {l:List (List UInt8)} {i:Nat} {A:Int} {s:List UInt8} (I:A=0∨A=1) (h:A=1↔P∧∀ (m:Nat) (s:List UInt8),m < i→l[m]?=some s→C2 s) (H:l[i]?=some s) :
  (A * (if C2 s then (1:Int) else 0)=0∨A * (if C2 s then (1:Int) else 0)=1)∧(A * (if C2 s then (1:Int) else 0)=1↔P∧∀ (m:Nat) (s:List UInt8),m < i+1→l[m]?=some s→C2 s):=by
 by_cases hn:C2 s
 ·rw [if_pos hn,Int.mul_one];refine ⟨I,h.trans ⟨fun ⟨E,D⟩=>⟨E,D9 D H hn⟩,fun ⟨E,D⟩=>⟨E,fun m s N=>D m s tM⟩⟩⟩
 rw [if_neg hn,Int.mul_zero]
 exact ⟨Or.inl rfl,⟨fun h=>by omega,fun ⟨_,D⟩=>absurd (D i s tM H) hn⟩⟩
theorem H9 (M:Mem w0 G L w) {x:ItemD} {ma:Option Addr} {mc:Nat} (hI:(x.key < 18446744073709551616∧x.typ < 256∧x.text.length≤9223372036854775807)) (SM:Aj Cr 1 G (vS ma x.mZ.length mc) x.mZ) {t:Int}:Calls pG 57 #[.agg #[iU ((x.key:Nat):Int),iB ((x.typ:Nat):Int),qT x.text,vS ma x.mZ.length mc],iI t] w (B5 w0 G L fun v=>v=iI (Hi t x)):=by
 refine Ap (vs:=[_,_]) Tryz.func57 rfl (n:=43) rfl rfl<|?_
 refine Ca<|?_
 obtain ⟨aJ,aK,aL⟩:=hI;have a2:=SM.bound;refine Hg<|?_
 refine Ch M rfl rfl rfl<|?_;clear M;intro b1 w M
 refine wk ?_;refine A2 ent106 rfl rfl (Afj (s:=x.text) M tM)<|?_;clear M;rintro _ w M rfl
 refine wk ?_
 rcases bE (decide (((x.key:Nat):Int)=0)) with ai | aj
 ·skip
  have h2:=dT ai;refine wk ?_;intro a F;refine Bd (fun m a' w'=>∃ (i:Nat),∃ (H:Int),m=x.mZ.length - i∧Fits 43 a' [(1,iI t),(2,pP b1),(5,iI H),(6,iI ((i:Nat):Int))]∧Mem w0 G (rB b1 [iU ((x.key:Nat):Int),iB ((x.typ:Nat):Int),qT x.text,vS ma x.mZ.length mc] 26::L) w'∧(i≤x.mZ.length)∧(H=0∨H=1)∧(H=1↔(x.key≠0∧(x.typ:Int) < t∧Str x.text∧x.mZ.length≤8)∧∀ (m:Nat) (s:List UInt8),m < i→x.mZ[m]?=some s→C2 s)) _ ⟨0,0,rfl,fU,M,Nat.zero_le _,(by first | omega | (split <;> omega)),⟨fun E=>⟨(by clear F M;grind),fun m s hm=>by omega⟩,fun E=>(by clear F M;grind)⟩⟩ ?_;clear F M;rintro m a w ⟨i,H,rfl,F,M,hi,D,I⟩;revert a;refine wk ?_;refine qD rfl ?_ ?_
  ·intro h3;refine wk ?_;obtain ⟨ab,U⟩:=Aq (xs:=x.mZ) (i:=i) tM;obtain ⟨a3,aM,_,a1,_,a0,⟨rfl,al⟩⟩:=SM.at U;refine wk ?_;refine A2 Aed rfl rfl (E9 (s:=ab) M tM)<|?_;clear M;rintro _ w M rfl
   refine Ak (fun a F=>Hy (F.ev rfl) (F.ev rfl) (Bi (by (rcases D with rfl | rfl <;> split <;> omega)) (by (rcases D with rfl | rfl <;> split <;> omega)))) rfl<|wk ?_;intro a F
   exact ⟨_,tM,i+1,H * ((if C2 ab then (1:Int) else 0)),rfl,fU,M,tM,(Lf D I U).1,(Lf D I U).2⟩
  intro h5;refine wk ?_;refine qD rfl ?_ ?_
  ·intro h6;refine wk ?_;refine Af rfl rfl<|?_
   exact ⟨M.wn dS1,by rw [Dc (by clear M;obtain ⟨A,N⟩:=I.1 tM;exact ⟨A.1,A.2.1,A.2.2.1,A.2.2.2,G7 N tM⟩)]⟩
  intro h7;refine wk ?_;refine Af rfl rfl<|?_
  exact ⟨M.wn dS1,by rw [E1 (by clear M;intro E;have:=I.2 ⟨⟨E.1,E.2.1,E.2.2.1,E.2.2.2.1⟩,fun m s _ hs=>E.2.2.2.2 s (mG hs)⟩;omega)]⟩
 have h8:=dF aj;refine wk ?_;refine Ak (fun a F=>Bb Cj.k ⟨_,by rw [Be Cp.k]⟩ (F.ev rfl) (Bi tM tM)) rfl<|wk ?_
 rcases bE (decide (t≤((x.typ:Nat):Int))) with ak | ac
 ·skip
  have h9:=dT ak;refine wk ?_;intro a F;refine Bd (fun m a' w'=>∃ (i:Nat),∃ (H:Int),m=x.mZ.length - i∧Fits 43 a' [(1,iI t),(2,pP b1),(5,iI H),(6,iI ((i:Nat):Int))]∧Mem w0 G (rB b1 [iU ((x.key:Nat):Int),iB ((x.typ:Nat):Int),qT x.text,vS ma x.mZ.length mc] 26::L) w'∧(i≤x.mZ.length)∧(H=0∨H=1)∧(H=1↔(x.key≠0∧(x.typ:Int) < t∧Str x.text∧x.mZ.length≤8)∧∀ (m:Nat) (s:List UInt8),m < i→x.mZ[m]?=some s→C2 s)) _ ⟨0,0,rfl,fU,M,Nat.zero_le _,(by first | omega | (split <;> omega)),⟨fun E=>⟨(by clear F M;grind),fun m s hm=>by omega⟩,fun E=>(by clear F M;grind)⟩⟩ ?_;clear F M;rintro m a w ⟨i,H,rfl,F,M,hi,D,I⟩;revert a;refine wk ?_;refine qD rfl ?_ ?_
  ·intro a4;refine wk ?_;obtain ⟨V,O⟩:=Aq (xs:=x.mZ) (i:=i) tM;obtain ⟨au,ax,_,ap,_,am,⟨rfl,ae⟩⟩:=SM.at O;refine wk ?_;refine A2 Aed rfl rfl (E9 (s:=V) M tM)<|?_;clear M;rintro _ w M rfl
   refine Ak (fun a F=>Hy (F.ev rfl) (F.ev rfl) (Bi (by (rcases D with rfl | rfl <;> split <;> omega)) (by (rcases D with rfl | rfl <;> split <;> omega)))) rfl<|wk ?_;intro a F
   exact ⟨_,tM,i+1,H * ((if C2 V then (1:Int) else 0)),rfl,fU,M,tM,(Lf D I O).1,(Lf D I O).2⟩
  intro a5;refine wk ?_;refine qD rfl ?_ ?_
  ·intro a6;refine wk ?_;refine Af rfl rfl<|?_
   exact ⟨M.wn dS1,by rw [Dc (by clear M;obtain ⟨A,N⟩:=I.1 tM;exact ⟨A.1,A.2.1,A.2.2.1,A.2.2.2,G7 N tM⟩)]⟩
  intro a7;refine wk ?_;refine Af rfl rfl<|?_
  exact ⟨M.wn dS1,by rw [E1 (by clear M;intro E;have:=I.2 ⟨⟨E.1,E.2.1,E.2.2.1,E.2.2.2.1⟩,fun m s _ hs=>E.2.2.2.2 s (mG hs)⟩;omega)]⟩
 have a8:=dF ac;refine wk ?_;refine qD rfl ?_ ?_
 ·intro a9;refine wk ?_;intro a F;refine Bd (fun m a' w'=>∃ (i:Nat),∃ (H:Int),m=x.mZ.length - i∧Fits 43 a' [(1,iI t),(2,pP b1),(5,iI H),(6,iI ((i:Nat):Int))]∧Mem w0 G (rB b1 [iU ((x.key:Nat):Int),iB ((x.typ:Nat):Int),qT x.text,vS ma x.mZ.length mc] 26::L) w'∧(i≤x.mZ.length)∧(H=0∨H=1)∧(H=1↔(x.key≠0∧(x.typ:Int) < t∧Str x.text∧x.mZ.length≤8)∧∀ (m:Nat) (s:List UInt8),m < i→x.mZ[m]?=some s→C2 s)) _ ⟨0,0,rfl,fU,M,Nat.zero_le _,(by first | omega | (split <;> omega)),⟨fun E=>⟨(by clear F M;grind),fun m s hm=>by omega⟩,fun E=>(by clear F M;grind)⟩⟩ ?_;clear F M;rintro m a w ⟨i,H,rfl,F,M,hi,D,I⟩;revert a;refine wk ?_;refine qD rfl ?_ ?_
  ·intro aA;refine wk ?_;obtain ⟨Y,S⟩:=Aq (xs:=x.mZ) (i:=i) tM;obtain ⟨av,ay,_,aq,_,an,⟨rfl,ag⟩⟩:=SM.at S;refine wk ?_;refine A2 Aed rfl rfl (E9 (s:=Y) M tM)<|?_;clear M;rintro _ w M rfl
   refine Ak (fun a F=>Hy (F.ev rfl) (F.ev rfl) (Bi (by (rcases D with rfl | rfl <;> split <;> omega)) (by (rcases D with rfl | rfl <;> split <;> omega)))) rfl<|wk ?_;intro a F
   exact ⟨_,tM,i+1,H * ((if C2 Y then (1:Int) else 0)),rfl,fU,M,tM,(Lf D I S).1,(Lf D I S).2⟩
  intro aB;refine wk ?_;refine qD rfl ?_ ?_
  ·intro aC;refine wk ?_;refine Af rfl rfl<|?_
   exact ⟨M.wn dS1,by rw [Dc (by clear M;obtain ⟨A,N⟩:=I.1 tM;exact ⟨A.1,A.2.1,A.2.2.1,A.2.2.2,G7 N tM⟩)]⟩
  intro aD;refine wk ?_;refine Af rfl rfl<|?_
  exact ⟨M.wn dS1,by rw [E1 (by clear M;intro E;have:=I.2 ⟨⟨E.1,E.2.1,E.2.2.1,E.2.2.2.1⟩,fun m s _ hs=>E.2.2.2.2 s (mG hs)⟩;omega)]⟩
 intro aE;refine wk ?_;intro a F;refine Bd (fun m a' w'=>∃ (i:Nat),∃ (H:Int),m=x.mZ.length - i∧Fits 43 a' [(1,iI t),(2,pP b1),(5,iI H),(6,iI ((i:Nat):Int))]∧Mem w0 G (rB b1 [iU ((x.key:Nat):Int),iB ((x.typ:Nat):Int),qT x.text,vS ma x.mZ.length mc] 26::L) w'∧(i≤x.mZ.length)∧(H=0∨H=1)∧(H=1↔(x.key≠0∧(x.typ:Int) < t∧Str x.text∧x.mZ.length≤8)∧∀ (m:Nat) (s:List UInt8),m < i→x.mZ[m]?=some s→C2 s)) _ ⟨0,(if Str x.text then (1:Int) else 0),rfl,fU,M,Nat.zero_le _,(by first | omega | (split <;> omega)),⟨fun E=>⟨(by clear F M;grind),fun m s hm=>by omega⟩,fun E=>(by clear F M;grind)⟩⟩ ?_;clear F M;rintro m a w ⟨i,H,rfl,F,M,hi,D,I⟩;revert a;refine wk ?_;refine qD rfl ?_ ?_
 ·intro aF;refine wk ?_;obtain ⟨aa,T⟩:=Aq (xs:=x.mZ) (i:=i) tM;obtain ⟨aw,az,_,ar,_,ao,⟨rfl,ah⟩⟩:=SM.at T;refine wk ?_;refine A2 Aed rfl rfl (E9 (s:=aa) M tM)<|?_;clear M;rintro _ w M rfl
  refine Ak (fun a F=>Hy (F.ev rfl) (F.ev rfl) (Bi (by (rcases D with rfl | rfl <;> split <;> omega)) (by (rcases D with rfl | rfl <;> split <;> omega)))) rfl<|wk ?_;intro a F
  exact ⟨_,tM,i+1,H * ((if C2 aa then (1:Int) else 0)),rfl,fU,M,tM,(Lf D I T).1,(Lf D I T).2⟩
 intro aG;refine wk ?_;refine qD rfl ?_ ?_
 ·intro aH;refine wk ?_;refine Af rfl rfl<|?_
  exact ⟨M.wn dS1,by rw [Dc (by clear M;obtain ⟨A,N⟩:=I.1 tM;exact ⟨A.1,A.2.1,A.2.2.1,A.2.2.2,G7 N tM⟩)]⟩
 intro aI;refine wk ?_;refine Af rfl rfl<|?_
 exact ⟨M.wn dS1,by rw [E1 (by clear M;intro E;have:=I.2 ⟨⟨E.1,E.2.1,E.2.2.1,E.2.2.2.1⟩,fun m s _ hs=>E.2.2.2.2 s (mG hs)⟩;omega)]⟩
theorem V8 (M:Mem w0 G L w) {x:ItemD} {H:Option Addr} {N:Nat} (aD:(x.key < 18446744073709551616∧x.typ < 256∧x.text.length≤9223372036854775807)) (aa:Aj Cr 1 G (vS H x.mZ.length N) x.mZ) {y:ItemD} {I:Option Addr} {O:Nat} (aE:(y.key < 18446744073709551616∧y.typ < 256∧y.text.length≤9223372036854775807)) (am:Aj Cr 1 G (vS I y.mZ.length O) y.mZ):Calls pG 46 #[.agg #[iU ((x.key:Nat):Int),iB ((x.typ:Nat):Int),qT x.text,vS H x.mZ.length N],.agg #[iU ((y.key:Nat):Int),iB ((y.typ:Nat):Int),qT y.text,vS I y.mZ.length O]] w (B5 w0 G L fun v=>v=iI (if x=y then (1:Int) else 0)):=by
 refine Ap (vs:=[_,_]) Tryz.func46 rfl (n:=52) rfl rfl<|?_
 refine Bt<|?_
 refine Ch M rfl rfl rfl<|?_;clear M;intro b1 w M
 refine Ch M rfl rfl rfl<|?_;clear M;intro b2 w M
 refine wk ?_;have a0:=aa.bound;refine wk ?_
 rcases bE (!(decide (((x.key:Nat):Int)=((y.key:Nat):Int)))) with ab | ac
 ·skip
  have h3:=dF (Ad ab);have a6:(decide (((x.key:Nat):Int)=((y.key:Nat):Int)))=false:=(Ad ab);refine wk ?_;refine Af rfl rfl<|?_
  exact ⟨M.wn dS2,by rw [if_neg (fun E=>by subst E;clear M;grind)]⟩
 have h4:=dT (Ae ac);have a7:(decide (((x.key:Nat):Int)=((y.key:Nat):Int)))=true:=(Ae ac);refine wk ?_
 rcases bE (!(decide (((x.typ:Nat):Int)=((y.typ:Nat):Int)))) with ae | ag
 ·skip
  have h5:=dF (Ad ae);have a8:(decide (((x.typ:Nat):Int)=((y.typ:Nat):Int)))=false:=(Ad ae);refine wk ?_;refine Af rfl rfl<|?_
  exact ⟨M.wn dS2,by rw [if_neg (fun E=>by subst E;clear M;grind)]⟩
 have h6:=dT (Ae ag);have a9:(decide (((x.typ:Nat):Int)=((y.typ:Nat):Int)))=true:=(Ae ag);refine wk ?_
 rcases bE (!(decide (x.text=y.text))) with ah | ai
 ·skip
  have h7:=dF (Ad ah);have aA:(decide (x.text=y.text))=false:=(Ad ah);refine wk ?_;refine Af rfl rfl<|?_
  exact ⟨M.wn dS2,by rw [if_neg (fun E=>by subst E;clear M;grind)]⟩
 have h8:=dT (Ae ai);have aB:(decide (x.text=y.text))=true:=(Ae ai);refine wk ?_;refine Ag rfl ?_ ?_
 ·intro aj;have h9:=dF (Ad aj);have aC:(decide (((x.mZ.length:Nat):Int)=((y.mZ.length:Nat):Int)))=false:=(Ad aj);refine wk ?_;refine Af rfl rfl<|?_
  exact ⟨M.wn dS2,by rw [if_neg (fun E=>by subst E;clear M;grind)]⟩
 intro U;have a1:=dT (Ae U);have av:(decide (((x.mZ.length:Nat):Int)=((y.mZ.length:Nat):Int)))=true:=(Ae U);refine wk ?_;refine fun a F=>Bd (fun m a' w'=>∃ (i:Nat),m=x.mZ.length - i∧Fits 52 a' [(2,pP b1),(3,pP b2),(5,iI ((i:Nat):Int))]∧Mem w0 G (rB b2 [iU ((y.key:Nat):Int),iB ((y.typ:Nat):Int),qT y.text,vS I y.mZ.length O] 26::rB b1 [iU ((x.key:Nat):Int),iB ((x.typ:Nat):Int),qT x.text,vS H x.mZ.length N] 26::L) w'∧(i≤x.mZ.length)∧(∀ m,m < i→x.mZ[m]?=y.mZ[m]?)) _ ⟨0,rfl,fU,M,Nat.zero_le _,fun m h=>by omega⟩ ?_;clear F M;rintro m a w ⟨i,rfl,F,M,hi,hA⟩;revert a;refine wk ?_;refine qD rfl ?_ ?_
 ·intro a2;refine wk ?_;refine fun a F=>Dv [(true,0),(true,1),(true,2),(true,3),(true,4),(true,5),(true,6),(true,7),(true,8),(true,9),(true,10)] (Keep G [rB b2 [iU ((y.key:Nat):Int),iB ((y.typ:Nat):Int),qT y.text,vS I y.mZ.length O] 26,rB b1 [iU ((x.key:Nat):Int),iB ((x.typ:Nat):Int),qT x.text,vS H x.mZ.length N] 26]) rfl kR kF (Aw (M.drew _)) ?_;replace M:=M.drew (w.drawn+1);revert a;refine wk ?_;obtain ⟨S,A⟩:=Aq (xs:=x.mZ) (i:=i) tM;obtain ⟨ar,ay,_,ap,_,an,⟨rfl,ak⟩⟩:=aa.at A;refine wk ?_;obtain ⟨T,D⟩:=Aq (xs:=y.mZ) (i:=i) tM;obtain ⟨au,az,_,aq,_,ao,⟨rfl,al⟩⟩:=am.at D;refine wk ?_
  generalize ({ w with drawn:=w.drawn+1 }:World)=w at M ⊢
  refine wk ?_;refine Ag rfl ?_ ?_
  ·intro V;have a3:=dF (Ad V);have aw:(decide (S=T))=false:=(Ad V);refine wk ?_;refine Af rfl rfl<|?_
   exact ⟨M.wn dS2,by rw [if_neg (fun E=>absurd (congrArg ItemD.mZ E) (Pi A D tA))]⟩
  intro Y;have a4:=dT (Ae Y);have ax:(decide (S=T))=true:=(Ae Y);refine wk ?_;intro a F
  exact ⟨_,tM,i+1,rfl,fU,M,tM,Vf hA A D tA⟩
 intro a5;refine wk ?_;refine Af rfl rfl<|?_
 exact ⟨M.wn dS2,by rw [if_pos (Ml tM tM tA (Adx hA tM tM))]⟩
theorem P9 (M:Mem w0 G L w) {a1:Option Addr} {c1:Nat} {xs:List ItemD} (S:Aj Bp 4 G (vS a1 xs.length c1) xs) {a2:Option Addr} {c2:Nat} {ys:List ItemD} (T:Aj Bp 4 G (vS a2 ys.length c2) ys):Calls pG 13 #[vS a1 xs.length c1,vS a2 ys.length c2] w (B5 w0 G L fun v=>v=iI (if xs=ys then (1:Int) else 0)):=by
 have bS:=S.bound;have bT:=T.bound;refine Ap (vs:=[_,_]) Tryz.func13 rfl (n:=27) rfl rfl<|wk ?_;refine Ag rfl ?_ ?_
 ·intro ai;have h1:=dF (Ad ai);refine wk ?_;refine Af rfl rfl<|?_
  exact ⟨M,by rw [if_neg (fun h_=>absurd (congrArg List.length h_) tM)]⟩
 intro aj;have h2:=dT (Ae aj);refine wk ?_;refine fun a F=>Bd (fun m a' w'=>∃ (i:Nat),m=xs.length - i∧Fits 27 a' [(0,vS a1 xs.length c1),(1,vS a2 ys.length c2),(5,iI ((i:Nat):Int))]∧Mem w0 G (L) w'∧(i≤xs.length)∧(∀ m,m < i→xs[m]?=ys[m]?)) _ ⟨0,rfl,fU,M,Nat.zero_le _,fun m h=>by omega⟩ ?_;clear F M;rintro m a w ⟨i,rfl,F,M,hi,hA⟩;revert a;refine wk ?_;refine qD rfl ?_ ?_
 ·intro h3;refine wk ?_;refine fun a F=>Dv [(true,0),(true,1),(true,2),(true,3),(true,4),(true,5),(true,6),(true,7),(false,8),(true,9)] (Keep G []) rfl kR kF (Aw (M.drew _)) ?_;replace M:=M.drew (w.drawn+1);revert a;refine wk ?_;obtain ⟨E,A⟩:=Aq (xs:=xs) (i:=i) tM;obtain ⟨aw,ay,_,au,_,aq,V⟩:=S.at A;obtain ⟨am,ao,rfl,aa,ac,ag,ak,I⟩:=V;have O:(E.key < 18446744073709551616∧E.typ < 256∧E.text.length≤9223372036854775807):=⟨aa,ac,ag⟩;refine wk ?_;obtain ⟨H,D⟩:=Aq (xs:=ys) (i:=i) tM;obtain ⟨ax,az,_,av,_,ar,Y⟩:=T.at D;obtain ⟨an,ap,rfl,ab,ae,ah,al,N⟩:=Y;have U:(H.key < 18446744073709551616∧H.typ < 256∧H.text.length≤9223372036854775807):=⟨ab,ae,ah⟩;refine wk ?_;refine l_a rfl<|A2 ent46 rfl rfl (V8 (x:=E) (y:=H) M O I U N)<|?_;clear M;rintro _ w M rfl
  refine Ao<|?_
  refine eQ (Aw M)<|wk ?_;refine qD rfl ?_ ?_
  ·intro h6;refine wk ?_;refine Af rfl rfl<|?_
   exact ⟨M,by rw [if_neg (Pi A D (fun h_=>by rw [if_pos h_] at *;omega))]⟩
  intro h7;refine wk ?_;intro a F
  exact ⟨_,tM,i+1,rfl,fU,M,tM,Vf hA A D (Classical.byContradiction fun h_=>by rw [if_neg h_] at *;omega)⟩
 intro h8;refine wk ?_;refine Af rfl rfl<|?_
 exact ⟨M,by rw [if_pos (Adx hA tM tM)]⟩
theorem Wj (M:Mem w0 G L w) {O:Option Addr} {T:Nat} {xs:List ItemD} (S:Aj Bp 4 G (vS O xs.length T) xs) {k:Nat}:Calls pG 61 #[vS O xs.length T,iU ((k:Nat):Int)] w (B5 w0 G L fun v=>∃ z:Int,v=iI z∧Mo xs k z):=by
 have bS:=S.bound;refine Ap (vs:=[_,_]) Tryz.func61 rfl (n:=20) rfl rfl<|wk ?_;refine fun a F=>Bd (fun m a' w'=>∃ (i:Nat),m=xs.length - i∧Fits 20 a' [(0,vS O xs.length T),(1,iU ((k:Nat):Int)),(5,iI ((i:Nat):Int))]∧Mem w0 G (L) w'∧(i≤xs.length)∧(∀ (m:Nat) (y:ItemD),m < i→xs[m]?=some y→y.key≠k)) _ ⟨0,rfl,fU,M,Nat.zero_le _,fun m d h=>by omega⟩ ?_;clear F M;rintro m a w ⟨i,rfl,F,M,hi,U⟩;revert a;refine wk ?_;refine qD rfl ?_ ?_
 ·intro h1;refine wk ?_;obtain ⟨D,A⟩:=Aq (xs:=xs) (i:=i) tM;obtain ⟨ah,ai,_,ag,_,ae,E⟩:=S.at A;obtain ⟨ab,ac,rfl,H,I,N,aa,V⟩:=E;have Y:(D.key < 18446744073709551616∧D.typ < 256∧D.text.length≤9223372036854775807):=⟨H,I,N⟩;refine wk ?_;refine qD rfl ?_ ?_
  ·intro h3;refine wk ?_;refine Af rfl rfl<|?_
   exact ⟨M,_,rfl,Mo.some U A tM⟩
  intro h4;refine wk ?_;intro a F
  exact ⟨_,tM,i+1,rfl,fU,M,tM,D9 (p:=fun y:ItemD=>y.key≠k) U A tM⟩
 intro h5;refine wk ?_;refine Af rfl rfl<|?_
 exact ⟨M,_,rfl,Mo.none U tM⟩
theorem Y7 {w0 w:World} {G:Av} {L:List Res} {b n c:Nat} {ad:Option Addr} (M:Mem w0 G (rB b [vP none,vS ad n c] 101::L) w) :
  Calls pG 96 #[pP b] w (B5 w0 G (rB b [pP b,vS ad n c] 101::L) fun v=>v=.tuple #[]):=by
 refine Ap (vs:=[_]) Tryz.func96 rfl (n:=20) rfl rfl<|wk ?_;refine Ak (fun a F=>Zn Vm.k (F.ev rfl) (F.ev rfl)) rfl<|wk ?_;refine Ak (fun a F=>Aca M (k:=0) rfl (by simp) Vm.k kR Ss tD (F.ev rfl)) rfl<|Ak (fun a F=>run_noEscape Tryz.func142 kR kR kR kR (F.ev rfl) (F.ev (x:=.func 142) rfl)) rfl<|Ak (fun a F=>V3 M (k:=0) rfl kR Vm.k Ss kR (F.ev rfl)) rfl<|wk ?_;refine D0 Vm M 0 rfl rfl rfl rfl rfl rfl<|?_;clear M;intro w M
 refine Ao<|?_
 refine fun a F=>Azy F rfl ?_
 exact ⟨M,rfl⟩
theorem Y6 {w0 w:World} {G:Av} {L:List Res} {b n c:Nat} {ad:Option Addr} (M:Mem w0 G (rB b [pP b,vS ad n c] 101::L) w) :
  Calls pG 96 #[pP b] w (B5 w0 G (rB b [pP b,vS ad n c] 101::L) fun v=>v=.tuple #[]):=by
 refine Ap (vs:=[_]) Tryz.func96 rfl (n:=20) rfl rfl<|wk ?_;refine Ak (fun a F=>Zn Vm.k (F.ev rfl) (F.ev rfl)) rfl<|wk ?_;refine Ak (fun a F=>V1 Vm.k Ss (F.ev rfl) (F.ev rfl)) rfl<|wk ?_;refine fun a F=>Azy F rfl ?_
 exact ⟨M,rfl⟩
theorem Yb {w0 w:World} {G:Av} {L:List Res} {b n c:Nat} {ad:Option Addr} {p:Value} (A:p=vP none∨p=pP b) (M:Mem w0 G (rB b [p,vS ad n c] 101::L) w) :
  Calls pG 96 #[pP b] w (B5 w0 G (rB b [pP b,vS ad n c] 101::L) fun v=>v=.tuple #[]):=by
 rcases A with rfl | rfl
 ·exact Y7 M
 exact Y6 M
theorem O5 {w0 w:World} {G:Av} {L:List Res} {b n c:Nat} {ad:Option Addr} {l:List UInt8} {p:Value} {s:List UInt8} (hp:p=vP none∨p=pP b) (M:Mem w0 G (rB b [p,vS ad n c] 101::rR (vS ad n c) n (bc l) 5 1::L) w) (hn:n=l.length) (A:l=[]→ad=none) (U:l.length+s.length≤140737488355328) :
  Calls pG 41 #[pP b,qT s] w (L4 w0 G fun Y v=>v=.tuple #[iI (s.length:Nat),.nilIface]∧∃ I H S,Y = (rB b [pP b,vS I H S] 101::rR (vS I H S) H (bc (l++s)) 5 1::L)∧H = (l++s).length∧(l++s=[]→I = none)):=by
 have D:ad.isNone=true→ad=none∧n=0∧c=0∧_:=fun h=>M.row_none (k:=1) rfl h;refine Ap (vs:=[_,_]) Tryz.func41 rfl (n:=19) rfl rfl<|wk ?_;replace M:=z_M M;refine A2 ent96 rfl rfl (Yb hp M)<|?_;clear M;rintro _ w M rfl
 refine wk ?_;intro a F;refine Acm F M (k:=1) rfl Nn.k Dg.k Cp rfl rfl rfl rfl rfl tM rfl ?_;clear F M a;intro v1 w a M E F;obtain ⟨aa,ab,rfl,O,N,V⟩:=M.rS (k:=1) rfl;rw [← Avh] at M;revert a;refine wk ?_;refine D0 Nn M 0 rfl rfl rfl rfl rfl rfl<|?_;clear M;intro w M
 refine wk ?_;refine Co rfl rfl rfl<|?_
 replace M:=M.perm (Ah _ 1 _ rfl);replace M:=M.perm (Ah _ 1 _ rfl);replace M:=z_M M
 exact ⟨_,M,rfl,_,_,_,rfl,by rw [lA,hn],fun h=>by obtain ⟨h1,h2⟩:=List.append_eq_nil_iff.1 h;have h3:=A h1;subst h3;obtain ⟨_,h4,h5,_⟩:=D rfl;subst h4 h5;have T:=E.2 ⟨rfl,h2⟩;simp only [Value.slice.injEq] at T;exact T.1⟩
theorem Avf {w0 w:World} {G:Av} {L:List Res} {b c gb:Nat} {p:Value} {l:List UInt8} (M:Mem w0 G (rB b [p,sN] 101::rR (sN) 0 (bc []) 5 1::L) w) :
  Calls pG 43 #[pP b] w (B5 w0 G L fun v=>v=qT []):=by
 refine Ap (vs:=[_]) Tryz.func43 rfl (n:=14) rfl rfl<|wk ?_;refine fun a F=>Dv [(true,0),(true,1),(true,2),(true,3),(true,5),(true,6),(true,7),(true,8),(true,9),(false,4),(false,10),(true,11)] (Keep G [rB b [p,sN] 101]) rfl kR kF (Aw (M.drew _)) ?_;replace M:=M.drew (w.drawn+1);revert a;refine wk ?_;refine l_a rfl<|Ak (fun a F=>Vz (F.ev rfl)) rfl<|?_
 refine Ao<|?_
 refine eQ (Aw M)<|l_a rfl<|Ak (fun a F=>Vx (F.ev rfl) (F.ev rfl)) rfl<|?_
 refine Ao<|?_
 refine eQ (Aw M)<|wk ?_;refine Af rfl rfl<|?_
 exact ⟨M.wn dS2,rfl⟩
theorem Ave {w0 w:World} {G:Av} {L:List Res} {b c gb:Nat} {p:Value} {l:List UInt8} (M:Mem w0 G (rB b [p,vS (some ⟨gb,0,none⟩) (l.length) c] 101::rR (vS (some ⟨gb,0,none⟩) (l.length) c) (l.length) (bc l) 5 1::L) w) (A:l≠[]) (E:l.length≤c) :
  Calls pG 43 #[pP b] w (B5 w0 G L fun v=>v=qT l):=by
 have D:0 < l.length:=List.length_pos_iff.2 A;refine Ap (vs:=[_]) Tryz.func43 rfl (n:=14) rfl rfl<|wk ?_;refine fun a F=>Dv [(true,0),(true,1),(true,2),(true,3),(true,5),(true,6),(true,7),(true,8),(true,9),(false,4),(false,10),(true,11)] (Keep G [rB b [p,vS (some ⟨gb,0,none⟩) (l.length) (c)] 101]) rfl kR kF (Aw (M.drew _)) ?_;replace M:=M.drew (w.drawn+1);revert a;refine wk ?_;refine l_a rfl<|Ak (fun a F=>Ys (F.ev rfl) tM) rfl<|?_
 refine Ao<|?_
 refine eQ (Aw M)<|l_a rfl<|fun a F=>?_
 refine Ack F M (k:=1) rfl Avz.k Cp rfl A rfl rfl rfl ?_;clear F M a;intro w a M F;revert a;refine Ao<|?_
 refine eQ (Aw M)<|wk ?_;refine Af rfl rfl<|?_
 exact ⟨M.wn dS1,rfl⟩
theorem Abc {w0 w:World} {G:Av} {L:List Res} {b n c:Nat} {ad:Option Addr} {l:List UInt8} {p:Value} (M:Mem w0 G (rB b [p,vS ad n c] 101::rR (vS ad n c) n (bc l) 5 1::L) w) (O:n=l.length) (A:l=[]→ad=none) :
  Calls pG 43 #[pP b] w (B5 w0 G L fun v=>v=qT l):=by
 subst O
 by_cases h0:l=[]
 ·have E:=A h0;subst E h0;obtain ⟨_,_,H,_⟩:=M.row_none (k:=1) rfl rfl;subst H
  exact Avf (gb:=0) (c:=0) (l:=[]) M
 have D:0 < l.length:=List.length_pos_iff.2 h0;obtain ⟨gb,E⟩:=M.row_some (k:=1) rfl D;subst E;obtain ⟨_,_,I,N,_⟩:=M.rS (k:=1) rfl;simp only [Value.slice.injEq] at I
 exact Ave M h0 tM
theorem Oy (M:Mem w0 G L w) (HG:Globs 0 1 2 3 G) {s sep:List UInt8} (D:s.length < 4294967281) :
  Calls pG 100 #[qT s,qT sep] w (B5 w0 G L fun v=>v=.tuple #[qT (xC s sep).1,qT (xC s sep).2.1,vB (xC s sep).2.2]):=by
 obtain ⟨m,A⟩:=HG.max;refine (Any.strings_Cut Tryz.lays145 (str s) (str sep) m w (by rw [Cl];exact D) (M.cell A)).mono ?_;rintro e w' ⟨rfl,n,rfl⟩;rw [Fc,Fc]
 exact ⟨M.drewN n,rfl⟩
theorem Akm (M:Mem w0 G L w) (HG:Globs 0 1 2 3 G) {s:List UInt8} (U:s.length≤281474976710656) :
  Calls pG 101 #[qT s,iI 10,iI 64] w (B5 w0 G L fun v=>∃ (u:Nat) (A:Value),v=.tuple #[iU (u:Int),A]∧u≤18446744073709551615∧(A=.nilIface∨∃ T S,A=.iface T S) ∧
   ((Lib.parseUintB 64 s=.ok u∧Dw A=true)∨((∀ x,Lib.parseUintB 64 s≠.ok x)∧Dw A=false))):=by
 have I:(str s).data.toList=s:=Fc s
 cases h:Lib.parseUintB 64 s with
 | ok u =>
  refine (Any.strconv_ParseUint_10_at64_ok Tryz.laysPu14 (str s) (by rw [Cl];omega) u (by rw [I];exact h) w).mono ?_;rintro e w' ⟨rfl,hw⟩;refine ⟨?_,u,_,rfl,pu64_le h,Or.inl rfl,Or.inl ⟨rfl,rfl⟩⟩
  rcases hw with rfl | rfl
  ·exact M
  ·exact M.bytesWorld _ _
 | range =>
  obtain ⟨ev,D,E⟩:=HG.rng;refine (Any.strconv_ParseUint_10_at64_range Tryz.laysPu14 (str s) (by rw [Cl];omega) (by rw [I];exact h) ev w (M.cell D) E).mono ?_;rintro e w' ⟨N,rfl,_,_,H⟩
  exact ⟨M.below' H,18446744073709551615,_,rfl,tM,Or.inr ⟨_,_,rfl⟩,Or.inr ⟨(fun x O=>by cases O),rfl⟩⟩
 | _ =>
  obtain ⟨ev,D,E⟩:=HG.syn;refine (Any.strconv_ParseUint_10_at64_syntax Tryz.laysPu14 (str s) (by rw [Cl];omega) (by rw [I];exact h) ev w (M.cell D) E).mono ?_;rintro e w' ⟨N,rfl,_,_,H⟩
  exact ⟨M.below' H,0,_,rfl,tM,Or.inr ⟨_,_,rfl⟩,Or.inr ⟨(fun x O=>by cases O),rfl⟩⟩
theorem Aho (M:Mem w0 G L w) (HG:Globs 0 1 2 3 G) {n:Int} (A:Al .i64 n) :
  Calls pG 166 #[iI n,iI 10] w (B5 w0 G L fun v=>v=qT (Lib.itoa n)):=by
 refine (Any.internal_strconv_FormatInt_10 Tryz.laysM246 n A.1 A.2 w (HG.tabIs M kR)).mono ?_;rintro e w' ⟨rfl,k,os,rfl⟩
 exact ⟨(M.drewN k).grew os,rfl⟩
theorem Ajp (M:Mem w0 G L w) {i:Nat} (h:i < 100):Calls pG 170 #[iI (i:Int)] w (B5 w0 G L fun v=>v=qT (Lib.decDigits i)):=by
 refine (Any.internal_strconv_small Tryz.lays283 i h w).mono ?_;rintro e w' ⟨rfl,rfl⟩
 exact ⟨M,rfl⟩
theorem Arv (M:Mem w0 G L w) (HG:Globs 0 1 2 3 G) {u:Nat} (A:1≤u) (D:u < 18446744073709551616):Calls pG 171 #[iU (u:Int)] w (B5 w0 G L fun v=>v=iI ((Lib.nDigits u:Nat):Int)):=by
 refine (Any.internal_strconv_numDigits Tryz.laysM284 u A D w (HG.tabIs M kR)).mono ?_;rintro e w' ⟨rfl,rfl⟩
 exact ⟨M,rfl⟩
theorem Aur {w0 w:World} {G:Av} {L:List Res} {b u c:Nat} {l:List UInt8} (M:Mem w0 G (rB b (bc l) 244::L) w) (U:l.length=24) (T:Lib.nDigits u≤24) (N:u < 18446744073709551616) :
  Calls pG 172 #[vS (some ⟨b,0,none⟩) (Lib.nDigits u) c,iU (u:Int)] w (L4 w0 G fun H v=>v=.tuple #[]∧∃ r,H = (rB b (bc (Lib.decDigits u++r)) 244::L)):=by
 have O:=M.holdsB (k:=0) rfl (Lib.nDigits u) tM;have A:(l.take (Lib.nDigits u)).toArray.size=Lib.nDigits u:=by simp;omega
 have:=Any.internal_strconv_formatBase10 Tryz.lays285 b 0 c u (l.take (Lib.nDigits u)).toArray w O (by rw [A];exact Lib.lt_pow_nDigits u) N (by rw [A];omega);rw [A] at this;refine this.mono ?_;rintro e w' ⟨rfl,n,V,I,rfl,E⟩;have S:=Alf E;have D:=M.putRowB (k:=0) rfl I (by rw [E.size];omega) n;rw [S] at D
 exact ⟨_,D,rfl,_,rfl⟩
theorem Azq (M:Mem w0 G L w) (HG:Globs 0 1 2 3 G) {u:Nat} (H:u < 18446744073709551616) :
  Calls pG 144 #[iU (u:Int),iI 10] w (B5 w0 G L fun v=>v=qT (Lib.decDigits u)):=by
 refine Ap (vs:=[_,_]) Tryz.func144 rfl (n:=32) rfl rfl<|wk ?_;refine qD rfl ?_ ?_
 ·intro A;refine wk ?_;refine Ak (fun a F=>Bb Cj.k ⟨_,by rw [Be Gh.k]⟩ (F.ev rfl) (Bi tM tM)) rfl<|A2 ent170 rfl rfl (Ajp (i:=u) M tM)<|?_;clear M;rintro _ w M rfl
  refine wk ?_;refine Af rfl rfl<|?_
  exact ⟨M.wn (sR _),rfl⟩
 intro N;refine wk ?_;refine B0 M Abt rfl rfl<|?_;clear M;intro D w M
 refine wk ?_;replace M:=z_M M;change Mem w0 G (rB D (bc (List.replicate 24 0)) 244::L) w at M;refine wk ?_;refine A2 ent171 rfl rfl (Arv (u:=u) M HG tM tM)<|?_;clear M;rintro _ w M rfl
 refine wk ?_;have E:Lib.nDigits u≤20:=by have A:=Lib.numDigits_eq u tM H;split at A <;> omega
 refine wk ?_;refine Ak (fun a F=>Rl (h:=Lib.nDigits u) Abt.k Cp (F.ev rfl) (F.ev rfl) tM tM) rfl<|?_
 refine Cd rfl<|?_
 replace M:=z_M M;refine Sy ent172 rfl rfl (Aur (u:=u) (l:=List.replicate 24 0) M (by simp) tM tM)<|?_;clear M;rintro _ _ w M ⟨rfl,I,rfl⟩
 refine wk ?_;refine Ak (fun a F=>Rl (h:=Lib.nDigits u) Abt.k Cp (F.ev rfl) (F.ev rfl) tM tM) rfl<|Ak (fun a F=>Acb M (k:=0) rfl Nn.k Cp.k Dg.k (F.ev rfl) (by rw [lA,Lib.decDigits_length];omega)) rfl<|fun a F=>?_
 rw [show (Lib.decDigits u++I).take (Lib.nDigits u)=Lib.decDigits u by rw [← Lib.decDigits_length,List.take_left]] at F;revert a;refine wk ?_;refine Af rfl rfl<|?_
 exact ⟨M.wn dS1,rfl⟩
theorem Apd (M:Mem w0 G L w) (HG:Globs 0 1 2 3 G) {u:Nat} (A:u < 18446744073709551616) :
  Calls pG 98 #[iU (u:Int),iI 10] w (B5 w0 G L fun v=>v=qT (Lib.decDigits u)):=by
 refine Ap (vs:=[_,_]) Tryz.func98 rfl (n:=8) rfl rfl<|wk ?_;refine A2 ent144 rfl rfl (Azq (u:=u) M HG tM)<|?_;clear M;rintro _ w M rfl
 refine wk ?_;refine Af rfl rfl<|?_
 exact ⟨M,rfl⟩
theorem itoa_nn {n:Int} (h:0≤n):Lib.itoa n=Lib.decDigits n.toNat:=by unfold Lib.itoa;rw [if_neg tM]
theorem Ty:∀ k:Nat,k < 10→(([48,49,50,51,52,53,54,55,56,57]:List UInt8).take (k+1)).drop k=[UInt8.ofNat (48+k)]:=by decide
theorem Ie {k:Nat} (h:k < 10):Lib.decDigits k=[UInt8.ofNat (48+k)]:=by
 rw [Fb,if_pos tM,Nat.mod_eq_of_lt h];rfl
theorem dec_big {u:Nat} (h:9 < u):Lib.decDigits (u / 10)++[UInt8.ofNat (48+u % 10)]=Lib.decDigits u:=by
 rw [Fb u,if_neg tM]
theorem pub8_le {s:List UInt8} {u:Nat} (h:Lib.parseUintB 8 s=.ok u):u≤255:=by
 have key:∀ (l:List UInt8) (D:Nat),D≤255→Lib.parseUintM (2 ^ 8 - 1) D l=.ok u→u≤255:=by
  intro l
  induction l with
  | nil=>intro D E A;simp only [Lib.parseUintM,Lib.NumEnd.ok.injEq] at A;omega
  | cons c r ih =>
   intro D E A;unfold Lib.parseUintM at A
   split at A
   ·split at A
    ·cases A
    ·split at A
     ·cases A
     ·exact ih _ tM A
   ·cases A
 unfold Lib.parseUintB at h
 split at h
 ·cases h
 ·exact key s 0 tM h
theorem Alc (M:Mem w0 G L w) (HG:Globs 0 1 2 3 G) {u:Nat} (A:u < 9223372036854775808):Calls pG 133 #[iI ((u:Nat):Int)] w (B5 w0 G L fun v=>v=qT (Lib.decDigits u)):=by
 refine Ap (vs:=[_]) Tryz.func133 rfl (n:=5) rfl rfl<|wk ?_;refine A2 A0v rfl rfl (Aho (n:=((u:Nat):Int)) M HG (by first | assumption | exact ⟨tD,tD⟩ | exact wrap_ink _ _ | exact Bi tM tM))<|?_;clear M;rintro _ w M rfl
 refine wk ?_;refine Af rfl rfl<|?_
 exact ⟨M,by rw [itoa_nn tM,Int.toNat_natCast]⟩
theorem Aak (M:Mem w0 G L w) (HG:Globs 0 1 2 3 G) {u:Nat} (A:u < 9223372036854775808):Calls pG 83 #[iI ((u:Nat):Int)] w (B5 w0 G L fun v=>v=qT (Lib.decDigits u)):=by
 refine Ap (vs:=[_]) Tryz.func83 rfl (n:=5) rfl rfl<|wk ?_;refine A2 A1c rfl rfl (Alc (u:=u) M HG tM)<|?_;clear M;rintro _ w M rfl
 refine wk ?_;refine Af rfl rfl<|?_
 exact ⟨M,rfl⟩
def RnumP (u:Nat):Prop:=∀ (w0 w:World) (G:Av) (L:List Res),Mem w0 G L w→u < 18446744073709551616→Calls pG 108 #[iU ((u:Nat):Int)] w (B5 w0 G L fun v=>v=qT (Lib.decDigits u))
theorem Aqt {u:Nat} (E:∀ v,v < u→RnumP v) {w0 w:World} {G:Av} {L:List Res} (M:Mem w0 G L w) (N:u < 18446744073709551616):Calls pG 108 #[iU ((u:Nat):Int)] w (B5 w0 G L fun v=>v=qT (Lib.decDigits u)):=by
 refine Ap (vs:=[_]) Tryz.func108 rfl (n:=19) rfl rfl<|wk ?_;refine Ak (fun a F=>C5 (F.ev rfl) (F.ev rfl) (by (first | omega | (show u % 10 < 10;omega))) (by (first | omega | (show u % 10 < 10;omega)))) rfl<|wk ?_;refine Ak (fun a F=>Fx (F.ev rfl) (F.ev rfl) (Gn (by (first | omega | (show u % 10+1≤10;omega))) (by (first | omega | (show u % 10+1≤10;omega))))) rfl<|Ak (fun a F=>Ip (a:=u % 10) (b:=(u % 10)+1) Dg.k (F.ev rfl) ⟨(F.ev rfl),tM⟩ ⟨(F.ev rfl),tM⟩ (by (first | omega | (show u % 10+1≤10;omega))) (by (first | omega | (show u % 10+1≤10;omega)))) rfl<|?_
 have A:(([48,49,50,51,52,53,54,55,56,57]:List UInt8).take ((u % 10)+1)).drop (u % 10)=[UInt8.ofNat (48+u % 10)]:=Ty (u % 10) tM;intro a F;rw [A] at F;revert a;refine wk ?_;refine qD rfl ?_ ?_
 ·intro H;refine Hg<|Cd rfl<|?_
  refine Ak (fun a F=>Iq (F.ev rfl) (F.ev rfl) tM tM (Gn tM tM)) rfl<|A2 Ov rfl rfl (E (u / 10) tM _ _ _ _ M tM)<|?_;clear M;rintro _ w M rfl
  have D:=C7 (u / 10) tM;refine Cd rfl<|?_
  refine Ak (fun a F=>Bg (F.ev rfl) (F.ev rfl) tO) rfl<|wk ?_;refine Af rfl rfl<|?_
  exact ⟨M,by rw [dec_big tM]⟩
 intro I;refine wk ?_;refine Af rfl rfl<|?_
 exact ⟨M,by rw [Ie tM,Nat.mod_eq_of_lt tM]⟩
theorem Awv (u:Nat):RnumP u:=by
 induction u using Nat.strongRecOn with
 | _ u ih=>intro w0 w G L M A;exact Aqt ih M A
theorem Jc (M:Mem w0 G L w) {u:Nat} (A:u < 18446744073709551616):Calls pG 108 #[iU ((u:Nat):Int)] w (B5 w0 G L fun v=>v=qT (Lib.decDigits u)):=Awv u _ _ _ _ M A
theorem nb_inj {a b:UInt8} (h:nb a=nb b):a=b:=by
 simp only [nb] at h
 exact UInt8.toNat_inj.1 tM
theorem cut_hit {c B:UInt8} {s:List UInt8} {i:Nat} (h:∀ (m:Nat) (b:UInt8),m < i→s[m]?=some b→b≠c) (A:s[i]?=some B) (e:nb B=nb c):xC s [c]=((s.take i).drop 0,(s.take s.length).drop (i+1),true):=by
 have D:=nb_inj e;subst D;have:=A3 A;rw [Ni,Tl h (Or.inl A),if_pos this]
 simp
theorem cut_end {c:UInt8} {s:List UInt8} {i:Nat} (h:∀ (m:Nat) (b:UInt8),m < i→s[m]?=some b→b≠c) (E:s.length≤i):xC s [c]=(s,[],false):=by
 apply X9
 intro D;obtain ⟨m,A⟩:=List.mem_iff_getElem?.1 D
 exact h m c (by have:=A3 A;omega) A rfl
theorem Gz (M:Mem w0 G L w) {s:List UInt8} (Y:s.length≤9223372036854775807) {c:UInt8}:Calls pG 89 #[qT s,iB (nb c)] w (B5 w0 G L fun v=>v=.tuple #[qT (xC s [c]).1,qT (xC s [c]).2.1,iI (if (xC s [c]).2.2=true then 1 else 0)]):=by
 refine Ap (vs:=[_,_]) Tryz.func89 rfl (n:=27) rfl rfl<|wk ?_;refine fun a F=>Bd (fun m H w'=>∃ (i:Nat),m=s.length - i∧Fits 27 H [(0,qT s),(1,iB (nb c)),(7,iI ((i:Nat):Int))]∧Mem w0 G (L) w'∧(i≤s.length)∧(∀ (m:Nat) (b:UInt8),m < i→s[m]?=some b→b≠c)) _ ⟨0,rfl,fU,M,tM,fun m b h=>by omega⟩ ?_;clear F M;rintro m a w ⟨i,rfl,F,M,V,D⟩;revert a;refine wk ?_;refine qD rfl ?_ ?_
 ·intro O;refine wk ?_;obtain ⟨E,A⟩:=Aq (xs:=(s)) (i:=i) tM;have N:=Ry E;refine Ak (fun a F=>Cu (i:=i) Dg.k (F.ev rfl) (F.ev rfl) A) rfl<|wk ?_;refine qD rfl ?_ ?_
  ·intro S;refine Ca<|?_
   refine fun a F=>Dv [(true,0),(true,1),(true,2),(true,3),(true,4),(true,5),(true,6),(true,7),(true,8),(true,9)] (Keep G []) rfl kR kF (Aw (M.drew _)) ?_;replace M:=M.drew (w.drawn+1);revert a;refine wk ?_;refine l_r (fun a F w M=>Ip (a:=0) (b:=i) (ka:=.i64) (za:=0) Dg.k (F.ev rfl) rfl ⟨(F.ev rfl),tM⟩ tM tM) rfl<|wk ?_;refine l_r (fun a F w M=>Ip (a:=i+1) (b:=(s).length) (kb:=.i64) (zb:=0) Dg.k (F.ev rfl) ⟨(F.ev rfl),tM⟩ rfl tM tM) rfl<|wk ?_
   generalize ({ w with drawn:=w.drawn+1 }:World)=w at M ⊢
   refine wk ?_;refine Hc rfl rfl rfl rfl<|?_
   exact ⟨M,by rw [cut_hit D A tM];rfl⟩
  intro T;refine wk ?_;intro a F
  exact ⟨_,tM,i+1,rfl,fU,M,tM,D9 (p:=fun b=>b≠c) D A (fun I=>by subst I;omega)⟩
 intro U;refine wk ?_;refine Hc rfl rfl rfl rfl<|?_
 exact ⟨M,by rw [cut_end D tM];rfl⟩
theorem Arm (M:Mem w0 G L w) (HG:Globs 0 1 2 3 G) {s:List UInt8} (V:s.length≤281474976710656) :
  Calls pG 101 #[qT s,iI 10,iI 64] w (B5 w0 G L fun v=>∃ (u:Nat) (A:Value),v=.tuple #[iU (u:Int),A]∧(A=.nilIface∨∃ te Y,A=.iface te Y)∧Za 18446744073709551616 s u (Dw A)):=by
 refine (Akm M HG V).mono ?_;rintro e w' h
 cases e with
 | returned v =>
  obtain ⟨H,u,A,I,h2,N,O⟩:=h;refine ⟨H,u,A,I,N,tM,fun m U T=>?_⟩;subst T;have E:=Acs (B:=64) tD (u:=m) U
  rcases O with ⟨D,S⟩ | ⟨D,_⟩
  ·rw [E] at D;simp only [Lib.NumEnd.ok.injEq] at D;exact ⟨S,D.symm⟩
  ·exact absurd E (D m)
 | panicked c=>exact h.elim
 | outgrown=>exact h.elim
theorem Axj (M:Mem w0 G L w) (HG:Globs 0 1 2 3 G) {s:List UInt8} (hs:s.length≤281474976710656) :
  Calls pG 101 #[qT s,iI 10,iI 8] w (B5 w0 G L fun v=>∃ (u:Nat) (D:Value),v=.tuple #[iU (u:Int),D]∧(D=.nilIface∨∃ Y V,D=.iface Y V)∧Za 256 s u (Dw D)):=by
 have S:(str s).data.toList=s:=Fc s;have no:∀ {b:Bool} {u:Nat},u < 256→(∀ m,m < 256→Lib.parseUintB 8 s≠.ok m)→Za 256 s u b:=fun U h=>⟨U,fun m E T=>absurd (by rw [T];exact Acs (B:=8) tD E) (h m E)⟩
 cases h:Lib.parseUintB 8 s with
 | ok u =>
  refine (Any.strconv_ParseUint_10_at8_ok Tryz.laysPu14 (str s) (by rw [Cl];omega) u (by rw [S];exact h) w).mono ?_;rintro e w' ⟨rfl,hw⟩;refine ⟨?_,u,_,rfl,Or.inl rfl,by have:=pub8_le h;omega,fun m E T=>?_⟩
  ·rcases hw with rfl | rfl
   ·exact M
   ·exact M.bytesWorld _ _
  ·subst T;rw [Acs (B:=8) tD E] at h;simp only [Lib.NumEnd.ok.injEq] at h
   exact ⟨rfl,h.symm⟩
 | range =>
  obtain ⟨ev,H,I⟩:=HG.rng;refine (Any.strconv_ParseUint_10_at8_range Tryz.laysPu14 (str s) (by rw [Cl];omega) (by rw [S];exact h) ev w (M.cell H) I).mono ?_;rintro e w' ⟨N,rfl,_,_,O⟩
  exact ⟨M.below' O,255,_,rfl,Or.inr ⟨_,_,rfl⟩,no tM (fun m _ A=>by rw [h] at A;cases A)⟩
 | _ =>
  obtain ⟨ev,H,I⟩:=HG.syn;refine (Any.strconv_ParseUint_10_at8_syntax Tryz.laysPu14 (str s) (by rw [Cl];omega) (by rw [S];exact h) ev w (M.cell H) I).mono ?_;rintro e w' ⟨N,rfl,_,_,O⟩
  exact ⟨M.below' O,0,_,rfl,Or.inr ⟨_,_,rfl⟩,no tM (fun m _ A=>by rw [h] at A;cases A)⟩
theorem Avl (z:Int):IntKind.u64.wrap z=z % 18446744073709551616:=by
 simp [IntKind.wrap,IntKind.bits,IntKind.signed]
theorem Avt {s:List UInt8} {i:Nat} {B:UInt8} {z:Int} (H:z=((L5 (s.take i) 0:Nat):Int) % 18446744073709551616) (A:s[i]?=some B) (D:48≤nb B) (E:nb B≤57) :
  IntKind.u64.wrap (IntKind.u64.wrap (z * 10)+IntKind.u64.wrap (nb B - 48))=((L5 (s.take (i+1)) 0:Nat):Int) % 18446744073709551616:=by
 rw [List.take_add_one,A];simp only [Option.toList_some,Sp,Avl,nb] at *
 omega
theorem Aev {s:List UInt8} {i:Nat} {z:Int} (A:z=((L5 (s.take i) 0:Nat):Int) % 18446744073709551616) (h:i=s.length):z=((L5 (s.take s.length) 0:Nat):Int) % 18446744073709551616:=h ▸ A
theorem Amb {s:List UInt8} {z:Int} (A:z=((L5 (s.take s.length) 0:Nat):Int) % 18446744073709551616) {m:Nat} (D:m < 18446744073709551616) (e:s=Lib.decDigits m):z.toNat=m:=by
 rw [List.take_length,e,J1] at A
 omega
theorem Pa (M:Mem w0 G L w) {s:List UInt8} (hs:s.length≤9223372036854775807):Calls pG 137 #[qT s] w (B5 w0 G L fun v=>∃ (u:Nat) (b:Bool),v=.tuple #[iU (u:Int),iI (if b=true then 1 else 0)]∧Za 18446744073709551616 s u b):=by
 refine Ap (vs:=[_]) Tryz.func137 rfl (n:=41) rfl rfl<|wk ?_;refine fun a F=>Bd (fun m a' w'=>∃ (i:Nat),∃ (z:Int),m=s.length - i∧Fits 41 a' [(0,qT s),(4,iU z),(5,iI ((i:Nat):Int))]∧Mem w0 G (L) w'∧(i≤s.length)∧(z=((L5 (s.take i) 0:Nat):Int) % 18446744073709551616)) _ ⟨0,0,rfl,fU,M,tM,by simp [L5]⟩ ?_;clear F M;rintro m a w ⟨i,z,rfl,F,M,hi,hz⟩;revert a;refine wk ?_;refine qD rfl ?_ ?_
 ·intro h1;refine wk ?_;obtain ⟨S,D⟩:=Aq (xs:=(s)) (i:=i) tM;have ag:=Ry S;refine Ak (fun a F=>Cu (i:=i) Dg.k (F.ev rfl) (F.ev rfl) D) rfl<|Ak (fun a F=>Bb Gh.k ⟨_,by rw [Be Cp.k]⟩ (F.ev rfl) (Gn (by (clear F M;simp only [nb] at *;omega)) (by (clear F M;simp only [nb] at *;omega)))) rfl<|Ak (fun a F=>Ami (F.ev rfl) (F.ev rfl)) rfl<|wk ?_;refine Ak (fun a F=>Cu (i:=i) Dg.k (F.ev rfl) (F.ev rfl) D) rfl<|wk ?_
  rcases bE (decide (nb S < 48)) with T | U
  ·skip
   have h3:=dT T;refine wk ?_;refine Co rfl rfl rfl<|?_
   exact ⟨M,0,false,rfl,tM,fun m H E=>by exfalso;first | (have A:=Lm m _ (E ▸ mG D);unfold Nr at A;simp only [nb] at *;omega) | (have A:=C7 m H;rw [← E] at A;have:=A3 D;omega)⟩
  have h4:=dF U;refine wk ?_;refine Ak (fun a F=>Cu (i:=i) Dg.k (F.ev rfl) (F.ev rfl) D) rfl<|wk ?_
  rcases bE (decide (57 < nb S)) with V | Y
  ·skip
   have h5:=dT V;refine wk ?_;refine Co rfl rfl rfl<|?_
   exact ⟨M,0,false,rfl,tM,fun m H E=>by exfalso;first | (have A:=Lm m _ (E ▸ mG D);unfold Nr at A;simp only [nb] at *;omega) | (have A:=C7 m H;rw [← E] at A;have:=A3 D;omega)⟩
  have h6:=dF Y;refine wk ?_;refine qD rfl ?_ ?_
  ·intro h7;refine wk ?_;refine Co rfl rfl rfl<|?_
   exact ⟨M,0,false,rfl,tM,fun m H E=>by exfalso;first | (have A:=Lm m _ (E ▸ mG D);unfold Nr at A;simp only [nb] at *;omega) | (have A:=C7 m H;rw [← E] at A;have:=A3 D;omega)⟩
  intro h8;refine wk ?_;refine Ak (fun a F=>Amk (F.ev rfl) (F.ev rfl)) rfl<|?_
  refine Cd rfl<|?_
  refine Ak (fun a F=>Ld (F.ev rfl) (F.ev rfl)) rfl<|wk ?_;intro a F
  exact ⟨_,tM,i+1,IntKind.u64.wrap ((IntKind.u64.wrap (z * 10))+(IntKind.u64.wrap ((nb S) - 48))),rfl,fU,M,tM,Avt hz D tM tM⟩
 intro h9;refine wk ?_;have O:(z:Int)=(((z).toNat:Nat):Int):=by omega
 intro a F;rw [O] at F;revert a;refine A2 Ov rfl rfl (Jc (u:=(z).toNat) M tM)<|?_;clear M;rintro _ w M rfl
 refine wk ?_;refine Ag rfl ?_ ?_
 ·intro I;have ac:=dF (Ad I);have aa:(decide ((Lib.decDigits ((z).toNat))=s))=false:=(Ad I);refine wk ?_;refine Co rfl rfl rfl<|?_
  exact ⟨M,0,false,rfl,tM,fun m H E=>absurd (show Lib.decDigits z.toNat=s by rw [Amb (Aev hz tM) H E];exact E.symm) tA⟩
 intro N;have ae:=dT (Ae N);have ab:(decide ((Lib.decDigits ((z).toNat))=s))=true:=(Ae N);refine wk ?_;refine Co rfl rfl rfl<|?_
 exact ⟨M,z.toNat,true,by rw [Int.toNat_of_nonneg tM];rfl,tM,fun m H E=>⟨rfl,Amb (Aev hz tM) H E⟩⟩
theorem Auj (M:Mem w0 G L w) {ad:Option Addr} {N:Nat} {xs:List (List UInt8)} (S:Aj Cr 1 G (vS ad xs.length N) xs) (Y:xs.length≤140737488355328) (H:(Lib.join xs [44]).length≤140737488355328) :
  Calls pG 97 #[vS ad xs.length N,qT [44]] w (B5 w0 G L fun v=>v=qT (Lib.join xs [44])):=by
 by_cases h0:xs=[]
 ·subst h0;refine (Any.strings_Join_none Tryz.lays156 Tryz.Builder_Extra_156 ad N (str [44]) w).mono ?_;rintro e w' ⟨rfl,rfl⟩
  exact ⟨M,rfl⟩
 ·obtain ⟨x0,I⟩:=Aq (xs:=xs) (i:=0) (List.length_pos_iff.2 h0);obtain ⟨b,o,_,rfl,_,_,_,_⟩:=S.index I;obtain ⟨_,_,T,E,_⟩:=S.shape;simp only [Value.slice.injEq] at T;obtain ⟨_,_,rfl⟩:=T;have A:∀ (j:Nat) (x:List UInt8),xs[j]?=some x→w.cell? ⟨b,o+j,none⟩=some (qT x):=by
   intro j x D;obtain ⟨b',o',cs,O,_,_,V,hr,_⟩:=S.index D;simp only [Option.some.injEq,Addr.mk.injEq,and_true] at O;obtain ⟨rfl,rfl⟩:=O;subst hr;have:=V 0 _ rfl;rw [Nat.mul_one,Nat.add_zero] at this
   exact M.cell this
  have U:(xs.map str).map (·.data.toList)=xs:=by
   rw [List.map_map]
   conv=>rhs;rw [← List.map_id xs]
   exact List.map_congr_left fun x _=>Fc x
  have:=Any.strings_Join Tryz.lays156 Tryz.Builder_Extra_156 b o N (xs.map str) (str [44]) w (by
   intro j x D;rw [List.getElem?_map] at D
   cases hq:xs[j]? with
   | none=>rw [hq] at D;cases D
   | some y=>rw [hq] at D;simp only [Option.map_some,Option.some.injEq] at D;subst D;exact A j y hq)
   (World.block_lt_of_cell? _ _ (A 0 x0 I)) (by rw [lM];exact Y) (by rw [lM];exact E) (by rw [U,Fc];exact H)
  rw [lM,U,Fc] at this;refine this.mono ?_;rintro e w' ⟨rfl,hb⟩
  exact ⟨M.below' hb,rfl⟩
theorem Hp {G:Av}:∀ (xs:List (List UInt8)),(∀ x∈xs,x.length≤9223372036854775807)→Els Cr 1 G (xs.map fun x=>Value.string (str x)) xs
 | [],_=>rfl
 | x::xs,h=>⟨[qT x],_,rfl,rfl,⟨rfl,h x (by simp)⟩,Hp xs (fun y hy=>h y (by simp [hy]))⟩
theorem Afc (s:List UInt8):(Lib.splitB (str [44]) 0 (Lib.countB (str s) (str [44])) (str s)).map Value.string=(Cg s).map (fun x=>Value.string (str x)):=by
 have h:=Lib.splitB_data (str [44]) 0 (Lib.countB (str s) (str [44])) (str s);rw [Fc,Fc] at h;have A:Lib.countB (str s) (str [44])=Lib.count s [44]:=by
  show Lib.count (str s).data.toList (str [44]).data.toList=_
  rw [Fc,Fc]
 rw [A] at h ⊢
 show _=(Lib.splitK [44] 0 (Lib.count s [44]) s).map _
 rw [← h,List.map_map]
 exact List.map_congr_left fun x _=>rfl
theorem Ajm (M:Mem w0 G L w) (HG:Globs 0 1 2 3 G) {s:List UInt8} (V:s.length < 4294967281) :
  Calls pG 102 #[qT s,qT [44]] w (Ret w0 G L fun A v=>∃ a:Option Addr,v=vS a (Cg s).length (Cg s).length∧Aj Cr 1 A (vS a (Cg s).length (Cg s).length) (Cg s)):=by
 obtain ⟨m,U⟩:=HG.max;refine (Any.strings_Split Tryz.lays146 kR (str s) (str [44]) m w (by rw [Cl];exact V) (M.cell U) (by rw [Cl];decide)).mono ?_;rintro e w' ⟨rfl,rfl⟩;have O:(Cg s).length=Lib.countB (str s) (str [44])+1:=by
  have I:=Lib.splitB_all (str [44]) (by rw [Cl];decide) 0 _ (str s) rfl;rw [← I,← lM (f:=Value.string),Afc,lM]
 rw [Afc,← O];have D:=Lib.countB_le (str [44]) (by rw [Cl];decide) (str s).size (str s) (Nat.le_refl _);rw [Cl] at D;have T:(Cg s).length≤4294967281:=by omega
 have E:=M.newrow (t:=Tryz.lays146_ren.t 9) (sz:=1) (n:=(Cg s).length) (c:=(Cg s).length) (cs:=(Cg s).map fun x=>Value.string (str x)) (spare:=[])
  (by intro u Y;obtain ⟨x,_,rfl⟩:=List.mem_map.1 Y;rfl) (by simp) (by simp) (Nat.le_refl _) (by unfold maxLen;omega)
 rw [List.append_nil] at E;obtain ⟨_,A,a,c,N,he,S,H⟩:=E.fZ Au (k:=0) rfl (Hp (Cg s) (fun x hx=>by have:=Ajo hx;omega)) tD
 exact ⟨A,N,H,_,rfl,S⟩
end Go.Proofs.YtmmhmcplegpenaaGreatDoor
