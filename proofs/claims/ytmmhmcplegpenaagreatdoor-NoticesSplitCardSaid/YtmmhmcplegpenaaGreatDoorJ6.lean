/- Items: numbers, lines, what a line stands for. · The walks, part A. · The walks, part B. · The walks, part C. · The walks, part S. · The walks, part N. · The walks, part P. · The walks, part T. -/
import Derived.Test.YtmmhmcplegpenaaGreatDoorJ5
import Derived.Test.YtmmhmcplegpenaaGreatDoorYB
import Derived.Lib.IndexMore
import Derived.Lib.SplitLaws
import Derived.Lib.ParseIntB
import Derived.Lib.Join
import Derived.Test.YtmmhmcplegpenaaGreatDoorJ1
set_option linter.unusedSimpArgs false
set_option linter.unusedVariables false
set_option maxRecDepth 10000
namespace Go.Proofs.YtmmhmcplegpenaaGreatDoor
open Go Go.Y
theorem Hd (u:Nat):Lib.decDigits u=(if u / 10=0 then [] else Lib.decDigits (u / 10))++[UInt8.ofNat (48+u % 10)]:=by
 rw [Lib.decDigits]
 split
 ·rename_i h
  rw [if_pos (by omega),Nat.mod_eq_of_lt h]
  rfl
 rename_i h
 rw [if_neg (by omega)]
def Rj (c:UInt8):Prop:=48≤c.toNat∧c.toNat≤57
def Ps:List UInt8→Nat→Nat
 | [],acc=>acc
 | c::r,acc=>Ps r (10 * acc+(c.toNat - 48))
theorem Xs:∀ (l:List UInt8) (acc:Nat),acc≤Ps l acc
 | [],acc=>Nat.le_refl _
 | c::r,acc=>by have:=Xs r (10 * acc+(c.toNat - 48));simp only [Ps];omega
theorem Vo (c:UInt8):∀ (l:List UInt8) (acc:Nat),Ps (l++[c]) acc=10 * Ps l acc+(c.toNat - 48)
 | [],acc=>rfl
 | b::r,acc=>Vo c r _
instance (c:UInt8):Decidable (Rj c):=by unfold Rj;infer_instance
theorem Sc:∀ (u:Nat),∀ c∈Lib.decDigits u,Rj c:=by
 intro u
 induction u using Nat.strongRecOn with
 | _ u ih =>
  intro c hc;rw [Hd] at hc
  rcases List.mem_append.1 hc with hc | hc
  ·split at hc
   ·simp at hc
   ·exact ih (u / 10) (by omega) c hc
  ·simp only [List.mem_singleton] at hc;subst hc;have h1:(UInt8.ofNat (48+u % 10)).toNat=48+u % 10:=UInt8.toNat_ofNat_of_lt' (by show 48+u % 10 < 256;omega);unfold Rj
   omega
theorem Jp:∀ (u:Nat),Ps (Lib.decDigits u) 0=u:=by
 intro u
 induction u using Nat.strongRecOn with
 | _ u ih =>
  have h1:(UInt8.ofNat (48+u % 10)).toNat=48+u % 10:=UInt8.toNat_ofNat_of_lt' (by show 48+u % 10 < 256;omega);rw [Hd,Vo,h1]
  split
  ·rename_i h;simp only [Ps];omega
  ·rename_i h;rw [ih (u / 10) (by omega)];omega
def ix (c:UInt8):List UInt8→Nat
 | []=>0
 | b::l=>if b=c then 0 else ix c l+1
theorem ix_le (c:UInt8):∀ (l:List UInt8),ix c l≤l.length
 | []=>Nat.le_refl _
 | b::l=>by have:=ix_le c l;unfold ix;split <;> simp only [List.length_cons] <;> omega
theorem Aqc (c:UInt8):∀ (l:List UInt8) (m:Nat) (b:UInt8),m < ix c l→l[m]?=some b→b≠c
 | [],m,b,h,_=>by simp [ix] at h
 | a::l,m,b,h,hb=>by
  unfold ix at h
  split at h
  ·omega
  ·rename_i ha
   cases m with
   | zero=>simp at hb;subst hb;exact ha
   | succ m=>exact Aqc c l m b (by omega) (by simpa using hb)
theorem Aqd (c:UInt8):∀ (l:List UInt8),ix c l < l.length→l[ix c l]?=some c
 | [],h=>by simp at h
 | a::l,h=>by
  unfold ix at h ⊢
  split
  ·rename_i ha;subst ha;rfl
  ·rename_i ha
   rw [if_neg ha] at h;simp only [List.length_cons] at h;rw [List.getElem?_cons_succ]
   exact Aqd c l (by omega)
theorem Wt {c:UInt8}:∀ {l:List UInt8} {k:Nat},(∀ (m:Nat) (b:UInt8),m < k→l[m]?=some b→b≠c)→(l[k]?=some c∨k=l.length)→ix c l=k
 | [],k,_,h=>by
  rcases h with h | h
  ·simp at h
  ·simp [ix,h]
 | a::l,k,h,hk=>by
  unfold ix
  cases k with
  | zero =>
   rcases hk with hk | hk
   ·simp at hk;rw [if_pos hk]
   ·simp at hk
  | succ k =>
   have h0:=h 0 a (by omega) (by simp);rw [if_neg h0,Wt (l:=l) (k:=k) (fun m b h1 h2=>h (m+1) b (by omega) (by simpa using h2)) (by
    rcases hk with hk | hk
    ·left;simpa using hk
    ·right;simpa using hk)]
theorem Ko (c:UInt8):∀ (l:List UInt8),Lib.index l [c]=if ix c l < l.length then ((ix c l:Nat):Int) else -1
 | []=>by simp [Lib.index,ix]
 | b::l=>by
  have ih:=Ko c l;unfold Lib.index ix
  by_cases h:b=c
  ·subst h
   simp
  ·have hp:([c].isPrefixOf (b::l))=false:=by simp [List.isPrefixOf,Ne.symm h]
   rw [if_neg (by rw [hp];simp),if_neg h]
   by_cases hl:ix c l < l.length
   ·rw [if_pos hl] at ih;have h1:¬ (Lib.index l [c]==-1)=true:=by rw [ih,beq_iff_eq];omega
    have h2:ix c l+1 < (b::l).length:=by rw [List.length_cons];omega
    rw [if_neg h1,if_pos h2,ih]
    omega
   ·rw [if_neg hl] at ih;have h1:(Lib.index l [c]==-1)=true:=by rw [ih];rfl
    have h2:¬ ix c l+1 < (b::l).length:=by rw [List.length_cons];omega
    rw [if_pos h1,if_neg h2]
theorem N9 (c:UInt8) (l:List UInt8):Lib.cut l [c]=if ix c l < l.length then (l.take (ix c l),l.drop (ix c l+1),true) else (l,[],false):=by
 unfold Lib.cut;rw [Ko]
 by_cases h:ix c l < l.length
 ·simp only [if_pos h];rw [if_pos (by omega)]
  simp
 simp only [if_neg h];rw [if_neg (by omega)]
theorem Ib (c:UInt8) (s:List UInt8):(Lib.cut s [c]).1.length≤s.length∧(Lib.cut s [c]).2.1.length≤s.length:=by
 rw [N9]
 split
 ·simp only [List.length_take,List.length_drop];omega
 simp
theorem Dd (u:Nat) (h:u < 18446744073709551616):(Lib.decDigits u).length≤20:=by
 rw [Lib.decDigits_length]
 rcases Nat.eq_zero_or_pos u with h0 | h0
 ·subst h0;rw [Lib.nDigits_small (by decide)];omega
 have h1:=Lib.numDigits_eq u h0 h
 split at h1 <;> omega
theorem Y9 {c:UInt8}:∀ {d e:List UInt8},c ∉ d→ix c (d++c::e)=d.length
 | [],e,_=>by simp [ix]
 | b::d,e,h=>by
  simp only [List.cons_append,List.length_cons];unfold ix;rw [if_neg (fun hb=>h (by rw [hb];simp)),Y9 (fun hd=>h (by simp [hd]))]
theorem Afz (u:Nat):Lib.decDigits u≠[]:=by
 rw [Hd];simp
theorem Ahd {most:Nat} (hm:most≤18446744073709551615):∀ (l:List UInt8) (acc:Nat),(∀ c∈l,Rj c)→Ps l acc≤most→Lib.parseUintM most acc l=.ok (Ps l acc)
 | [],acc,_,_=>rfl
 | c::r,acc,hd,hv=>by
  have hc:48≤c.toNat∧c.toNat≤57:=hd c (by simp);simp only [Ps] at hv ⊢;have:=Xs r (10 * acc+(c.toNat - 48));unfold Lib.parseUintM;rw [if_pos hc,if_neg (by omega),if_neg (by omega),Nat.mul_comm acc 10]
  exact Ahd hm r _ (fun x hx=>hd x (by simp [hx])) hv
theorem Yr {B u:Nat} (hB:B≤64) (hu:u < 2 ^ B):Lib.parseUintB B (Lib.decDigits u)=.ok u:=by
 unfold Lib.parseUintB;have h64:2 ^ B≤2 ^ 64:=Nat.pow_le_pow_right (by decide) hB;rw [if_neg (Afz u),Ahd (by omega) _ _ (Sc u) (by rw [Jp];omega),Jp]
theorem My {c:UInt8} {u:Nat} (hc:¬ Rj c):c ∉ Lib.decDigits u:=fun h=>hc (Sc u c h)
theorem J5 {c:UInt8} {d e:List UInt8} (h:c ∉ d):Lib.cut (d++c::e) [c]=(d,e,true):=by
 rw [N9,Y9 h,if_pos (by simp)]
 simp
theorem Aul {c:UInt8} {d:List UInt8} (h:c ∉ d):Lib.cut d [c]=(d,[],false):=by
 have:ix c d=d.length:=Wt (fun m b _ hb=>fun e=>h (e ▸ List.mem_of_getElem? hb)) (Or.inr rfl);rw [N9,this,if_neg (by omega)]
def Fl (ms:List (List UInt8)):List UInt8:=if ms=[] then [45] else Lib.join ms [44]
def Dg (x:ItemD):List UInt8:=Lib.decDigits x.key++[32]++Lib.decDigits x.typ++[32]++Fl x.marks++[32]++x.text
theorem I1 {s:List UInt8} (h:Ck s) {c:UInt8} (hc:¬ C3 c):c ∉ s:=fun hs=>hc (h.2 c hs)
theorem O9 (m:List UInt8) (y:List UInt8) (r:List (List UInt8)):Lib.join (m::y::r) [44]=m++44::Lib.join (y::r) [44]:=by
 rw [Lib.join_cons,Lib.join_cons]
 simp [Lib.joinTail]
theorem T7 {c:UInt8} (hc:¬ C3 c) (h44:c≠44):∀ (ms:List (List UInt8)),(∀ s∈ms,Ck s)→c ∉ Lib.join ms [44]
 | [],_=>by simp [Lib.join_nil]
 | [m],h=>by rw [Lib.join_one];exact I1 (h m (by simp)) hc
 | m::y::r,h=>by
  rw [O9];intro hx
  rcases List.mem_append.1 hx with hx | hx
  ·exact I1 (h m (by simp)) hc hx
  ·rcases List.mem_cons.1 hx with hx | hx
   ·exact h44 hx
   ·exact T7 hc h44 (y::r) (fun s hs=>h s (by simp [hs])) hx
theorem join_ne {m:List UInt8} {r:List (List UInt8)} (h:Ck m):Lib.join (m::r) [44]≠[]:=by
 rw [Lib.join_cons];intro e;have h1:=(List.append_eq_nil_iff.1 e).1;subst h1
 exact absurd h.1.1 (by simp)
theorem Qg {m:List UInt8} {r:List (List UInt8)} (h:Ck m):Lib.join (m::r) [44]≠[45]:=by
 rw [Lib.join_cons];intro e
 cases m with
 | nil=>exact absurd h.1.1 (by simp)
 | cons b m =>
  simp only [List.cons_append,List.cons.injEq] at e;have h1:=h.2 b (by simp);rw [e.1] at h1
  exact absurd h1 (by decide)
theorem Wo {ms:List (List UInt8)} (h:∀ s∈ms,Ck s):(32:UInt8) ∉ Fl ms∧(10:UInt8) ∉ Fl ms:=by
 unfold Fl
 split
 ·exact ⟨by decide,by decide⟩
 exact ⟨T7 (by decide) (by decide) ms h,T7 (by decide) (by decide) ms h⟩
theorem Aji {s:List UInt8} (h:Str s):(10:UInt8) ∉ s:=fun hs=>absurd (h.2 10 hs) (by decide)
theorem N3 {x:ItemD} (h:ItemOk 8 x):(10:UInt8) ∉ Dg x:=by
 obtain ⟨_,_,h3,_,h5⟩:=h;unfold Dg;simp only [List.mem_append,List.mem_singleton,not_or]
 exact ⟨⟨⟨⟨⟨⟨My (by decide),by decide⟩,My (by decide)⟩,by decide⟩,(Wo h5).2⟩,by decide⟩,Aji h3⟩
theorem line_r (x:ItemD):Dg x=Lib.decDigits x.key++32::(Lib.decDigits x.typ++32::(Fl x.marks++32::x.text)):=by
 simp [Dg]
theorem Qe (x:ItemD) (e:List UInt8):Lib.cut (Dg x++e) [32]=(Lib.decDigits x.key,Lib.decDigits x.typ++32::(Fl x.marks++32::(x.text++e)),true):=by
 rw [line_r,show Lib.decDigits x.key++32::(Lib.decDigits x.typ++32::(Fl x.marks++32::x.text))++e=Lib.decDigits x.key++32::(Lib.decDigits x.typ++32::(Fl x.marks++32::(x.text++e))) by simp]
 exact J5 (My (by decide))
theorem Ms (t:Nat) (r:List UInt8):Lib.cut (Lib.decDigits t++32::r) [32]=(Lib.decDigits t,r,true):=J5 (My (by decide))
theorem Qd {ms:List (List UInt8)} (h:∀ s∈ms,Ck s) (r:List UInt8):Lib.cut (Fl ms++32::r) [32]=(Fl ms,r,true):=J5 (Wo h).1
theorem Ahu {b:Nat}:∀ (ms:List (List UInt8)),(∀ s∈ms,s.length≤b)→Lib.lens ms≤b * ms.length
 | [],_=>by simp [Lib.lens]
 | m::r,h=>by
  have h1:=Ahu r (fun s hs=>h s (by simp [hs]));have h2:=h m (by simp);simp only [Lib.lens,List.map_cons,List.sum_cons,List.length_cons,Nat.mul_succ] at h1 ⊢
  omega
theorem Aqb {ms:List (List UInt8)} {b:Nat} (h:∀ s∈ms,s.length≤b):(Lib.join ms [44]).length≤(b+1) * ms.length:=by
 cases ms with
 | nil=>simp [Lib.join_nil]
 | cons m r =>
  rw [Lib.join_length];have h1:=Ahu (m::r) h;simp only [List.length_cons,List.length_nil,Nat.add_mul] at h1 ⊢
  omega
theorem T8 {ms:List (List UInt8)} (h8:ms.length≤8) (h:∀ s∈ms,Ck s):(Lib.join ms [44]).length≤136:=by
 have h1:=Aqb (b:=16) (fun s hs=>(h s hs).1.2);have h2:=Nat.mul_le_mul_left 17 h8
 omega
theorem Aky {ms:List (List UInt8)} (h8:ms.length≤8) (h:∀ s∈ms,Ck s):(Fl ms).length≤136:=by
 unfold Fl
 split
 ·decide
 exact T8 h8 h
theorem O7 {x:ItemD} {t:Int} (h:ItemOk t x) (hk:x.key < 18446744073709551616) (ht:x.typ < 256):(Dg x).length≤300:=by
 obtain ⟨_,_,h3,h4,h5⟩:=h;have h6:=Aky h4 h5;have h7:=Dd x.key hk;have h8:=Dd x.typ (by omega);have h9:=h3.1;unfold Dg;simp only [List.length_append,List.length_cons,List.length_nil]
 omega
def Bw (s:List UInt8):List (List UInt8):=Lib.split s [44]
theorem Sp:∀ (k:Nat) (s:List UInt8) (p:List UInt8),p∈Lib.splitK [44] 0 k s→p.length≤s.length
 | 0,s,p,h=>by simp only [Lib.splitK,List.mem_singleton] at h;subst h;exact Nat.le_refl _
 | k+1,s,p,h=>by
  unfold Lib.splitK at h
  split at h
  ·simp only [List.mem_singleton] at h;subst h;exact Nat.le_refl _
  ·rcases List.mem_cons.1 h with rfl | h
   ·simp only [List.length_take];omega
   ·have:=Sp k _ p h;simp only [List.length_drop] at this;omega
theorem Aed {s p:List UInt8} (h:p∈Bw s):p.length≤s.length:=Sp _ _ _ h
theorem Aec {m r:List UInt8} (k:Nat) (h:(44:UInt8) ∉ m):Lib.splitK [44] 0 (k+1) (m++44::r)=m::Lib.splitK [44] 0 k r:=by
 have h1:Lib.index (m++44::r) [44]=((m.length:Nat):Int):=by rw [Ko,Y9 h,if_pos (by simp)]
 rw [Lib.splitK,h1,if_neg (by rw [beq_iff_eq];omega)]
 congr 1
 ·simp
 congr 1;simp
theorem Q1:∀ (m:List UInt8) (r:List (List UInt8)),(∀ s∈m::r,Ck s)→Lib.splitK [44] 0 r.length (Lib.join (m::r) [44])=m::r
 | m,[],_=>by simp [Lib.join_one,Lib.splitK]
 | m,y::r,h=>by
  rw [O9,List.length_cons,Aec _ (I1 (h m (by simp)) (by decide)),Q1 y r (fun s hs=>h s (by simp [hs]))]
theorem Ur:∀ (m:List UInt8) (r:List (List UInt8)),(∀ s∈m::r,Ck s)→(Lib.join (m::r) [44]).count 44=r.length
 | m,[],h=>by
  rw [Lib.join_one];exact List.count_eq_zero.2 (I1 (h m (by simp)) (by decide))
 | m,y::r,h=>by
  rw [O9,List.count_append,List.count_cons_self,Ur y r (fun s hs=>h s (by simp [hs])),List.count_eq_zero.2 (I1 (h m (by simp)) (by decide))]
  simp
theorem Lt {ms:List (List UInt8)} (h:∀ s∈ms,Ck s) (h0:ms≠[]):Bw (Fl ms)=ms:=by
 cases ms with
 | nil=>exact absurd rfl h0
 | cons m r =>
  unfold Bw Lib.split Fl;rw [if_neg h0,Lib.count_one,Ur m r h,Q1 m r h]
def Rd8 (s:List UInt8) (x:ItemD):Prop:=ItemOk 8 x∧x.key < 18446744073709551616∧Dg x=s
theorem Wr {x y:ItemD} (hx:ItemOk 8 x) (hy:ItemOk 8 y) (hkx:x.key < 18446744073709551616) (hky:y.key < 18446744073709551616) (e:Dg x=Dg y):x=y:=by
 have a1:=Qe x [];have b1:=Qe y [];rw [List.append_nil,List.append_nil] at a1 b1;rw [e,b1] at a1;simp only [Prod.mk.injEq,and_true] at a1;obtain ⟨h1,h2⟩:=a1;have c1:=Ms x.typ (Fl x.marks++32::x.text);rw [← h2,Ms] at c1;simp only [Prod.mk.injEq,and_true] at c1;obtain ⟨h3,h4⟩:=c1;have d1:=Qd hx.2.2.2.2 x.text;rw [← h4,Qd hy.2.2.2.2] at d1;simp only [Prod.mk.injEq,and_true] at d1;obtain ⟨h5,h6⟩:=d1;refine Abz ?_ ?_ h6.symm ?_
 ·rw [← Jp x.key,← h1,Jp]
 ·rw [← Jp x.typ,← h3,Jp]
 by_cases hm:x.marks=[]
 ·by_cases hn:y.marks=[]
  ·rw [hm,hn]
  obtain ⟨m,r,hmr⟩:=List.exists_cons_of_ne_nil hn;rw [hm,hmr] at h5;simp only [Fl,if_true,if_neg (List.cons_ne_nil m r)] at h5
  exact absurd h5 (Qg (hy.2.2.2.2 m (by rw [hmr];simp)))
 by_cases hn:y.marks=[]
 ·obtain ⟨m,r,hmr⟩:=List.exists_cons_of_ne_nil hm;rw [hn,hmr] at h5;simp only [Fl,if_true,if_neg (List.cons_ne_nil m r)] at h5
  exact absurd h5.symm (Qg (hx.2.2.2.2 m (by rw [hmr];simp)))
 rw [← Lt hx.2.2.2.2 hm,← h5,Lt hy.2.2.2.2 hn]
theorem Rd8.uniq {s:List UInt8} {x y:ItemD} (hx:Rd8 s x) (hy:Rd8 s y):x=y:=Wr hx.1 hy.1 hx.2.1 hy.2.1 (hx.2.2.trans hy.2.2.symm)
def Cc (l:List ItemD):List UInt8:=(l.map fun x=>Dg x++[10]).flatten
theorem Adw {l:List ItemD} {i:Nat} {x:ItemD} (h:l[i]?=some x):Cc (l.take (i+1))=Cc (l.take i)++(Dg x++[10]):=by
 unfold Cc;rw [List.take_add_one,h]
 simp
def J8 (l:List ItemD):Prop:=∀ x∈l,ItemOk 8 x
instance (l:List ItemD):Decidable (J8 l):=by unfold J8;infer_instance
theorem J8.no {l:List ItemD} {i:Nat} {x:ItemD} (h:l[i]?=some x) (hn:¬ ItemOk 8 x):¬ J8 l:=fun h2=>hn (h2 x (List.mem_of_getElem? h))
def Jq (l:List ItemD):Int:=if 1024 < l.length then 3 else if J8 l then 0 else 6
def Lb (l:List ItemD):List UInt8:=if Jq l=0 then Cc l else []
theorem Sl {l:List ItemD} (h:1024 < l.length):Jq l=3∧Lb l=[]:=by
 have:Jq l=3:=by unfold Jq;rw [if_pos h]
 exact ⟨this,by unfold Lb;rw [this];rfl⟩
theorem Sm {l:List ItemD} (h:l.length≤1024) (hn:¬ J8 l):Jq l=6∧Lb l=[]:=by
 have:Jq l=6:=by unfold Jq;rw [if_neg (by omega),if_neg hn]
 exact ⟨this,by unfold Lb;rw [this];rfl⟩
theorem X2 {l:List ItemD} (h:l.length≤1024) (hn:J8 l):Jq l=0∧Lb l=Cc l:=by
 have:Jq l=0:=by unfold Jq;rw [if_neg (by omega),if_pos hn]
 exact ⟨this,by unfold Lb;rw [if_pos this]⟩
theorem Wp {x:ItemD} (h:¬ Lib.join x.marks [44]=[]):Dg x=Lib.decDigits x.key++[32]++Lib.decDigits x.typ++[32]++Lib.join x.marks [44]++[32]++x.text:=by
 unfold Dg Fl;rw [if_neg (fun e=>h (by rw [e];rfl))]
theorem Wq {x:ItemD} (h:Lib.join x.marks [44]=[]) (hok:ItemOk 8 x):Dg x=Lib.decDigits x.key++[32]++Lib.decDigits x.typ++[32]++[45]++[32]++x.text:=by
 have:x.marks=[]:=by
  cases hm:x.marks with
  | nil=>rfl
  | cons m r=>rw [hm] at h;exact absurd h (join_ne (hok.2.2.2.2 m (by rw [hm];simp)))
 unfold Dg Fl;rw [if_pos this]
def Avd (lim:Nat) (s:List UInt8) (u:Nat) (b:Bool):Prop:=u < lim∧∀ m:Nat,m < lim→s=Lib.decDigits m→b=true∧u=m
def Ja (c:List UInt8):List (List UInt8):=if c=[45] then [] else Bw c
theorem Aps {ms:List (List UInt8)} (h:∀ s∈ms,Ck s):Ja (Fl ms)=ms:=by
 unfold Ja
 cases ms with
 | nil=>rfl
 | cons m r =>
  have:Fl (m::r)=Lib.join (m::r) [44]:=by unfold Fl;rw [if_neg (List.cons_ne_nil m r)]
  rw [if_neg (by rw [this];exact Qg (h m (by simp))),Lt h (List.cons_ne_nil m r)]
theorem Hb {s:List UInt8} {y:ItemD} {u1 u2 lim:Nat} {b1 b2:Bool} (h:Rd8 s y) (n1:Avd 18446744073709551616 (Lib.cut s [32]).1 u1 b1) (hl:256≤lim) (n2:Avd lim (Lib.cut (Lib.cut s [32]).2.1 [32]).1 u2 b2) :
  b1=true∧b2=true∧(⟨u1,u2,(Lib.cut (Lib.cut (Lib.cut s [32]).2.1 [32]).2.1 [32]).2.1,Ja (Lib.cut (Lib.cut (Lib.cut s [32]).2.1 [32]).2.1 [32]).1⟩:ItemD)=y:=by
 obtain ⟨hok,hk,rfl⟩:=h;have ht:y.typ < 256:=by have:=hok.2.1;omega
 have a1:=Qe y [];rw [List.append_nil,List.append_nil] at a1;rw [a1] at n1 n2;simp only [Ms] at n2;rw [a1];simp only [Ms,Qd hok.2.2.2.2,Aps hok.2.2.2.2];obtain ⟨h1,h2⟩:=n1.2 y.key hk rfl;obtain ⟨h3,h4⟩:=n2.2 y.typ (by omega) rfl
 exact ⟨h1,h3,by rw [h2,h4]⟩
def Rd10 (s:List UInt8) (x:ItemD):Prop:=ItemOk 8 x∧x.key < 18446744073709551616∧Dg x++[10]=s
theorem Rd10.one {s:List UInt8} {x:ItemD} (h:Rd10 (s++[10]) x):Rd8 s x:=⟨h.1,h.2.1,by have:=h.2.2;simpa using this⟩
theorem Rd8.ten {s:List UInt8} {x:ItemD} (h:Rd8 s x):Rd10 (s++[10]) x:=⟨h.1,h.2.1,by rw [h.2.2]⟩
def MkI (y xs:List (List UInt8)) (c:List UInt8):Prop:=∃ ys,y=xs++ys∧c=Fl ys
theorem MkI.nil {y:List (List UInt8)} {c:List UInt8} (h:c=Fl y):MkI y [] c:=⟨y,rfl,h⟩
theorem MkI.step {y xs:List (List UInt8)} {c:List UInt8} (hn:∀ s∈y,Ck s) (h:MkI y xs c) (hc:¬ c=[45]) :
  ((Lib.cut c [44]).2.2=true→MkI y (xs++[(Lib.cut c [44]).1]) (Lib.cut c [44]).2.1)∧(¬ (Lib.cut c [44]).2.2=true→y=xs++[(Lib.cut c [44]).1]):=by
 obtain ⟨ys,h1,h2⟩:=h
 cases ys with
 | nil=>exact absurd h2 hc
 | cons m r =>
  have hm:(44:UInt8) ∉ m:=I1 (hn m (by rw [h1];simp)) (by decide);have hj:Fl (m::r)=Lib.join (m::r) [44]:=by unfold Fl;rw [if_neg (List.cons_ne_nil m r)]
  cases r with
  | nil =>
   rw [hj,Lib.join_one] at h2;subst h2;rw [Aul hm]
   exact ⟨fun h=>(by cases h),fun _=>h1⟩
  | cons m2 r =>
   rw [hj,O9] at h2;subst h2;rw [J5 hm];refine ⟨fun _=>⟨m2::r,by rw [h1];simp,?_⟩,fun h=>absurd rfl h⟩;unfold Fl;rw [if_neg (List.cons_ne_nil m2 r)]
theorem Ahv {t:Int} {x:ItemD} (h:¬ 0 < Gq t x):ItemOk t x:=by
 unfold Gq at h
 split at h
 ·assumption
 omega
theorem itmF_gt {t:Int} {x:ItemD} (h:0 < Gq t x):¬ ItemOk t x:=fun h2=>by rw [Cv h2] at h;omega
noncomputable def Uc (s:List UInt8):Option ItemD:=by
 classical exact if h:∃ x,Rd8 s x then some h.choose else none
theorem N5 {s:List UInt8} {x:ItemD} (h:Rd8 s x):Uc s=some x:=by
 have hx:∃ x,Rd8 s x:=⟨x,h⟩;unfold Uc;rw [dif_pos hx,Rd8.uniq hx.choose_spec h]
theorem Wv {s:List UInt8} (h:∀ y,¬ Rd8 s y):Uc s=none:=by
 unfold Uc;rw [dif_neg (fun ⟨x,hx⟩=>h x hx)]
noncomputable def pGo:Nat→List ItemD→List UInt8→List ItemD × Nat × Int
 | 0,_,_=>([],0,0)
 | f+1,l,s=>if s=[] then (l,0,0) else if (Lib.cut s [10]).2.2=true then
   (match Uc (Lib.cut s [10]).1 with
    | some x=>if l.length=1024 then ([],l.length+1,3) else pGo f (l++[x]) (Lib.cut s [10]).2.1
    | none=>([],l.length+1,5)) else ([],l.length+1,5)
noncomputable def Di (s:List UInt8):List ItemD × Nat × Int:=if 1048576 < s.length then ([],0,3) else pGo (s.length+1) [] s
def Mh (s0:List UInt8) (xs:List ItemD) (c:List UInt8):Prop:=∃ f,c.length < f∧Di s0=pGo f xs c∧xs.length≤1024∧J8 xs
theorem Akn {s:List UInt8} (h:1048576 < s.length):Di s=([],0,3):=by unfold Di;rw [if_pos h]
theorem Mh.start {s:List UInt8} (h:¬ 1048576 < s.length):Mh s [] s:=⟨s.length+1,by omega,by unfold Di;rw [if_neg h],by simp,fun x hx=>by simp at hx⟩
theorem Mh.fin {s0:List UInt8} {xs:List ItemD} (h:Mh s0 xs []):Di s0=(xs,0,0):=by
 obtain ⟨f,h1,h2,_⟩:=h
 cases f with
 | zero=>simp at h1
 | succ f=>rw [h2];unfold pGo;rw [if_pos rfl]
theorem Aum {s:List UInt8} (h:¬ s=[]):(Lib.cut s [10]).2.1.length < s.length:=by
 have h0:=List.length_pos_iff.2 h;rw [N9]
 split
 ·simp only [List.length_drop];omega
 simpa using h0
theorem Mh.bad {s0:List UInt8} {xs:List ItemD} {c:List UInt8} (h:Mh s0 xs c) (hc:¬ c=[]) (hb:¬ (Lib.cut c [10]).2.2=true∨∀ y,¬ Rd8 (Lib.cut c [10]).1 y):Di s0=([],xs.length+1,5):=by
 obtain ⟨f,h1,h2,_⟩:=h
 cases f with
 | zero=>omega
 | succ f =>
  rw [h2];unfold pGo;rw [if_neg hc]
  by_cases hq:(Lib.cut c [10]).2.2=true
  ·rw [if_pos hq,Wv (hb.resolve_left (fun h=>h hq))]
  ·rw [if_neg hq]
theorem Mh.full {s0:List UInt8} {xs:List ItemD} {c:List UInt8} {x:ItemD} (h:Mh s0 xs c) (hc:¬ c=[]) (hq:(Lib.cut c [10]).2.2=true) (hx:Rd8 (Lib.cut c [10]).1 x) (hl:xs.length=1024):Di s0=([],xs.length+1,3):=by
 obtain ⟨f,h1,h2,_⟩:=h
 cases f with
 | zero=>omega
 | succ f =>
  rw [h2];unfold pGo;rw [if_neg hc,if_pos hq,N5 hx];simp only;rw [if_pos hl]
theorem Mh.next {s0:List UInt8} {xs:List ItemD} {c:List UInt8} {x:ItemD} (h:Mh s0 xs c) (hc:¬ c=[]) (hq:(Lib.cut c [10]).2.2=true) (hx:Rd8 (Lib.cut c [10]).1 x) (hl:¬ xs.length=1024):Mh s0 (xs++[x]) (Lib.cut c [10]).2.1:=by
 obtain ⟨f,h1,h2,h3,h4⟩:=h
 cases f with
 | zero=>omega
 | succ f =>
  have h5:=Aum hc;refine ⟨f,by omega,?_,by simp only [List.length_append,List.length_cons,List.length_nil];omega,fun y hy=>?_⟩
  ·rw [h2,pGo,if_neg hc,if_pos hq,N5 hx];simp only;rw [if_neg hl]
  ·rcases List.mem_append.1 hy with hy | hy
   ·exact h4 y hy
   ·simp only [List.mem_singleton] at hy;subst hy;exact hx.1
theorem Nq (x:ItemD) (l:List ItemD):Cc (x::l)=Dg x++10::Cc l:=by unfold Cc;simp
theorem Vu {l:List ItemD} (h:J8 l) (hk:∀ x∈l,x.key < 18446744073709551616∧x.typ < 256):(Cc l).length≤301 * l.length:=by
 induction l with
 | nil=>simp [Cc]
 | cons x l ih =>
  have h1:=O7 (h x (by simp)) (hk x (by simp)).1 (hk x (by simp)).2;have h2:=ih (fun y hy=>h y (by simp [hy])) (fun y hy=>hk y (by simp [hy]));rw [Nq];simp only [List.length_append,List.length_cons]
  omega
open Go Go.Y Go.Proofs
variable {w0 w:World} {G:Aq} {L:List Res}
set_option maxHeartbeats 1600000
theorem Adx {w:World} {x:Nat}:Calls Tryz.prog 49 #[.int .i32 (x:Int)] w (fun e w'=>e=.returned (.bool (Hz x))∧∃ q,w' = w.drewN q):=by
 refine Al (vs:=[_]) Tryz.func49 rfl (n:=9) rfl rfl<|?_
 refine wk ?_
 rcases bE (decide ((x:Int) < 32)) with h1b | h2b
 ·skip
  have h1:=dT h1b;refine wk ?_;refine Ad rfl rfl<|?_
  exact ⟨by have h_:Hz x=true:=(by unfold Hz;first | (simp_all;omega) | simp_all);rw [h_],0,rfl⟩
 have h2:=dF h2b;refine wk ?_;refine Ad rfl rfl<|?_
 exact ⟨by have h_:Hz x=(decide (126 < (x:Int))):=(by unfold Hz;first | (simp_all;omega) | simp_all);rw [h_],0,rfl⟩
theorem Afl (M:Mem w0 G L w) {s:List UInt8}:Calls Tryz.prog 103 #[.string (str s),.func (.func 49) #[] #[]] w (Bu w0 G L fun v=>∃ z:Int,v=.int .i64 z∧(z < 0↔∀ c∈s,Ir c)):=by
 have hp:PredAt Tryz.prog 49 #[] encR Hz w:=fun W x _=>(Adx (x:=x));refine (Any.strings_IndexFunc Tryz.laysGw15 49 #[] (Go.Proofs.enters_of Tryz.func49 (by kernel_rfl) rfl) Hz (str s) w hp).mono ?_;rintro e w' ⟨rfl,hb⟩
 exact ⟨M.below' hb,_,rfl,Zf s⟩
theorem Acu (M:Mem w0 G L w) {s:List UInt8}:Calls Tryz.prog 48 #[.string (str s),.func (.func 49) #[] #[]] w (Bu w0 G L fun v=>∃ b:Bool,v=.bool b∧(b=true↔¬ ∀ c∈s,Ir c)):=by
 refine Al (vs:=[_,_]) Tryz.func48 rfl (n:=9) rfl rfl<|?_
 refine wk ?_;refine A4 Afy rfl rfl (Afl (s:=s) M)<|?_;clear M;rintro _ w M ⟨z1,rfl,hz1⟩
 refine wk ?_;refine Ad rfl rfl<|?_
 exact ⟨M,_,rfl,by rw [decide_eq_true_iff,← hz1];omega⟩
theorem Afg {w:World} {x:Nat}:Calls Tryz.prog 105 #[.int .i32 (x:Int)] w (fun e w'=>e=.returned (.bool (Nc x))∧∃ q,w' = w.drewN q):=by
 refine Al (vs:=[_]) Tryz.func105 rfl (n:=17) rfl rfl<|?_
 refine wk ?_
 rcases bE (decide ((x:Int) < 97)) with h1b | h4b
 ·skip
  have h1:=dT h1b;refine wk ?_
  rcases bE (decide ((x:Int) < 48)) with h2b | h3b
  ·skip
   have h2:=dT h2b;refine wk ?_;refine Ad rfl rfl<|?_
   exact ⟨by have h_:Nc x=true:=(by unfold Nc;first | (simp_all;omega) | simp_all);rw [h_],0,rfl⟩
  have h3:=dF h3b;refine wk ?_;refine Ad rfl rfl<|?_
  exact ⟨by have h_:Nc x=(decide (57 < (x:Int))):=(by unfold Nc;first | (simp_all;omega) | simp_all);rw [h_],0,rfl⟩
 have h4:=dF h4b;refine wk ?_
 rcases bE (decide (122 < (x:Int))) with h5b | h8b
 ·skip
  have h5:=dT h5b;refine wk ?_
  rcases bE (decide ((x:Int) < 48)) with h6b | h7b
  ·skip
   have h6:=dT h6b;refine wk ?_;refine Ad rfl rfl<|?_
   exact ⟨by have h_:Nc x=true:=(by unfold Nc;first | (simp_all;omega) | simp_all);rw [h_],0,rfl⟩
  have h7:=dF h7b;refine wk ?_;refine Ad rfl rfl<|?_
  exact ⟨by have h_:Nc x=(decide (57 < (x:Int))):=(by unfold Nc;first | (simp_all;omega) | simp_all);rw [h_],0,rfl⟩
 have h8:=dF h8b;refine wk ?_;refine Ad rfl rfl<|?_
 exact ⟨by have h_:Nc x=false:=(by unfold Nc;first | (simp_all;omega) | simp_all);rw [h_],0,rfl⟩
theorem Afm (M:Mem w0 G L w) {s:List UInt8}:Calls Tryz.prog 103 #[.string (str s),.func (.func 105) #[] #[]] w (Bu w0 G L fun v=>∃ z:Int,v=.int .i64 z∧(z < 0↔∀ c∈s,C3 c)):=by
 have hp:PredAt Tryz.prog 105 #[] encR Nc w:=fun W x _=>(Afg (x:=x));refine (Any.strings_IndexFunc Tryz.laysGw15 105 #[] (Go.Proofs.enters_of Tryz.func105 (by kernel_rfl) rfl) Nc (str s) w hp).mono ?_;rintro e w' ⟨rfl,hb⟩
 exact ⟨M.below' hb,_,rfl,Aqn s⟩
theorem Acv (M:Mem w0 G L w) {s:List UInt8}:Calls Tryz.prog 48 #[.string (str s),.func (.func 105) #[] #[]] w (Bu w0 G L fun v=>∃ b:Bool,v=.bool b∧(b=true↔¬ ∀ c∈s,C3 c)):=by
 refine Al (vs:=[_,_]) Tryz.func48 rfl (n:=9) rfl rfl<|?_
 refine wk ?_;refine A4 Afy rfl rfl (Afm (s:=s) M)<|?_;clear M;rintro _ w M ⟨z1,rfl,hz1⟩
 refine wk ?_;refine Ad rfl rfl<|?_
 exact ⟨M,_,rfl,by rw [decide_eq_true_iff,← hz1];omega⟩
theorem Akq (M:Mem w0 G L w) {s:List UInt8} (hs:s.length≤9223372036854775807):Calls Tryz.prog 53 #[.string (str s)] w (Bu w0 G L fun v=>∃ b:Bool,v=.bool b∧(b=true↔Ck s)):=by
 refine Al (vs:=[_]) Tryz.func53 rfl (n:=17) rfl rfl<|?_
 refine wk ?_;have hs0:s=[]↔s.length=0:=by cases s <;> simp
 refine wk ?_
 rcases bE (!(decide (s=([]:List UInt8)))) with h1b | h5b
 ·skip
  have h1:=dF (Ab h1b);have h1c:(decide (s=([]:List UInt8)))=false:=(Ab h1b);refine wk ?_
  rcases bE (decide ((((s).length:Nat):Int)≤16)) with h2b | h4b
  ·skip
   have h2:=dT h2b;refine wk ?_;refine A4 ent48 rfl rfl (Acv (s:=s) M)<|?_;clear M;rintro _ w M ⟨b3,rfl,hb3⟩
   refine wk ?_;refine Ad rfl rfl<|?_
   exact ⟨M,(!(b3)),rfl,(by clear M;unfold Ck;grind)⟩
  have h4:=dF h4b;refine wk ?_;refine Ad rfl rfl<|?_
  exact ⟨M,false,rfl,(by clear M;unfold Ck;grind)⟩
 have h5:=dT (Ac h5b);have h5c:(decide (s=([]:List UInt8)))=true:=(Ac h5b);refine wk ?_;refine Ad rfl rfl<|?_
 exact ⟨M,false,rfl,(by clear M;unfold Ck;grind)⟩
theorem Dx (M:Mem w0 G L w) {s:List UInt8} (hs:s.length≤9223372036854775807):Calls Tryz.prog 107 #[.string (str s)] w (Bu w0 G L fun v=>v=.int .i64 (if Ck s then (1:Int) else 0)):=by
 refine Al (vs:=[_]) Tryz.func107 rfl (n:=37) rfl rfl<|?_
 refine wk ?_
 rcases bE (decide ((((s).length:Nat):Int) < 1)) with h1b | h2b
 ·skip
  have h1:=dT h1b;refine wk ?_;refine Ad rfl rfl<|?_
  exact ⟨M,by rw [if_neg (fun h_:Ck s=>by have:=h_.1;omega)]⟩
 have h2:=dF h2b;refine wk ?_;refine qD rfl ?_ ?_
 ·intro h3;refine wk ?_;refine Ad rfl rfl<|?_
  exact ⟨M,by rw [if_neg (fun h_:Ck s=>by have:=h_.1;omega)]⟩
 intro h4;refine wk ?_;refine fun a F=>Ba (fun m a' w'=>∃ (i:Nat),m=s.length - i∧Fits 37 a' [(0,.string (str s)),(3,.int .i64 ((i:Nat):Int))]∧Mem w0 G (L) w'∧(i≤s.length)∧(∀ (m:Nat) (b:UInt8),m < i→s[m]?=some b→C3 b)) _ ⟨0,rfl,F.to ⟨rfl,rfl,trivial⟩,M,by omega,fun m b h=>by omega⟩ ?_;clear F M;rintro m a w ⟨i,rfl,F,M,hi,hA⟩;revert a;refine wk ?_;refine qD rfl ?_ ?_
 ·intro h5;refine wk ?_;obtain ⟨B6,hB6⟩:=Ap (xs:=(s)) (i:=i) (by omega);have lB6:=Wi B6;refine Am (fun a F=>C4 (i:=i) Ej.k (F.ev rfl) (F.ev rfl) hB6) rfl<|?_
  refine wk ?_
  rcases bE (decide (97≤nb B6)) with h7b | h14b
  ·skip
   have h7:=dT h7b;refine wk ?_
   rcases bE (decide (nb B6≤122)) with h8b | h9b
   ·skip
    have h8:=dT h8b;refine wk ?_;intro a F
    exact ⟨_,by omega,i+1,rfl,F.to ⟨rfl,rfl,trivial⟩,M,by omega,E1 hA hB6 (by unfold C3;omega)⟩
   have h9:=dF h9b;refine wk ?_
   rcases bE (decide (48≤nb B6)) with h10b | h13b
   ·skip
    have h10:=dT h10b;refine wk ?_;refine Ae rfl ?_ ?_
    ·intro h11b;have h11:=dF (Ab h11b);refine wk ?_;refine Ad rfl rfl<|?_
     exact ⟨M,by rw [if_neg (fun h_:Ck s=>absurd h_.2 (F5 hB6 (by unfold C3;omega)))]⟩
    intro h12b;have h12:=dT (Ac h12b);refine wk ?_;intro a F
    exact ⟨_,by omega,i+1,rfl,F.to ⟨rfl,rfl,trivial⟩,M,by omega,E1 hA hB6 (by unfold C3;omega)⟩
   have h13:=dF h13b;refine wk ?_;refine Ad rfl rfl<|?_
   exact ⟨M,by rw [if_neg (fun h_:Ck s=>absurd h_.2 (F5 hB6 (by unfold C3;omega)))]⟩
  have h14:=dF h14b;refine wk ?_
  rcases bE (decide (48≤nb B6)) with h15b | h18b
  ·skip
   have h15:=dT h15b;refine wk ?_;refine Ae rfl ?_ ?_
   ·intro h16b;have h16:=dF (Ab h16b);refine wk ?_;refine Ad rfl rfl<|?_
    exact ⟨M,by rw [if_neg (fun h_:Ck s=>absurd h_.2 (F5 hB6 (by unfold C3;omega)))]⟩
   intro h17b;have h17:=dT (Ac h17b);refine wk ?_;intro a F
   exact ⟨_,by omega,i+1,rfl,F.to ⟨rfl,rfl,trivial⟩,M,by omega,E1 hA hB6 (by unfold C3;omega)⟩
  have h18:=dF h18b;refine wk ?_;refine Ad rfl rfl<|?_
  exact ⟨M,by rw [if_neg (fun h_:Ck s=>absurd h_.2 (F5 hB6 (by unfold C3;omega)))]⟩
 intro h19;refine wk ?_;refine Ad rfl rfl<|?_
 exact ⟨M,by rw [if_pos (show Ck s from ⟨by omega,D8 hA (by omega)⟩)]⟩
theorem Aae (M:Mem w0 G L w) {s:List UInt8} (hs:s.length≤9223372036854775807):Calls Tryz.prog 106 #[.string (str s)] w (Bu w0 G L fun v=>v=.int .i64 (if Str s then (1:Int) else 0)):=by
 refine Al (vs:=[_]) Tryz.func106 rfl (n:=23) rfl rfl<|?_
 refine wk ?_;refine qD rfl ?_ ?_
 ·intro h1;refine wk ?_;refine Ad rfl rfl<|?_
  exact ⟨M,by rw [if_neg (fun h_:Str s=>by have:=h_.1;omega)]⟩
 intro h2;refine wk ?_;refine fun a F=>Ba (fun m a' w'=>∃ (i:Nat),m=s.length - i∧Fits 23 a' [(0,.string (str s)),(3,.int .i64 ((i:Nat):Int))]∧Mem w0 G (L) w'∧(i≤s.length)∧(∀ (m:Nat) (b:UInt8),m < i→s[m]?=some b→Ir b)) _ ⟨0,rfl,F.to ⟨rfl,rfl,trivial⟩,M,by omega,fun m b h=>by omega⟩ ?_;clear F M;rintro m a w ⟨i,rfl,F,M,hi,hA⟩;revert a;refine wk ?_;refine qD rfl ?_ ?_
 ·intro h3;refine wk ?_;obtain ⟨B4,hB4⟩:=Ap (xs:=(s)) (i:=i) (by omega);have lB4:=Wi B4;refine Am (fun a F=>C4 (i:=i) Ej.k (F.ev rfl) (F.ev rfl) hB4) rfl<|?_
  refine wk ?_
  rcases bE (decide (nb B4 < 32)) with h5b | h6b
  ·skip
   have h5:=dT h5b;refine wk ?_;refine Ad rfl rfl<|?_
   exact ⟨M,by rw [if_neg (fun h_:Str s=>absurd h_.2 (F5 hB4 (by unfold Ir;omega)))]⟩
  have h6:=dF h6b;refine wk ?_;refine Am (fun a F=>C4 (i:=i) Ej.k (F.ev rfl) (F.ev rfl) hB4) rfl<|?_
  refine wk ?_;refine qD rfl ?_ ?_
  ·intro h7;refine wk ?_;refine Ad rfl rfl<|?_
   exact ⟨M,by rw [if_neg (fun h_:Str s=>absurd h_.2 (F5 hB4 (by unfold Ir;omega)))]⟩
  intro h8;refine wk ?_;intro a F
  exact ⟨_,by omega,i+1,rfl,F.to ⟨rfl,rfl,trivial⟩,M,by omega,E1 hA hB4 (by unfold Ir;omega)⟩
 intro h9;refine wk ?_;refine Ad rfl rfl<|?_
 exact ⟨M,by rw [if_pos (show Str s from ⟨by omega,D8 hA (by omega)⟩)]⟩
set_option maxHeartbeats 1600000
theorem Agd (M:Mem w0 G L w) {s:List UInt8} (hs:s.length≤9223372036854775807):Calls Tryz.prog 52 #[.string (str s)] w (Bu w0 G L fun v=>∃ b:Bool,v=.bool b∧(b=true↔¬ Ck s)):=by
 refine Al (vs:=[_]) Tryz.func52 rfl (n:=6) rfl rfl<|?_
 refine wk ?_;refine A4 ent53 rfl rfl (Akq (s:=s) M (by assumption))<|?_;clear M;rintro _ w M ⟨b1,rfl,hb1⟩
 refine wk ?_;refine Ad rfl rfl<|?_
 exact ⟨M,(!(b1)),rfl,(by clear M;grind)⟩
theorem Qi (M:Mem w0 G L w) {ad:Option Addr} {cd:Nat} {xs:List (List UInt8)} (S:Ag Cf 1 G (.slice ad xs.length cd) xs):Calls Tryz.prog 104 #[.slice ad xs.length cd,.func (.func 52) #[] #[]] w (Bu w0 G L fun v=>∃ z:Int,v=.int .i64 z∧(0≤z↔¬ ∀ s∈xs,Ck s)):=by
 have bS:=S.bound;refine Al (vs:=[_,_]) Tryz.func104 rfl (n:=19) rfl rfl<|?_
 refine wk ?_;refine fun a F=>Ba (fun m a' w'=>∃ (i:Nat),m=xs.length - i∧Fits 19 a' [(0,.slice ad xs.length cd),(1,.func (.func 52) #[] #[]),(7,.int .i64 ((xs.length:Nat):Int)),(8,.int .i64 ((i:Nat):Int))]∧Mem w0 G (L) w'∧(i≤xs.length)∧(∀ (m:Nat) (s:List UInt8),m < i→xs[m]?=some s→Ck s)) _ ⟨0,rfl,F.to ⟨rfl,rfl,rfl,rfl,trivial⟩,M,Nat.zero_le _,fun m d h=>by omega⟩ ?_;clear F M;rintro m a w ⟨i,rfl,F,M,hi,hA⟩;revert a;refine wk ?_;refine qD rfl ?_ ?_
 ·intro h1;refine wk ?_;obtain ⟨Xe2,hXe2⟩:=Ap (xs:=xs) (i:=i) (by omega);obtain ⟨be2,oe2,_,Ie2,_,Ae2,⟨rfl,hsle2⟩⟩:=S.at hXe2;refine wk ?_;refine Aef ent52 (caps:=[]) rfl rfl rfl (Agd (s:=Xe2) M (by omega))<|?_;clear M;rintro _ w M ⟨b3,rfl,hb3⟩
  refine Ao<|F1<|?_
  refine Ae rfl ?_ ?_
  ·intro h4b;have h4:(b3)=true:=h4b;refine wk ?_;refine Ad rfl rfl<|?_
   exact ⟨M,_,rfl,⟨fun _ h_=>(hb3.1 (by assumption)) (h_ _ (List.mem_of_getElem? hXe2)),fun _=>by omega⟩⟩
  intro h5b;have h5:(b3)=false:=h5b;refine wk ?_;intro a F
  exact ⟨_,by omega,i+1,rfl,F.to ⟨rfl,rfl,rfl,rfl,trivial⟩,M,by omega,Mq hA hXe2 (by clear F M;grind)⟩
 intro h6;refine wk ?_;refine Ad rfl rfl<|?_
 exact ⟨M,_,rfl,⟨fun h=>by omega,fun h=>absurd (Fx hA (by omega)) h⟩⟩
theorem Oa (M:Mem w0 G L w) {ad:Option Addr} {cd:Nat} {xs:List (List UInt8)} (S:Ag Cf 1 G (.slice ad xs.length cd) xs):Calls Tryz.prog 51 #[.slice ad xs.length cd,.func (.func 52) #[] #[]] w (Bu w0 G L fun v=>∃ b:Bool,v=.bool b∧(b=true↔¬ ∀ s∈xs,Ck s)):=by
 refine Al (vs:=[_,_]) Tryz.func51 rfl (n:=9) rfl rfl<|?_
 refine wk ?_;refine A4 Aua rfl rfl (Qi (xs:=xs) M S)<|?_;clear M;rintro _ w M ⟨z1,rfl,hz1⟩
 refine wk ?_;refine Ad rfl rfl<|?_
 exact ⟨M,_,rfl,decide_eq_true_iff.trans hz1⟩
theorem Als {w0 w:World} {G:Aq} {L:List Res} {b:Nat} {x:ItemD} {ma:Option Addr} {mc:Nat} (M:Mem w0 G (.blk b [.int .u64 ((x.key:Nat):Int),.int .u8 ((x.typ:Nat):Int),.string (str x.text),.slice ma x.marks.length mc] 26::L) w) (SM:Ag Cf 1 G (.slice ma x.marks.length mc) x.marks) :
  Calls Tryz.prog 47 #[.pointer (some ⟨b,0,none⟩)] w (Bu w0 G (.blk b [.int .u64 ((x.key:Nat):Int),.int .u8 ((x.typ:Nat):Int),.string (str x.text),.slice ma x.marks.length mc] 26::L) fun v=>∃ bb:Bool,v=.bool bb∧(bb=true↔Str x.text)):=by
 refine Al (vs:=[_]) Tryz.func47 rfl (n:=12) rfl rfl<|?_
 refine wk ?_
 rcases bE (decide ((((x.text).length:Nat):Int)≤64)) with h1b | h3b
 ·skip
  have h1:=dT h1b;refine wk ?_;refine A4 ent48 rfl rfl (Acu (s:=x.text) M)<|?_;clear M;rintro _ w M ⟨b2,rfl,hb2⟩
  refine wk ?_;refine Ad rfl rfl<|?_
  exact ⟨M,(!(b2)),rfl,(by clear M;unfold Str;grind)⟩
 have h3:=dF h3b;refine wk ?_;refine Ad rfl rfl<|?_
 exact ⟨M,false,rfl,(by clear M;unfold Str;grind)⟩
theorem Alr {w0 w:World} {G:Aq} {L:List Res} {b:Nat} {x:ItemD} {ma:Option Addr} {mc:Nat} (M:Mem w0 G (.blk b [.int .u64 ((x.key:Nat):Int),.int .u8 ((x.typ:Nat):Int),.string (str x.text),.slice ma x.marks.length mc] 26::L) w) (SM:Ag Cf 1 G (.slice ma x.marks.length mc) x.marks) :
  Calls Tryz.prog 50 #[.pointer (some ⟨b,0,none⟩)] w (Bu w0 G (.blk b [.int .u64 ((x.key:Nat):Int),.int .u8 ((x.typ:Nat):Int),.string (str x.text),.slice ma x.marks.length mc] 26::L) fun v=>∃ bb:Bool,v=.bool bb∧(bb=true↔(x.marks.length≤8∧∀ s∈x.marks,Ck s))):=by
 refine Al (vs:=[_]) Tryz.func50 rfl (n:=12) rfl rfl<|?_
 refine wk ?_
 rcases bE (decide (((x.marks.length:Nat):Int)≤8)) with h1b | h3b
 ·skip
  have h1:=dT h1b;refine wk ?_;refine A4 ent51 rfl rfl (Oa (xs:=x.marks) M SM)<|?_;clear M;rintro _ w M ⟨b2,rfl,hb2⟩
  refine wk ?_;refine Ad rfl rfl<|?_
  exact ⟨M,(!(b2)),rfl,(by clear M;grind)⟩
 have h3:=dF h3b;refine wk ?_;refine Ad rfl rfl<|?_
 exact ⟨M,false,rfl,(by clear M;grind)⟩
theorem Ji (M:Mem w0 G L w) {x:ItemD} {ma:Option Addr} {mc:Nat} (hI:(x.key < 18446744073709551616∧x.typ < 256∧x.text.length≤9223372036854775807)) (SM:Ag Cf 1 G (.slice ma x.marks.length mc) x.marks) {t:Int}:Calls Tryz.prog 14 #[.agg #[.int .u64 ((x.key:Nat):Int),.int .u8 ((x.typ:Nat):Int),.string (str x.text),.slice ma x.marks.length mc],.int .i64 t] w (Bu w0 G L fun v=>v=.int .i64 (Gq t x)):=by
 refine Al (vs:=[_,_]) Tryz.func14 rfl (n:=29) rfl rfl<|?_
 refine Cj<|?_
 obtain ⟨hI1,hI2,hI3⟩:=hI;refine J3<|?_
 refine B2 M rfl rfl rfl<|?_;clear M;intro b1 w M
 refine wk ?_;refine Am (fun a F=>Ct (vs:=#[.pointer (some ⟨b1,0,none⟩)]) (by simp only [List.map_toArray,List.map_cons,List.map_nil,F.ev (x:=.tmp 2) rfl])) rfl<|?_
 refine wk ?_;refine Am (fun a F=>Ct (vs:=#[.pointer (some ⟨b1,0,none⟩)]) (by simp only [List.map_toArray,List.map_cons,List.map_nil,F.ev (x:=.tmp 2) rfl])) rfl<|?_
 refine wk ?_
 rcases bE (decide (((x.key:Nat):Int)=0)) with h2b | h3b
 ·skip
  have h2:=dT h2b;refine wk ?_;refine Ad rfl rfl<|?_
  exact ⟨M.weaken dS1,by rw [Dt (by clear M;unfold ItemOk;grind)]⟩
 have h3:=dF h3b;refine wk ?_;refine Am (fun a F=>Bh Cq.k ⟨_,by rw [Bo Cl.k]⟩ (F.ev rfl) (Br (by omega) (by omega))) rfl<|?_
 refine wk ?_
 rcases bE (decide (t≤((x.typ:Nat):Int))) with h4b | h5b
 ·skip
  have h4:=dT h4b;refine wk ?_;refine Ad rfl rfl<|?_
  exact ⟨M.weaken dS1,by rw [Dt (by clear M;unfold ItemOk;grind)]⟩
 have h5:=dF h5b;refine wk ?_;replace M:=z_M M;refine Aef ent47 (caps:=[.pointer (some ⟨b1,0,none⟩)]) rfl rfl rfl (Als (x:=x) M SM)<|?_;clear M;rintro _ w M ⟨b6,rfl,hb6⟩
 refine wk ?_
 rcases bE (!(b6)) with h7b | h8b
 ·skip
  have h7:=Ab h7b;have h7c:(b6)=false:=(Ab h7b);refine wk ?_;refine Ad rfl rfl<|?_
  exact ⟨M.weaken dS1,by rw [Dt (by clear M;unfold ItemOk;grind)]⟩
 have h8:=Ac h8b;have h8c:(b6)=true:=(Ac h8b);refine wk ?_;replace M:=z_M M;refine Aef ent50 (caps:=[.pointer (some ⟨b1,0,none⟩)]) rfl rfl rfl (Alr (x:=x) M SM)<|?_;clear M;rintro _ w M ⟨b9,rfl,hb9⟩
 refine wk ?_;refine Ae rfl ?_ ?_
 ·intro h10b;have h10:=Ab h10b;have h10c:(b9)=false:=(Ab h10b);refine wk ?_;refine Ad rfl rfl<|?_
  exact ⟨M.weaken dS1,by rw [Dt (by clear M;unfold ItemOk;grind)]⟩
 intro h11b;have h11:=Ac h11b;have h11c:(b9)=true:=(Ac h11b);refine wk ?_;refine Ad rfl rfl<|?_
 exact ⟨M.weaken dS1,by rw [Cv (by first | (clear M;unfold ItemOk;grind) | exact ⟨by omega,by omega,by clear M;grind,by omega,Fx hA (by omega)⟩)]⟩
theorem Jv {P:Prop} {l:List (List UInt8)} {i:Nat} {ok:Int} {s:List UInt8} (h0:ok=0∨ok=1) (h:ok=1↔P∧∀ (m:Nat) (s:List UInt8),m < i→l[m]?=some s→Ck s) (hs:l[i]?=some s) :
  (ok * (if Ck s then (1:Int) else 0)=0∨ok * (if Ck s then (1:Int) else 0)=1)∧(ok * (if Ck s then (1:Int) else 0)=1↔P∧∀ (m:Nat) (s:List UInt8),m < i+1→l[m]?=some s→Ck s):=by
 by_cases hn:Ck s
 ·rw [if_pos hn,Int.mul_one];refine ⟨h0,h.trans ⟨fun ⟨h1,h2⟩=>⟨h1,E1 h2 hs hn⟩,fun ⟨h1,h2⟩=>⟨h1,fun m s hm=>h2 m s (by omega)⟩⟩⟩
 rw [if_neg hn,Int.mul_zero]
 exact ⟨Or.inl rfl,⟨fun h=>by omega,fun ⟨_,h2⟩=>absurd (h2 i s (by omega) hs) hn⟩⟩
theorem L3 (M:Mem w0 G L w) {x:ItemD} {ma:Option Addr} {mc:Nat} (hI:(x.key < 18446744073709551616∧x.typ < 256∧x.text.length≤9223372036854775807)) (SM:Ag Cf 1 G (.slice ma x.marks.length mc) x.marks) {t:Int}:Calls Tryz.prog 57 #[.agg #[.int .u64 ((x.key:Nat):Int),.int .u8 ((x.typ:Nat):Int),.string (str x.text),.slice ma x.marks.length mc],.int .i64 t] w (Bu w0 G L fun v=>v=.int .i64 (Gq t x)):=by
 refine Al (vs:=[_,_]) Tryz.func57 rfl (n:=43) rfl rfl<|?_
 refine Cj<|?_
 obtain ⟨hI1,hI2,hI3⟩:=hI;have bSM:=SM.bound;refine J3<|?_
 refine B2 M rfl rfl rfl<|?_;clear M;intro b1 w M
 refine wk ?_;refine A4 ent106 rfl rfl (Aae (s:=x.text) M (by omega))<|?_;clear M;rintro _ w M rfl
 refine wk ?_
 rcases bE (decide (((x.key:Nat):Int)=0)) with h2b | h8b
 ·skip
  have h2:=dT h2b;refine wk ?_;intro a F;refine Ba (fun m a' w'=>∃ (i:Nat),∃ (ok:Int),m=x.marks.length - i∧Fits 43 a' [(1,.int .i64 t),(2,.pointer (some ⟨b1,0,none⟩)),(5,.int .i64 ok),(6,.int .i64 ((i:Nat):Int))]∧Mem w0 G (.blk b1 [.int .u64 ((x.key:Nat):Int),.int .u8 ((x.typ:Nat):Int),.string (str x.text),.slice ma x.marks.length mc] 26::L) w'∧(i≤x.marks.length)∧(ok=0∨ok=1)∧(ok=1↔(x.key≠0∧(x.typ:Int) < t∧Str x.text∧x.marks.length≤8)∧∀ (m:Nat) (s:List UInt8),m < i→x.marks[m]?=some s→Ck s)) _ ⟨0,0,rfl,F.to ⟨rfl,rfl,rfl,rfl,trivial⟩,M,Nat.zero_le _,(by first | omega | (split <;> omega)),⟨fun h_=>⟨(by clear F M;grind),fun m s hm=>by omega⟩,fun h_=>(by clear F M;grind)⟩⟩ ?_;clear F M;rintro m a w ⟨i,ok,rfl,F,M,hi,hok,hA⟩;revert a;refine wk ?_;refine qD rfl ?_ ?_
  ·intro h3;refine wk ?_;obtain ⟨Xe4,hXe4⟩:=Ap (xs:=x.marks) (i:=i) (by omega);obtain ⟨be4,oe4,_,Ie4,_,Ae4,⟨rfl,hsle4⟩⟩:=SM.at hXe4;refine wk ?_;refine A4 Zm rfl rfl (Dx (s:=Xe4) M (by omega))<|?_;clear M;rintro _ w M rfl
   refine Am (fun a F=>Lw (F.ev rfl) (F.ev rfl) (Br (by (rcases hok with rfl | rfl <;> split <;> omega)) (by (rcases hok with rfl | rfl <;> split <;> omega)))) rfl<|?_
   refine wk ?_;intro a F
   exact ⟨_,by omega,i+1,ok * ((if Ck Xe4 then (1:Int) else 0)),rfl,F.to ⟨rfl,rfl,rfl,rfl,trivial⟩,M,by omega,(Jv hok hA hXe4).1,(Jv hok hA hXe4).2⟩
  intro h5;refine wk ?_;refine qD rfl ?_ ?_
  ·intro h6;refine wk ?_;refine Ad rfl rfl<|?_
   exact ⟨M.weaken dS1,by rw [Cv (by clear M;obtain ⟨h1_,h2_⟩:=hA.1 (by omega);exact ⟨h1_.1,h1_.2.1,h1_.2.2.1,h1_.2.2.2,Fx h2_ (by omega)⟩)]⟩
  intro h7;refine wk ?_;refine Ad rfl rfl<|?_
  exact ⟨M.weaken dS1,by rw [Dt (by clear M;intro h_;have:=hA.2 ⟨⟨h_.1,h_.2.1,h_.2.2.1,h_.2.2.2.1⟩,fun m s _ hs=>h_.2.2.2.2 s (List.mem_of_getElem? hs)⟩;omega)]⟩
 have h8:=dF h8b;refine wk ?_;refine Am (fun a F=>Bh Cq.k ⟨_,by rw [Bo Cl.k]⟩ (F.ev rfl) (Br (by omega) (by omega))) rfl<|?_
 refine wk ?_
 rcases bE (decide (t≤((x.typ:Nat):Int))) with h9b | h15b
 ·skip
  have h9:=dT h9b;refine wk ?_;intro a F;refine Ba (fun m a' w'=>∃ (i:Nat),∃ (ok:Int),m=x.marks.length - i∧Fits 43 a' [(1,.int .i64 t),(2,.pointer (some ⟨b1,0,none⟩)),(5,.int .i64 ok),(6,.int .i64 ((i:Nat):Int))]∧Mem w0 G (.blk b1 [.int .u64 ((x.key:Nat):Int),.int .u8 ((x.typ:Nat):Int),.string (str x.text),.slice ma x.marks.length mc] 26::L) w'∧(i≤x.marks.length)∧(ok=0∨ok=1)∧(ok=1↔(x.key≠0∧(x.typ:Int) < t∧Str x.text∧x.marks.length≤8)∧∀ (m:Nat) (s:List UInt8),m < i→x.marks[m]?=some s→Ck s)) _ ⟨0,0,rfl,F.to ⟨rfl,rfl,rfl,rfl,trivial⟩,M,Nat.zero_le _,(by first | omega | (split <;> omega)),⟨fun h_=>⟨(by clear F M;grind),fun m s hm=>by omega⟩,fun h_=>(by clear F M;grind)⟩⟩ ?_;clear F M;rintro m a w ⟨i,ok,rfl,F,M,hi,hok,hA⟩;revert a;refine wk ?_;refine qD rfl ?_ ?_
  ·intro h10;refine wk ?_;obtain ⟨Xe11,hXe11⟩:=Ap (xs:=x.marks) (i:=i) (by omega);obtain ⟨be11,oe11,_,Ie11,_,Ae11,⟨rfl,hsle11⟩⟩:=SM.at hXe11;refine wk ?_;refine A4 Zm rfl rfl (Dx (s:=Xe11) M (by omega))<|?_;clear M;rintro _ w M rfl
   refine Am (fun a F=>Lw (F.ev rfl) (F.ev rfl) (Br (by (rcases hok with rfl | rfl <;> split <;> omega)) (by (rcases hok with rfl | rfl <;> split <;> omega)))) rfl<|?_
   refine wk ?_;intro a F
   exact ⟨_,by omega,i+1,ok * ((if Ck Xe11 then (1:Int) else 0)),rfl,F.to ⟨rfl,rfl,rfl,rfl,trivial⟩,M,by omega,(Jv hok hA hXe11).1,(Jv hok hA hXe11).2⟩
  intro h12;refine wk ?_;refine qD rfl ?_ ?_
  ·intro h13;refine wk ?_;refine Ad rfl rfl<|?_
   exact ⟨M.weaken dS1,by rw [Cv (by clear M;obtain ⟨h1_,h2_⟩:=hA.1 (by omega);exact ⟨h1_.1,h1_.2.1,h1_.2.2.1,h1_.2.2.2,Fx h2_ (by omega)⟩)]⟩
  intro h14;refine wk ?_;refine Ad rfl rfl<|?_
  exact ⟨M.weaken dS1,by rw [Dt (by clear M;intro h_;have:=hA.2 ⟨⟨h_.1,h_.2.1,h_.2.2.1,h_.2.2.2.1⟩,fun m s _ hs=>h_.2.2.2.2 s (List.mem_of_getElem? hs)⟩;omega)]⟩
 have h15:=dF h15b;refine wk ?_;refine qD rfl ?_ ?_
 ·intro h16;refine wk ?_;intro a F;refine Ba (fun m a' w'=>∃ (i:Nat),∃ (ok:Int),m=x.marks.length - i∧Fits 43 a' [(1,.int .i64 t),(2,.pointer (some ⟨b1,0,none⟩)),(5,.int .i64 ok),(6,.int .i64 ((i:Nat):Int))]∧Mem w0 G (.blk b1 [.int .u64 ((x.key:Nat):Int),.int .u8 ((x.typ:Nat):Int),.string (str x.text),.slice ma x.marks.length mc] 26::L) w'∧(i≤x.marks.length)∧(ok=0∨ok=1)∧(ok=1↔(x.key≠0∧(x.typ:Int) < t∧Str x.text∧x.marks.length≤8)∧∀ (m:Nat) (s:List UInt8),m < i→x.marks[m]?=some s→Ck s)) _ ⟨0,0,rfl,F.to ⟨rfl,rfl,rfl,rfl,trivial⟩,M,Nat.zero_le _,(by first | omega | (split <;> omega)),⟨fun h_=>⟨(by clear F M;grind),fun m s hm=>by omega⟩,fun h_=>(by clear F M;grind)⟩⟩ ?_;clear F M;rintro m a w ⟨i,ok,rfl,F,M,hi,hok,hA⟩;revert a;refine wk ?_;refine qD rfl ?_ ?_
  ·intro h17;refine wk ?_;obtain ⟨Xe18,hXe18⟩:=Ap (xs:=x.marks) (i:=i) (by omega);obtain ⟨be18,oe18,_,Ie18,_,Ae18,⟨rfl,hsle18⟩⟩:=SM.at hXe18;refine wk ?_;refine A4 Zm rfl rfl (Dx (s:=Xe18) M (by omega))<|?_;clear M;rintro _ w M rfl
   refine Am (fun a F=>Lw (F.ev rfl) (F.ev rfl) (Br (by (rcases hok with rfl | rfl <;> split <;> omega)) (by (rcases hok with rfl | rfl <;> split <;> omega)))) rfl<|?_
   refine wk ?_;intro a F
   exact ⟨_,by omega,i+1,ok * ((if Ck Xe18 then (1:Int) else 0)),rfl,F.to ⟨rfl,rfl,rfl,rfl,trivial⟩,M,by omega,(Jv hok hA hXe18).1,(Jv hok hA hXe18).2⟩
  intro h19;refine wk ?_;refine qD rfl ?_ ?_
  ·intro h20;refine wk ?_;refine Ad rfl rfl<|?_
   exact ⟨M.weaken dS1,by rw [Cv (by clear M;obtain ⟨h1_,h2_⟩:=hA.1 (by omega);exact ⟨h1_.1,h1_.2.1,h1_.2.2.1,h1_.2.2.2,Fx h2_ (by omega)⟩)]⟩
  intro h21;refine wk ?_;refine Ad rfl rfl<|?_
  exact ⟨M.weaken dS1,by rw [Dt (by clear M;intro h_;have:=hA.2 ⟨⟨h_.1,h_.2.1,h_.2.2.1,h_.2.2.2.1⟩,fun m s _ hs=>h_.2.2.2.2 s (List.mem_of_getElem? hs)⟩;omega)]⟩
 intro h22;refine wk ?_;intro a F;refine Ba (fun m a' w'=>∃ (i:Nat),∃ (ok:Int),m=x.marks.length - i∧Fits 43 a' [(1,.int .i64 t),(2,.pointer (some ⟨b1,0,none⟩)),(5,.int .i64 ok),(6,.int .i64 ((i:Nat):Int))]∧Mem w0 G (.blk b1 [.int .u64 ((x.key:Nat):Int),.int .u8 ((x.typ:Nat):Int),.string (str x.text),.slice ma x.marks.length mc] 26::L) w'∧(i≤x.marks.length)∧(ok=0∨ok=1)∧(ok=1↔(x.key≠0∧(x.typ:Int) < t∧Str x.text∧x.marks.length≤8)∧∀ (m:Nat) (s:List UInt8),m < i→x.marks[m]?=some s→Ck s)) _ ⟨0,(if Str x.text then (1:Int) else 0),rfl,F.to ⟨rfl,rfl,rfl,rfl,trivial⟩,M,Nat.zero_le _,(by first | omega | (split <;> omega)),⟨fun h_=>⟨(by clear F M;grind),fun m s hm=>by omega⟩,fun h_=>(by clear F M;grind)⟩⟩ ?_;clear F M;rintro m a w ⟨i,ok,rfl,F,M,hi,hok,hA⟩;revert a;refine wk ?_;refine qD rfl ?_ ?_
 ·intro h23;refine wk ?_;obtain ⟨Xe24,hXe24⟩:=Ap (xs:=x.marks) (i:=i) (by omega);obtain ⟨be24,oe24,_,Ie24,_,Ae24,⟨rfl,hsle24⟩⟩:=SM.at hXe24;refine wk ?_;refine A4 Zm rfl rfl (Dx (s:=Xe24) M (by omega))<|?_;clear M;rintro _ w M rfl
  refine Am (fun a F=>Lw (F.ev rfl) (F.ev rfl) (Br (by (rcases hok with rfl | rfl <;> split <;> omega)) (by (rcases hok with rfl | rfl <;> split <;> omega)))) rfl<|?_
  refine wk ?_;intro a F
  exact ⟨_,by omega,i+1,ok * ((if Ck Xe24 then (1:Int) else 0)),rfl,F.to ⟨rfl,rfl,rfl,rfl,trivial⟩,M,by omega,(Jv hok hA hXe24).1,(Jv hok hA hXe24).2⟩
 intro h25;refine wk ?_;refine qD rfl ?_ ?_
 ·intro h26;refine wk ?_;refine Ad rfl rfl<|?_
  exact ⟨M.weaken dS1,by rw [Cv (by clear M;obtain ⟨h1_,h2_⟩:=hA.1 (by omega);exact ⟨h1_.1,h1_.2.1,h1_.2.2.1,h1_.2.2.2,Fx h2_ (by omega)⟩)]⟩
 intro h27;refine wk ?_;refine Ad rfl rfl<|?_
 exact ⟨M.weaken dS1,by rw [Dt (by clear M;intro h_;have:=hA.2 ⟨⟨h_.1,h_.2.1,h_.2.2.1,h_.2.2.2.1⟩,fun m s _ hs=>h_.2.2.2.2 s (List.mem_of_getElem? hs)⟩;omega)]⟩
set_option maxHeartbeats 1600000
theorem Aem (M:Mem w0 G L w) {x:ItemD} {max:Option Addr} {mcx:Nat} (hIx:(x.key < 18446744073709551616∧x.typ < 256∧x.text.length≤9223372036854775807)) (SMx:Ag Cf 1 G (.slice max x.marks.length mcx) x.marks) {y:ItemD} {may:Option Addr} {mcy:Nat} (hIy:(y.key < 18446744073709551616∧y.typ < 256∧y.text.length≤9223372036854775807)) (SMy:Ag Cf 1 G (.slice may y.marks.length mcy) y.marks):Calls Tryz.prog 46 #[.agg #[.int .u64 ((x.key:Nat):Int),.int .u8 ((x.typ:Nat):Int),.string (str x.text),.slice max x.marks.length mcx],.agg #[.int .u64 ((y.key:Nat):Int),.int .u8 ((y.typ:Nat):Int),.string (str y.text),.slice may y.marks.length mcy]] w (Bu w0 G L fun v=>v=.int .i64 (if x=y then (1:Int) else 0)):=by
 refine Al (vs:=[_,_]) Tryz.func46 rfl (n:=52) rfl rfl<|?_
 refine Bt<|?_
 refine B2 M rfl rfl rfl<|?_;clear M;intro b1 w M
 refine B2 M rfl rfl rfl<|?_;clear M;intro b2 w M
 refine wk ?_;have bSM:=SMx.bound;refine wk ?_
 rcases bE (!(decide (((x.key:Nat):Int)=((y.key:Nat):Int)))) with h3b | h4b
 ·skip
  have h3:=dF (Ab h3b);have h3c:(decide (((x.key:Nat):Int)=((y.key:Nat):Int)))=false:=(Ab h3b);refine wk ?_;refine Ad rfl rfl<|?_
  exact ⟨M.weaken dS2,by rw [if_neg (fun h_=>by subst h_;clear M;grind)]⟩
 have h4:=dT (Ac h4b);have h4c:(decide (((x.key:Nat):Int)=((y.key:Nat):Int)))=true:=(Ac h4b);refine wk ?_
 rcases bE (!(decide (((x.typ:Nat):Int)=((y.typ:Nat):Int)))) with h5b | h6b
 ·skip
  have h5:=dF (Ab h5b);have h5c:(decide (((x.typ:Nat):Int)=((y.typ:Nat):Int)))=false:=(Ab h5b);refine wk ?_;refine Ad rfl rfl<|?_
  exact ⟨M.weaken dS2,by rw [if_neg (fun h_=>by subst h_;clear M;grind)]⟩
 have h6:=dT (Ac h6b);have h6c:(decide (((x.typ:Nat):Int)=((y.typ:Nat):Int)))=true:=(Ac h6b);refine wk ?_
 rcases bE (!(decide (x.text=y.text))) with h7b | h8b
 ·skip
  have h7:=dF (Ab h7b);have h7c:(decide (x.text=y.text))=false:=(Ab h7b);refine wk ?_;refine Ad rfl rfl<|?_
  exact ⟨M.weaken dS2,by rw [if_neg (fun h_=>by subst h_;clear M;grind)]⟩
 have h8:=dT (Ac h8b);have h8c:(decide (x.text=y.text))=true:=(Ac h8b);refine wk ?_;refine Ae rfl ?_ ?_
 ·intro h9b;have h9:=dF (Ab h9b);have h9c:(decide (((x.marks.length:Nat):Int)=((y.marks.length:Nat):Int)))=false:=(Ab h9b);refine wk ?_;refine Ad rfl rfl<|?_
  exact ⟨M.weaken dS2,by rw [if_neg (fun h_=>by subst h_;clear M;grind)]⟩
 intro h10b;have h10:=dT (Ac h10b);have h10c:(decide (((x.marks.length:Nat):Int)=((y.marks.length:Nat):Int)))=true:=(Ac h10b);refine wk ?_;refine fun a F=>Ba (fun m a' w'=>∃ (i:Nat),m=x.marks.length - i∧Fits 52 a' [(2,.pointer (some ⟨b1,0,none⟩)),(3,.pointer (some ⟨b2,0,none⟩)),(5,.int .i64 ((i:Nat):Int))]∧Mem w0 G (.blk b2 [.int .u64 ((y.key:Nat):Int),.int .u8 ((y.typ:Nat):Int),.string (str y.text),.slice may y.marks.length mcy] 26::.blk b1 [.int .u64 ((x.key:Nat):Int),.int .u8 ((x.typ:Nat):Int),.string (str x.text),.slice max x.marks.length mcx] 26::L) w'∧(i≤x.marks.length)∧(∀ m,m < i→x.marks[m]?=y.marks[m]?)) _ ⟨0,rfl,F.to ⟨rfl,rfl,rfl,trivial⟩,M,Nat.zero_le _,fun m h=>by omega⟩ ?_;clear F M;rintro m a w ⟨i,rfl,F,M,hi,hA⟩;revert a;refine wk ?_;refine qD rfl ?_ ?_
 ·intro h11;refine wk ?_;refine fun a F=>E3 [(true,0),(true,1),(true,2),(true,3),(true,4),(true,5),(true,6),(true,7),(true,8),(true,9),(true,10)] (Keep G [.blk b2 [.int .u64 ((y.key:Nat):Int),.int .u8 ((y.typ:Nat):Int),.string (str y.text),.slice may y.marks.length mcy] 26,.blk b1 [.int .u64 ((x.key:Nat):Int),.int .u8 ((x.typ:Nat):Int),.string (str x.text),.slice max x.marks.length mcx] 26]) rfl (by kernel_rfl) (fun c a d v w h=>by cases d <;> exact h) (Ax (M.drew _)) ?_;replace M:=M.drew (w.drawn+1);revert a;refine wk ?_;obtain ⟨Xe12,hXe12⟩:=Ap (xs:=x.marks) (i:=i) (by omega);obtain ⟨be12,oe12,_,Ie12,_,Ae12,⟨rfl,hsle12⟩⟩:=SMx.at hXe12;refine wk ?_;obtain ⟨Xe13,hXe13⟩:=Ap (xs:=y.marks) (i:=i) (by omega);obtain ⟨be13,oe13,_,Ie13,_,Ae13,⟨rfl,hsle13⟩⟩:=SMy.at hXe13;refine wk ?_
  generalize ({ w with drawn:=w.drawn+1 }:World)=w at M ⊢
  refine wk ?_;refine Ae rfl ?_ ?_
  ·intro h14b;have h14:=dF (Ab h14b);have h14c:(decide (Xe12=Xe13))=false:=(Ab h14b);refine wk ?_;refine Ad rfl rfl<|?_
   exact ⟨M.weaken dS2,by rw [if_neg (fun h_=>absurd (congrArg ItemD.marks h_) (Wh hXe12 hXe13 (by assumption)))]⟩
  intro h15b;have h15:=dT (Ac h15b);have h15c:(decide (Xe12=Xe13))=true:=(Ac h15b);refine wk ?_;intro a F
  exact ⟨_,by omega,i+1,rfl,F.to ⟨rfl,rfl,rfl,trivial⟩,M,by omega,Aik hA hXe12 hXe13 (by assumption)⟩
 intro h16;refine wk ?_;refine Ad rfl rfl<|?_
 exact ⟨M.weaken dS2,by rw [if_pos (Abz (by omega) (by omega) (by assumption) (Aqw hA (by omega) (by omega)))]⟩
theorem Ti (M:Mem w0 G L w) {a1:Option Addr} {c1:Nat} {xs:List ItemD} (S:Ag Bn 4 G (.slice a1 xs.length c1) xs) {k:Nat}:Calls Tryz.prog 61 #[.slice a1 xs.length c1,.int .u64 ((k:Nat):Int)] w (Bu w0 G L fun v=>∃ z:Int,v=.int .i64 z∧Kq xs k z):=by
 have bS:=S.bound;refine Al (vs:=[_,_]) Tryz.func61 rfl (n:=20) rfl rfl<|?_
 refine wk ?_;refine fun a F=>Ba (fun m a' w'=>∃ (i:Nat),m=xs.length - i∧Fits 20 a' [(0,.slice a1 xs.length c1),(1,.int .u64 ((k:Nat):Int)),(5,.int .i64 ((i:Nat):Int))]∧Mem w0 G (L) w'∧(i≤xs.length)∧(∀ (m:Nat) (y:ItemD),m < i→xs[m]?=some y→y.key≠k)) _ ⟨0,rfl,F.to ⟨rfl,rfl,rfl,trivial⟩,M,Nat.zero_le _,fun m d h=>by omega⟩ ?_;clear F M;rintro m a w ⟨i,rfl,F,M,hi,hA⟩;revert a;refine wk ?_;refine qD rfl ?_ ?_
 ·intro h1;refine wk ?_;obtain ⟨Xe2,hXe2⟩:=Ap (xs:=xs) (i:=i) (by omega);obtain ⟨be2,oe2,_,Ie2,_,Ae2,hTe2⟩:=S.at hXe2;obtain ⟨mae2,mce2,rfl,hke2,hte2,hxe2,hne2,SMe2⟩:=hTe2;have hIe2:(Xe2.key < 18446744073709551616∧Xe2.typ < 256∧Xe2.text.length≤9223372036854775807):=⟨hke2,hte2,hxe2⟩;refine wk ?_;refine qD rfl ?_ ?_
  ·intro h3;refine wk ?_;refine Ad rfl rfl<|?_
   exact ⟨M,_,rfl,Kq.some hA hXe2 (by omega)⟩
  intro h4;refine wk ?_;intro a F
  exact ⟨_,by omega,i+1,rfl,F.to ⟨rfl,rfl,rfl,trivial⟩,M,by omega,E1 (p:=fun y:ItemD=>y.key≠k) hA hXe2 (by omega)⟩
 intro h5;refine wk ?_;refine Ad rfl rfl<|?_
 exact ⟨M,_,rfl,Kq.none hA (by omega)⟩
set_option maxHeartbeats 1600000
theorem Vk {w0 w:World} {G:Aq} {L:List Res} {b n c:Nat} {ad:Option Addr} (M:Mem w0 G (.blk b [.pointer none,.slice ad n c] 101::L) w) :
  Calls Tryz.prog 96 #[.pointer (some ⟨b,0,none⟩)] w (Bu w0 G (.blk b [.pointer (some ⟨b,0,none⟩),.slice ad n c] 101::L) fun v=>v=.tuple #[]):=by
 refine Al (vs:=[_]) Tryz.func96 rfl (n:=20) rfl rfl<|?_
 refine wk ?_;refine Am (fun a F=>Vz Sk.k (F.ev rfl) (F.ev rfl)) rfl<|?_
 refine wk ?_;refine Am (fun a F=>X7 M (k:=0) rfl (by simp) Sk.k (by kernel_rfl) Pw (by decide) (F.ev rfl)) rfl<|Am (fun a F=>run_noEscape Tryz.func142 (by kernel_rfl) (by kernel_rfl) (by kernel_rfl) (by kernel_rfl) (F.ev rfl) (F.ev (x:=.func 142) rfl)) rfl<|Am (fun a F=>S4 M (k:=0) rfl (by kernel_rfl) Sk.k Pw (by kernel_rfl) (F.ev rfl)) rfl<|?_
 refine wk ?_;refine Dv Sk M 0 rfl rfl rfl rfl rfl rfl<|?_;clear M;intro w M
 refine Ao<|?_
 refine fun a F=>Aqs F rfl ?_
 exact ⟨M,rfl⟩
theorem Vj {w0 w:World} {G:Aq} {L:List Res} {b n c:Nat} {ad:Option Addr} (M:Mem w0 G (.blk b [.pointer (some ⟨b,0,none⟩),.slice ad n c] 101::L) w) :
  Calls Tryz.prog 96 #[.pointer (some ⟨b,0,none⟩)] w (Bu w0 G (.blk b [.pointer (some ⟨b,0,none⟩),.slice ad n c] 101::L) fun v=>v=.tuple #[]):=by
 refine Al (vs:=[_]) Tryz.func96 rfl (n:=20) rfl rfl<|?_
 refine wk ?_;refine Am (fun a F=>Vz Sk.k (F.ev rfl) (F.ev rfl)) rfl<|?_
 refine wk ?_;refine Am (fun a F=>S0 Sk.k Pw (F.ev rfl) (F.ev rfl)) rfl<|?_
 refine wk ?_;refine fun a F=>Aqs F rfl ?_
 exact ⟨M,rfl⟩
theorem Us {w0 w:World} {G:Aq} {L:List Res} {b n c:Nat} {ad:Option Addr} {p:Value} (hp:p=.pointer none∨p=.pointer (some ⟨b,0,none⟩)) (M:Mem w0 G (.blk b [p,.slice ad n c] 101::L) w) :
  Calls Tryz.prog 96 #[.pointer (some ⟨b,0,none⟩)] w (Bu w0 G (.blk b [.pointer (some ⟨b,0,none⟩),.slice ad n c] 101::L) fun v=>v=.tuple #[]):=by
 rcases hp with rfl | rfl
 ·exact Vk M
 exact Vj M
theorem Mi {w0 w:World} {G:Aq} {L:List Res} {b n c:Nat} {ad:Option Addr} {l:List UInt8} {p:Value} {s:List UInt8} (hp:p=.pointer none∨p=.pointer (some ⟨b,0,none⟩)) (M:Mem w0 G (.blk b [p,.slice ad n c] 101::.row (.slice ad n c) n (bc l) 5 1::L) w) (hn:n=l.length) (hnil:l=[]→ad=none) (hlen:l.length+s.length≤140737488355328) :
  Calls Tryz.prog 41 #[.pointer (some ⟨b,0,none⟩),.string (str s)] w (Ke w0 G fun L' v=>v=.tuple #[.int .i64 (s.length:Nat),.nilIface]∧∃ a' n' c',L' = (.blk b [.pointer (some ⟨b,0,none⟩),.slice a' n' c'] 101::.row (.slice a' n' c') n' (bc (l++s)) 5 1::L)∧n' = (l++s).length∧(l++s=[]→a' = none)):=by
 have hrow:ad.isNone=true→ad=none∧n=0∧c=0∧_:=fun h=>M.row_none (k:=1) rfl h;refine Al (vs:=[_,_]) Tryz.func41 rfl (n:=19) rfl rfl<|?_
 refine wk ?_;replace M:=z_M M;refine A4 ent96 rfl rfl (Us hp M)<|?_;clear M;rintro _ w M rfl
 refine wk ?_;intro a F;refine Yj F M (k:=1) rfl La.k Ej.k Cl rfl rfl rfl rfl rfl (by omega) rfl ?_;clear F M a;intro v1 w a M hwv1 F;obtain ⟨av1,cv1,rfl,hlev1,hcmv1,hlv1⟩:=M.row_shape (k:=1) rfl;rw [← Amc] at M;revert a;refine wk ?_;refine Dv La M 0 rfl rfl rfl rfl rfl rfl<|?_;clear M;intro w M
 refine wk ?_;refine C8 rfl rfl rfl<|?_
 replace M:=M.perm (Af _ 1 _ rfl);replace M:=M.perm (Af _ 1 _ rfl);replace M:=z_M M
 exact ⟨_,M,rfl,_,_,_,rfl,by rw [List.length_append,hn],fun h=>by obtain ⟨h1,h2⟩:=List.append_eq_nil_iff.1 h;have h3:=hnil h1;subst h3;obtain ⟨_,h4,h5,_⟩:=hrow rfl;subst h4 h5;have h6:=hwv1.2 ⟨rfl,h2⟩;simp only [Value.slice.injEq] at h6;exact h6.1⟩
theorem Ama {w0 w:World} {G:Aq} {L:List Res} {b c gb:Nat} {p:Value} {l:List UInt8} (M:Mem w0 G (.blk b [p,.slice none 0 0] 101::.row (.slice none 0 0) 0 (bc []) 5 1::L) w) :
  Calls Tryz.prog 43 #[.pointer (some ⟨b,0,none⟩)] w (Bu w0 G L fun v=>v=.string (str [])):=by
 refine Al (vs:=[_]) Tryz.func43 rfl (n:=14) rfl rfl<|?_
 refine wk ?_;refine fun a F=>E3 [(true,0),(true,1),(true,2),(true,3),(true,5),(true,6),(true,7),(true,8),(true,9),(false,4),(false,10),(true,11)] (Keep G [.blk b [p,.slice none 0 0] 101]) rfl (by kernel_rfl) (fun c a d v w h=>by cases d <;> exact h) (Ax (M.drew _)) ?_;replace M:=M.drew (w.drawn+1);revert a;refine wk ?_;refine l_a rfl<|Am (fun a F=>Sy (F.ev rfl)) rfl<|?_
 refine Ao<|?_
 refine eQ (Ax M)<|l_a rfl<|Am (fun a F=>Ss (F.ev rfl) (F.ev rfl)) rfl<|?_
 refine Ao<|?_
 refine eQ (Ax M)<|?_
 refine wk ?_;refine Ad rfl rfl<|?_
 exact ⟨M.weaken dS2,rfl⟩
theorem Alz {w0 w:World} {G:Aq} {L:List Res} {b c gb:Nat} {p:Value} {l:List UInt8} (M:Mem w0 G (.blk b [p,.slice (some ⟨gb,0,none⟩) (l.length) c] 101::.row (.slice (some ⟨gb,0,none⟩) (l.length) c) (l.length) (bc l) 5 1::L) w) (h0:l≠[]) (hc:l.length≤c) :
  Calls Tryz.prog 43 #[.pointer (some ⟨b,0,none⟩)] w (Bu w0 G L fun v=>v=.string (str l)):=by
 have h0':0 < l.length:=List.length_pos_iff.2 h0;refine Al (vs:=[_]) Tryz.func43 rfl (n:=14) rfl rfl<|?_
 refine wk ?_;refine fun a F=>E3 [(true,0),(true,1),(true,2),(true,3),(true,5),(true,6),(true,7),(true,8),(true,9),(false,4),(false,10),(true,11)] (Keep G [.blk b [p,.slice (some ⟨gb,0,none⟩) (l.length) (c)] 101]) rfl (by kernel_rfl) (fun c a d v w h=>by cases d <;> exact h) (Ax (M.drew _)) ?_;replace M:=M.drew (w.drawn+1);revert a;refine wk ?_;refine l_a rfl<|Am (fun a F=>U5 (F.ev rfl) (by omega)) rfl<|?_
 refine Ao<|?_
 refine eQ (Ax M)<|l_a rfl<|fun a F=>?_
 refine Yg F M (k:=1) rfl Amt.k Cl rfl h0 rfl rfl rfl ?_;clear F M a;intro w a M F;revert a;refine Ao<|?_
 refine eQ (Ax M)<|?_
 refine wk ?_;refine Ad rfl rfl<|?_
 exact ⟨M.weaken dS1,rfl⟩
theorem Xh {w0 w:World} {G:Aq} {L:List Res} {b n c:Nat} {ad:Option Addr} {l:List UInt8} {p:Value} (M:Mem w0 G (.blk b [p,.slice ad n c] 101::.row (.slice ad n c) n (bc l) 5 1::L) w) (hn:n=l.length) (hnil:l=[]→ad=none) :
  Calls Tryz.prog 43 #[.pointer (some ⟨b,0,none⟩)] w (Bu w0 G L fun v=>v=.string (str l)):=by
 subst hn
 by_cases h0:l=[]
 ·have h1:=hnil h0;subst h1 h0;obtain ⟨_,_,h4,_⟩:=M.row_none (k:=1) rfl rfl;subst h4
  exact Ama (gb:=0) (c:=0) (l:=[]) M
 have h0':0 < l.length:=List.length_pos_iff.2 h0;obtain ⟨gb,h1⟩:=M.row_some (k:=1) rfl h0';subst h1;obtain ⟨_,_,he,hle,_⟩:=M.row_shape (k:=1) rfl;simp only [Value.slice.injEq] at he
 exact Alz M h0 (by omega)
set_option maxHeartbeats 1600000
theorem Md (M:Mem w0 G L w) (HG:Globs 0 1 2 3 G) {s sep:List UInt8} (hs:s.length < 4294967281) :
  Calls Tryz.prog 100 #[.string (str s),.string (str sep)] w (Bu w0 G L fun v=>v=.tuple #[.string (str (Lib.cut s sep).1),.string (str (Lib.cut s sep).2.1),.bool (Lib.cut s sep).2.2]):=by
 obtain ⟨m,hm⟩:=HG.max;refine (Any.strings_Cut Tryz.lays145 (str s) (str sep) m w (by rw [B5];exact hs) (M.cell hm)).mono ?_;rintro e w' ⟨rfl,n,rfl⟩;rw [D0,D0]
 exact ⟨M.drewN n,rfl⟩
theorem Aey (M:Mem w0 G L w) (HG:Globs 0 1 2 3 G) {s:List UInt8} (hs:s.length≤281474976710656) :
  Calls Tryz.prog 101 #[.string (str s),.int .i64 10,.int .i64 64] w (Bu w0 G L fun v=>∃ (u:Nat) (er:Value),v=.tuple #[.int .u64 (u:Int),er]∧u≤18446744073709551615∧(er=.nilIface∨∃ te pe,er=.iface te pe) ∧
   ((Lib.parseUintB 64 s=.ok u∧De er=true)∨((∀ x,Lib.parseUintB 64 s≠.ok x)∧De er=false))):=by
 have hd:(str s).data.toList=s:=D0 s
 cases h:Lib.parseUintB 64 s with
 | ok u =>
  refine (Any.strconv_ParseUint_10_at64_ok Tryz.laysPu14 (str s) (by rw [B5];omega) u (by rw [hd];exact h) w).mono ?_;rintro e w' ⟨rfl,hw⟩;refine ⟨?_,u,_,rfl,pu64_le h,Or.inl rfl,Or.inl ⟨rfl,rfl⟩⟩
  rcases hw with rfl | rfl
  ·exact M
  ·exact M.bytesWorld _ _
 | range =>
  obtain ⟨ev,h1,h2⟩:=HG.rng;refine (Any.strconv_ParseUint_10_at64_range Tryz.laysPu14 (str s) (by rw [B5];omega) (by rw [hd];exact h) ev w (M.cell h1) h2).mono ?_;rintro e w' ⟨N,rfl,_,_,hb⟩
  exact ⟨M.below' hb,18446744073709551615,_,rfl,by omega,Or.inr ⟨_,_,rfl⟩,Or.inr ⟨(fun x hx=>by cases hx),rfl⟩⟩
 | _ =>
  obtain ⟨ev,h1,h2⟩:=HG.syn;refine (Any.strconv_ParseUint_10_at64_syntax Tryz.laysPu14 (str s) (by rw [B5];omega) (by rw [hd];exact h) ev w (M.cell h1) h2).mono ?_;rintro e w' ⟨N,rfl,_,_,hb⟩
  exact ⟨M.below' hb,0,_,rfl,by omega,Or.inr ⟨_,_,rfl⟩,Or.inr ⟨(fun x hx=>by cases hx),rfl⟩⟩
theorem Acg (M:Mem w0 G L w) (HG:Globs 0 1 2 3 G) {n:Int} (hn:Au .i64 n) :
  Calls Tryz.prog 166 #[.int .i64 n,.int .i64 10] w (Bu w0 G L fun v=>v=.string (str (Lib.itoa n))):=by
 refine (Any.internal_strconv_FormatInt_10 Tryz.laysM246 n hn.1 hn.2 w (HG.tabIs M (by kernel_rfl))).mono ?_;rintro e w' ⟨rfl,k,os,rfl⟩
 exact ⟨(M.drewN k).grew os,rfl⟩
theorem Aee (M:Mem w0 G L w) {i:Nat} (h:i < 100):Calls Tryz.prog 170 #[.int .i64 (i:Int)] w (Bu w0 G L fun v=>v=.string (str (Lib.decDigits i))):=by
 refine (Any.internal_strconv_small Tryz.lays283 i h w).mono ?_;rintro e w' ⟨rfl,rfl⟩
 exact ⟨M,rfl⟩
theorem Akp (M:Mem w0 G L w) (HG:Globs 0 1 2 3 G) {u:Nat} (h1:1≤u) (h2:u < 18446744073709551616):Calls Tryz.prog 171 #[.int .u64 (u:Int)] w (Bu w0 G L fun v=>v=.int .i64 ((Lib.nDigits u:Nat):Int)):=by
 refine (Any.internal_strconv_numDigits Tryz.laysM284 u h1 h2 w (HG.tabIs M (by kernel_rfl))).mono ?_;rintro e w' ⟨rfl,rfl⟩
 exact ⟨M,rfl⟩
theorem Alm {w0 w:World} {G:Aq} {L:List Res} {b u c:Nat} {l:List UInt8} (M:Mem w0 G (.blk b (bc l) 244::L) w) (hl:l.length=24) (hnd:Lib.nDigits u≤24) (h2:u < 18446744073709551616) :
  Calls Tryz.prog 172 #[.slice (some ⟨b,0,none⟩) (Lib.nDigits u) c,.int .u64 (u:Int)] w (Ke w0 G fun L' v=>v=.tuple #[]∧∃ r,L' = (.blk b (bc (Lib.decDigits u++r)) 244::L)):=by
 have hH:=M.holdsB (k:=0) rfl (Lib.nDigits u) (by omega);have hs:(l.take (Lib.nDigits u)).toArray.size=Lib.nDigits u:=by simp;omega
 have:=Any.internal_strconv_formatBase10 Tryz.lays285 b 0 c u (l.take (Lib.nDigits u)).toArray w hH (by rw [hs];exact Lib.lt_pow_nDigits u) h2 (by rw [hs];omega);rw [hs] at this;refine this.mono ?_;rintro e w' ⟨rfl,n,v',dk,rfl,hF⟩;have hd:=Afn hF;have M':=M.putRowB (k:=0) rfl dk (by rw [hF.size];omega) n;rw [hd] at M'
 exact ⟨_,M',rfl,_,rfl⟩
theorem Aqm (M:Mem w0 G L w) (HG:Globs 0 1 2 3 G) {u:Nat} (hu:u < 18446744073709551616) :
  Calls Tryz.prog 144 #[.int .u64 (u:Int),.int .i64 10] w (Bu w0 G L fun v=>v=.string (str (Lib.decDigits u))):=by
 refine Al (vs:=[_,_]) Tryz.func144 rfl (n:=32) rfl rfl<|?_
 refine wk ?_;refine qD rfl ?_ ?_
 ·intro h1;refine wk ?_;refine Am (fun a F=>Bh Cq.k ⟨_,by rw [Bo H4.k]⟩ (F.ev rfl) (Br (by omega) (by omega))) rfl<|A4 ent170 rfl rfl (Aee (i:=u) M (by omega))<|?_;clear M;rintro _ w M rfl
  refine wk ?_;refine Ad rfl rfl<|?_
  exact ⟨M.weaken (sR _),rfl⟩
 intro h2;refine wk ?_;refine B1 M Xz rfl rfl<|?_;clear M;intro b3 w M
 refine wk ?_;replace M:=z_M M;change Mem w0 G (.blk b3 (bc (List.replicate 24 0)) 244::L) w at M;refine wk ?_;refine A4 ent171 rfl rfl (Akp (u:=u) M HG (by omega) (by omega))<|?_;clear M;rintro _ w M rfl
 refine wk ?_;have hnd:Lib.nDigits u≤20:=by have h1:=Lib.numDigits_eq u (by omega) hu;split at h1 <;> omega
 refine wk ?_;refine Am (fun a F=>Oq (h:=Lib.nDigits u) Xz.k Cl (F.ev rfl) (F.ev rfl) (by omega) (by omega)) rfl<|?_
 refine C0 rfl<|?_
 replace M:=z_M M;refine Py ent172 rfl rfl (Alm (u:=u) (l:=List.replicate 24 0) M (by simp) (by omega) (by omega))<|?_;clear M;rintro _ _ w M ⟨rfl,rr,rfl⟩
 refine wk ?_;refine Am (fun a F=>Oq (h:=Lib.nDigits u) Xz.k Cl (F.ev rfl) (F.ev rfl) (by omega) (by omega)) rfl<|Am (fun a F=>X9 M (k:=0) rfl La.k Cl.k Ej.k (F.ev rfl) (by rw [List.length_append,Lib.decDigits_length];omega)) rfl<|fun a F=>?_
 rw [show (Lib.decDigits u++rr).take (Lib.nDigits u)=Lib.decDigits u by rw [← Lib.decDigits_length,List.take_left]] at F;revert a;refine wk ?_;refine Ad rfl rfl<|?_
 exact ⟨M.weaken dS1,rfl⟩
theorem Aie (M:Mem w0 G L w) (HG:Globs 0 1 2 3 G) {u:Nat} (hu:u < 18446744073709551616) :
  Calls Tryz.prog 98 #[.int .u64 (u:Int),.int .i64 10] w (Bu w0 G L fun v=>v=.string (str (Lib.decDigits u))):=by
 refine Al (vs:=[_,_]) Tryz.func98 rfl (n:=8) rfl rfl<|?_
 refine wk ?_;refine A4 ent144 rfl rfl (Aqm (u:=u) M HG (by omega))<|?_;clear M;rintro _ w M rfl
 refine wk ?_;refine Ad rfl rfl<|?_
 exact ⟨M,rfl⟩
set_option maxHeartbeats 1600000
theorem itoa_nn {n:Int} (h:0≤n):Lib.itoa n=Lib.decDigits n.toNat:=by unfold Lib.itoa;rw [if_neg (by omega)]
theorem Xb:∀ k:Nat,k < 10→(([48,49,50,51,52,53,54,55,56,57]:List UInt8).take (k+1)).drop k=[UInt8.ofNat (48+k)]:=by decide
theorem Qq {k:Nat} (h:k < 10):Lib.decDigits k=[UInt8.ofNat (48+k)]:=by
 rw [Hd,if_pos (by omega),Nat.mod_eq_of_lt h];rfl
theorem pub8_le {s:List UInt8} {u:Nat} (h:Lib.parseUintB 8 s=.ok u):u≤255:=by
 have key:∀ (l:List UInt8) (acc:Nat),acc≤255→Lib.parseUintM (2 ^ 8 - 1) acc l=.ok u→u≤255:=by
  intro l
  induction l with
  | nil=>intro acc h1 h2;simp only [Lib.parseUintM,Lib.NumEnd.ok.injEq] at h2;omega
  | cons c r ih =>
   intro acc h1 h2;unfold Lib.parseUintM at h2
   split at h2
   ·split at h2
    ·cases h2
    ·split at h2
     ·cases h2
     ·exact ih _ (by omega) h2
   ·cases h2
 unfold Lib.parseUintB at h
 split at h
 ·cases h
 ·exact key s 0 (by omega) h
theorem Afk (M:Mem w0 G L w) (HG:Globs 0 1 2 3 G) {u:Nat} (hu:u < 9223372036854775808):Calls Tryz.prog 133 #[.int .i64 ((u:Nat):Int)] w (Bu w0 G L fun v=>v=.string (str (Lib.decDigits u))):=by
 refine Al (vs:=[_]) Tryz.func133 rfl (n:=5) rfl rfl<|?_
 refine wk ?_;refine A4 Arn rfl rfl (Acg (n:=((u:Nat):Int)) M HG (by first | assumption | exact ⟨by decide,by decide⟩ | exact wrap_ink _ _ | exact Br (by omega) (by omega)))<|?_;clear M;rintro _ w M rfl
 refine wk ?_;refine Ad rfl rfl<|?_
 exact ⟨M,by rw [itoa_nn (by omega),Int.toNat_natCast]⟩
theorem Wu (M:Mem w0 G L w) (HG:Globs 0 1 2 3 G) {u:Nat} (hu:u < 9223372036854775808):Calls Tryz.prog 83 #[.int .i64 ((u:Nat):Int)] w (Bu w0 G L fun v=>v=.string (str (Lib.decDigits u))):=by
 refine Al (vs:=[_]) Tryz.func83 rfl (n:=5) rfl rfl<|?_
 refine wk ?_;refine A4 Aru rfl rfl (Afk (u:=u) M HG (by omega))<|?_;clear M;rintro _ w M rfl
 refine wk ?_;refine Ad rfl rfl<|?_
 exact ⟨M,rfl⟩
theorem Aki (M:Mem w0 G L w) (HG:Globs 0 1 2 3 G) {s:List UInt8} (hs:s.length≤281474976710656) :
  Calls Tryz.prog 101 #[.string (str s),.int .i64 10,.int .i64 64] w (Bu w0 G L fun v=>∃ (u:Nat) (er:Value),v=.tuple #[.int .u64 (u:Int),er]∧(er=.nilIface∨∃ te pe,er=.iface te pe)∧Avd 18446744073709551616 s u (De er)):=by
 refine (Aey M HG hs).mono ?_;rintro e w' h
 cases e with
 | returned v =>
  obtain ⟨M',u,er,h1,h2,h3,h4⟩:=h;refine ⟨M',u,er,h1,h3,by omega,fun m hm he=>?_⟩;subst he;have h5:=Yr (B:=64) (by decide) (u:=m) hm
  rcases h4 with ⟨h6,h7⟩ | ⟨h6,_⟩
  ·rw [h5] at h6;simp only [Lib.NumEnd.ok.injEq] at h6;exact ⟨h7,h6.symm⟩
  ·exact absurd h5 (h6 m)
 | panicked c=>exact h.elim
 | outgrown=>exact h.elim
theorem Aox (M:Mem w0 G L w) (HG:Globs 0 1 2 3 G) {s:List UInt8} (hs:s.length≤281474976710656) :
  Calls Tryz.prog 101 #[.string (str s),.int .i64 10,.int .i64 8] w (Bu w0 G L fun v=>∃ (u:Nat) (er:Value),v=.tuple #[.int .u64 (u:Int),er]∧(er=.nilIface∨∃ te pe,er=.iface te pe)∧Avd 256 s u (De er)):=by
 have hd:(str s).data.toList=s:=D0 s;have no:∀ {b:Bool} {u:Nat},u < 256→(∀ m,m < 256→Lib.parseUintB 8 s≠.ok m)→Avd 256 s u b:=fun hu h=>⟨hu,fun m hm he=>absurd (by rw [he];exact Yr (B:=8) (by decide) hm) (h m hm)⟩
 cases h:Lib.parseUintB 8 s with
 | ok u =>
  refine (Any.strconv_ParseUint_10_at8_ok Tryz.laysPu14 (str s) (by rw [B5];omega) u (by rw [hd];exact h) w).mono ?_;rintro e w' ⟨rfl,hw⟩;refine ⟨?_,u,_,rfl,Or.inl rfl,by have:=pub8_le h;omega,fun m hm he=>?_⟩
  ·rcases hw with rfl | rfl
   ·exact M
   ·exact M.bytesWorld _ _
  ·subst he;rw [Yr (B:=8) (by decide) hm] at h;simp only [Lib.NumEnd.ok.injEq] at h
   exact ⟨rfl,h.symm⟩
 | range =>
  obtain ⟨ev,h1,h2⟩:=HG.rng;refine (Any.strconv_ParseUint_10_at8_range Tryz.laysPu14 (str s) (by rw [B5];omega) (by rw [hd];exact h) ev w (M.cell h1) h2).mono ?_;rintro e w' ⟨N,rfl,_,_,hb⟩
  exact ⟨M.below' hb,255,_,rfl,Or.inr ⟨_,_,rfl⟩,no (by omega) (fun m _ hx=>by rw [h] at hx;cases hx)⟩
 | _ =>
  obtain ⟨ev,h1,h2⟩:=HG.syn;refine (Any.strconv_ParseUint_10_at8_syntax Tryz.laysPu14 (str s) (by rw [B5];omega) (by rw [hd];exact h) ev w (M.cell h1) h2).mono ?_;rintro e w' ⟨N,rfl,_,_,hb⟩
  exact ⟨M.below' hb,0,_,rfl,Or.inr ⟨_,_,rfl⟩,no (by omega) (fun m _ hx=>by rw [h] at hx;cases hx)⟩
theorem Alf (M:Mem w0 G L w) {ad:Option Addr} {cd:Nat} {xs:List (List UInt8)} (S:Ag Cf 1 G (.slice ad xs.length cd) xs) (hN:xs.length≤140737488355328) (hlen:(Lib.join xs [44]).length≤140737488355328) :
  Calls Tryz.prog 97 #[.slice ad xs.length cd,.string (str [44])] w (Bu w0 G L fun v=>v=.string (str (Lib.join xs [44]))):=by
 by_cases h0:xs=[]
 ·subst h0;refine (Any.strings_Join_none Tryz.lays156 Tryz.Builder_Extra_156 ad cd (str [44]) w).mono ?_;rintro e w' ⟨rfl,rfl⟩
  exact ⟨M,rfl⟩
 ·obtain ⟨x0,hx0⟩:=Ap (xs:=xs) (i:=0) (List.length_pos_iff.2 h0);obtain ⟨b,o,_,rfl,_,_,_,_⟩:=S.index hx0;obtain ⟨_,_,he,hcap,_⟩:=S.shape;simp only [Value.slice.injEq] at he;obtain ⟨_,_,rfl⟩:=he;have hcell:∀ (j:Nat) (x:List UInt8),xs[j]?=some x→w.cell? ⟨b,o+j,none⟩=some (.string (str x)):=by
   intro j x hx;obtain ⟨b',o',cs,h1,_,_,hA,hr,_⟩:=S.index hx;simp only [Option.some.injEq,Addr.mk.injEq,and_true] at h1;obtain ⟨rfl,rfl⟩:=h1;subst hr;have:=hA 0 _ rfl;rw [Nat.mul_one,Nat.add_zero] at this
   exact M.cell this
  have hm:(xs.map str).map (·.data.toList)=xs:=by
   rw [List.map_map]
   conv=>rhs;rw [← List.map_id xs]
   exact List.map_congr_left fun x _=>D0 x
  have:=Any.strings_Join Tryz.lays156 Tryz.Builder_Extra_156 b o cd (xs.map str) (str [44]) w (by
   intro j x hx;rw [List.getElem?_map] at hx
   cases hq:xs[j]? with
   | none=>rw [hq] at hx;cases hx
   | some y=>rw [hq] at hx;simp only [Option.map_some,Option.some.injEq] at hx;subst hx;exact hcell j y hq)
   (World.block_lt_of_cell? _ _ (hcell 0 x0 hx0)) (by rw [List.length_map];exact hN) (by rw [List.length_map];exact hcap) (by rw [hm,D0];exact hlen)
  rw [List.length_map,hm,D0] at this;refine this.mono ?_;rintro e w' ⟨rfl,hb⟩
  exact ⟨M.below' hb,rfl⟩
theorem Ia {G:Aq}:∀ (xs:List (List UInt8)),(∀ x∈xs,x.length≤9223372036854775807)→Els Cf 1 G (xs.map fun x=>Value.string (str x)) xs
 | [],_=>rfl
 | x::xs,h=>⟨[.string (str x)],_,rfl,rfl,⟨rfl,h x (by simp)⟩,Ia xs (fun y hy=>h y (by simp [hy]))⟩
theorem Aaa (s:List UInt8):(Lib.splitB (str [44]) 0 (Lib.countB (str s) (str [44])) (str s)).map Value.string=(Bw s).map (fun x=>Value.string (str x)):=by
 have h:=Lib.splitB_data (str [44]) 0 (Lib.countB (str s) (str [44])) (str s);rw [D0,D0] at h;have h2:Lib.countB (str s) (str [44])=Lib.count s [44]:=by
  show Lib.count (str s).data.toList (str [44]).data.toList=_
  rw [D0,D0]
 rw [h2] at h ⊢
 show _=(Lib.splitK [44] 0 (Lib.count s [44]) s).map _
 rw [← h,List.map_map]
 exact List.map_congr_left fun x _=>rfl
theorem Aeb (M:Mem w0 G L w) (HG:Globs 0 1 2 3 G) {s:List UInt8} (hs:s.length < 4294967281) :
  Calls Tryz.prog 102 #[.string (str s),.string (str [44])] w (Ret w0 G L fun G' v=>∃ a:Option Addr,v=.slice a (Bw s).length (Bw s).length∧Ag Cf 1 G' (.slice a (Bw s).length (Bw s).length) (Bw s)):=by
 obtain ⟨m,hm⟩:=HG.max;refine (Any.strings_Split Tryz.lays146 (by kernel_rfl) (str s) (str [44]) m w (by rw [B5];exact hs) (M.cell hm) (by rw [B5];decide)).mono ?_;rintro e w' ⟨rfl,rfl⟩;have hl:(Bw s).length=Lib.countB (str s) (str [44])+1:=by
  have h1:=Lib.splitB_all (str [44]) (by rw [B5];decide) 0 _ (str s) rfl;rw [← h1,← List.length_map (f:=Value.string),Aaa,List.length_map]
 rw [Aaa,← hl];have hcb:=Lib.countB_le (str [44]) (by rw [B5];decide) (str s).size (str s) (Nat.le_refl _);rw [B5] at hcb;have hle:(Bw s).length≤4294967281:=by omega
 have M1:=M.newrow (t:=Tryz.lays146_ren.t 9) (sz:=1) (n:=(Bw s).length) (c:=(Bw s).length) (cs:=(Bw s).map fun x=>Value.string (str x)) (spare:=[])
  (by intro u hu;obtain ⟨x,_,rfl⟩:=List.mem_map.1 hu;rfl) (by simp) (by simp) (Nat.le_refl _) (by unfold maxLen;omega)
 rw [List.append_nil] at M1;obtain ⟨_,G',a,c,hG,he,S,M2⟩:=M1.freeze_row Ay (k:=0) rfl (Ia (Bw s) (fun x hx=>by have:=Aed hx;omega)) (by decide)
 exact ⟨G',hG,M2,_,rfl,S⟩
set_option maxHeartbeats 1600000
theorem Qc (M:Mem w0 G L w) (HG:Globs 0 1 2 3 G) {x:ItemD} {ma:Option Addr} {mc:Nat} (hI:(x.key < 18446744073709551616∧x.typ < 256∧x.text.length≤9223372036854775807)) (SM:Ag Cf 1 G (.slice ma x.marks.length mc) x.marks) (hok:ItemOk 8 x):Calls Tryz.prog 42 #[.agg #[.int .u64 ((x.key:Nat):Int),.int .u8 ((x.typ:Nat):Int),.string (str x.text),.slice ma x.marks.length mc]] w (Bu w0 G L fun v=>v=.string (str (Dg x))):=by
 obtain ⟨hI1,hI2,hI3⟩:=id hI;have hm8:=hok.2.2.2.1;have hj:=T8 hm8 hok.2.2.2.2;have htx:=hok.2.2.1.1;have hdk:=Dd x.key hI1;have hdt:=Dd x.typ (by omega);refine Al (vs:=[_]) Tryz.func42 rfl (n:=25) rfl rfl<|?_
 refine Bt<|?_
 refine B2 M rfl rfl rfl<|?_;clear M;intro b1 w M
 refine wk ?_;refine A4 ent97 rfl rfl (Alf (xs:=x.marks) M SM (by omega) (by omega))<|?_;clear M;rintro _ w M rfl
 refine wk ?_;refine qD rfl ?_ ?_
 ·intro h2;refine wk ?_;refine fun a F=>D5 [(.free,0),(.pure,1),(.free,4),(.pure,5),(.free,6),(.free,10),(.free,13),(.pure,14),(.keep,2),(.free,3),(.keep,7),(.free,8),(.free,9),(.free,11),(.free,12),(.free,15),(.free,16)] [] (Keep G [.blk b1 [.int .u64 ((x.key:Nat):Int),.int .u8 ((x.typ:Nat):Int),.string (str x.text),.slice ma x.marks.length mc] 26]) rfl (by kernel_rfl) (fun c a d v w h=>by cases d <;> exact h) (Ax (M.drew _)) ?_;replace M:=M.drew (w.drawn+1);revert a;refine wk ?_;refine k_f (fun a F w _=>Bh Cq.k ⟨_,by rw [Bo Cl.k]⟩ (F.ev rfl) (Br (by omega) (by omega))) rfl<|?_
  refine wk ?_;refine k_k rfl<|A4 ent98 rfl rfl (Aie (u:=x.key) M HG (by omega))<|?_;clear M;rintro _ w M rfl
  refine Ao<|?_
  refine eQ (Ax M)<|k_f (fun a F w _=>C1 (F.ev rfl) (F.ev rfl) (by (first | omega | (simp only [List.length_append,List.length_cons,List.length_nil];omega)))) rfl<|k_k rfl<|A4 Ail rfl rfl (Wu (u:=x.typ) M HG (by omega))<|?_;clear M;rintro _ w M rfl
  refine Ao<|?_
  refine eQ (Ax M)<|k_f (fun a F w _=>C1 (F.ev rfl) (F.ev rfl) (by (first | omega | (simp only [List.length_append,List.length_cons,List.length_nil];omega)))) rfl<|k_f (fun a F w _=>C1 (F.ev rfl) (F.ev rfl) (by (first | omega | (simp only [List.length_append,List.length_cons,List.length_nil];omega)))) rfl<|k_f (fun a F w _=>C1 (F.ev rfl) (F.ev rfl) (by (first | omega | (simp only [List.length_append,List.length_cons,List.length_nil];omega)))) rfl<|k_f (fun a F w _=>C1 (F.ev rfl) (F.ev rfl) (by (first | omega | (simp only [List.length_append,List.length_cons,List.length_nil];omega)))) rfl<|k_f (fun a F w _=>C1 (F.ev rfl) (F.ev rfl) (by (first | omega | (simp only [List.length_append,List.length_cons,List.length_nil];omega)))) rfl<|?_
  refine wk ?_;refine Ad rfl rfl<|?_
  exact ⟨M.weaken dS1,by first | rw [Wp (by assumption)] | rw [Wq (by assumption) hok]⟩
 intro h3;refine wk ?_;refine fun a F=>D5 [(.free,0),(.pure,1),(.free,4),(.pure,5),(.free,6),(.free,10),(.free,13),(.pure,14),(.keep,2),(.free,3),(.keep,7),(.free,8),(.free,9),(.free,11),(.free,12),(.free,15),(.free,16)] [] (Keep G [.blk b1 [.int .u64 ((x.key:Nat):Int),.int .u8 ((x.typ:Nat):Int),.string (str x.text),.slice ma x.marks.length mc] 26]) rfl (by kernel_rfl) (fun c a d v w h=>by cases d <;> exact h) (Ax (M.drew _)) ?_;replace M:=M.drew (w.drawn+1);revert a;refine wk ?_;refine k_f (fun a F w _=>Bh Cq.k ⟨_,by rw [Bo Cl.k]⟩ (F.ev rfl) (Br (by omega) (by omega))) rfl<|?_
 refine wk ?_;refine k_k rfl<|A4 ent98 rfl rfl (Aie (u:=x.key) M HG (by omega))<|?_;clear M;rintro _ w M rfl
 refine Ao<|?_
 refine eQ (Ax M)<|k_f (fun a F w _=>C1 (F.ev rfl) (F.ev rfl) (by (first | omega | (simp only [List.length_append,List.length_cons,List.length_nil];omega)))) rfl<|k_k rfl<|A4 Ail rfl rfl (Wu (u:=x.typ) M HG (by omega))<|?_;clear M;rintro _ w M rfl
 refine Ao<|?_
 refine eQ (Ax M)<|k_f (fun a F w _=>C1 (F.ev rfl) (F.ev rfl) (by (first | omega | (simp only [List.length_append,List.length_cons,List.length_nil];omega)))) rfl<|k_f (fun a F w _=>C1 (F.ev rfl) (F.ev rfl) (by (first | omega | (simp only [List.length_append,List.length_cons,List.length_nil];omega)))) rfl<|k_f (fun a F w _=>C1 (F.ev rfl) (F.ev rfl) (by (first | omega | (simp only [List.length_append,List.length_cons,List.length_nil];omega)))) rfl<|k_f (fun a F w _=>C1 (F.ev rfl) (F.ev rfl) (by (first | omega | (simp only [List.length_append,List.length_cons,List.length_nil];omega)))) rfl<|k_f (fun a F w _=>C1 (F.ev rfl) (F.ev rfl) (by (first | omega | (simp only [List.length_append,List.length_cons,List.length_nil];omega)))) rfl<|?_
 refine wk ?_;refine Ad rfl rfl<|?_
 exact ⟨M.weaken dS1,by first | rw [Wp (by assumption)] | rw [Wq (by assumption) hok]⟩
theorem Ajf (M:Mem w0 G L w) (HG:Globs 0 1 2 3 G) {a1:Option Addr} {c1:Nat} {xs:List ItemD} (S:Ag Bn 4 G (.slice a1 xs.length c1) xs) :
  Calls Tryz.prog 11 #[.slice a1 xs.length c1] w (Bu w0 G L fun v=>v=.tuple #[.string (str (Lb xs)),.int .i64 (Jq xs)]):=by
 have bS:=S.bound;refine Al (vs:=[_]) Tryz.func11 rfl (n:=28) rfl rfl<|?_
 refine wk ?_;refine qD rfl ?_ ?_
 ·intro h1;refine wk ?_;refine C8 rfl rfl rfl<|?_
  exact ⟨M,by rw [(Sl (by omega)).1,(Sl (by omega)).2];rfl⟩
 intro h2;refine wk ?_;refine B1 M Pw rfl rfl<|?_;clear M;intro b3 w M
 refine wk ?_;replace M:=z_M M;have M:=(M.nilrow 5 1).perm (List.Perm.swap _ _ _);intro a F;rw [show ([]:List Value)=bc [] from rfl] at M;revert a;refine wk ?_;refine fun a F=>Ba (fun m a' w'=>∃ (i:Nat),∃ (am:Option Addr),∃ (nm:Nat),∃ (cm:Nat),∃ (pm:Value),m=xs.length - i∧Fits 28 a' [(0,.slice a1 xs.length c1),(4,.pointer (some ⟨b3,0,none⟩)),(11,.slice a1 xs.length c1),(12,.int .i64 ((xs.length:Nat):Int)),(13,.int .i64 ((i:Nat):Int))]∧Mem w0 G (.blk b3 [pm,.slice am nm cm] 101::.row (.slice am nm cm) (nm) (bc (Cc (xs.take i))) 5 1::L) w'∧(i≤xs.length)∧((Cc (xs.take i)).length≤301 * i)∧(∀ (m:Nat) (x:ItemD),m < i→xs[m]?=some x→ItemOk 8 x)∧(pm=.pointer none∨pm=.pointer (some ⟨b3,0,none⟩))∧(nm=(Cc (xs.take i)).length)∧((Cc (xs.take i))=[]→am=none)) _ ⟨0,(none),(0),(0),(.pointer none),rfl,F.to ⟨rfl,rfl,rfl,rfl,rfl,trivial⟩,M,Nat.zero_le _,by simp [Cc],fun m x h=>by omega,(Or.inl rfl),rfl,(fun _=>rfl)⟩ ?_;clear F M;rintro m a w ⟨i,am,nm,cm,pm,rfl,F,M,hi,hlen,hA,hpm,hnm,hnilm⟩;revert a;refine wk ?_;refine qD rfl ?_ ?_
 ·intro h5;refine wk ?_;obtain ⟨Xe6,hXe6⟩:=Ap (xs:=xs) (i:=i) (by omega);obtain ⟨be6,oe6,_,Ie6,_,Ae6,hTe6⟩:=S.at hXe6;obtain ⟨mae6,mce6,rfl,hke6,hte6,hxe6,hne6,SMe6⟩:=hTe6;have hIe6:(Xe6.key < 18446744073709551616∧Xe6.typ < 256∧Xe6.text.length≤9223372036854775807):=⟨hke6,hte6,hxe6⟩;refine wk ?_;refine B1 M Bi rfl rfl<|?_;clear M;intro b7 w M
  intro a F;refine Be F M Bi 0 ?_;clear F M a;intro w a M F;replace M:=z_M M;revert a;refine wk ?_;refine A4 Aco rfl rfl (Ji (x:=Xe6) (t:=8) M hIe6 SMe6)<|?_;clear M;rintro _ w M rfl
  refine wk ?_;refine Ae rfl ?_ ?_
  ·intro h9b;have h9:=dF (Ab h9b);refine wk ?_;refine C8 rfl rfl rfl<|?_
   exact ⟨(M.weaken (cN (.cons _ (cN (sR _))))),by rw [(Sm (by omega) (J8.no hXe6 (fun h_=>by have:=Cv h_;omega))).1,(Sm (by omega) (J8.no hXe6 (fun h_=>by have:=Cv h_;omega))).2,Dt (fun h_=>by have:=Cv h_;omega)];rfl⟩
  intro h10b;have h10:=dT (Ac h10b);refine F3<|F1<|?_
  have hokX:ItemOk 8 Xe6:=Cz.1 (by omega);refine wk ?_;refine A4 Arb rfl rfl (Qc (x:=Xe6) M HG hIe6 SMe6 hokX)<|?_;clear M;rintro _ w M rfl
  have hlll11:=O7 (x:=Xe6) hokX hIe6.1 hIe6.2.1;refine Am (fun a F=>C1 (F.ev rfl) (F.ev rfl) (by (first | omega | (simp only [List.length_append,List.length_cons,List.length_nil];omega)))) rfl<|?_
  replace M:=M.perm (Af _ 2 _ rfl);replace M:=M.perm (Af _ 2 _ rfl);replace M:=z_M M;refine Py Aip rfl rfl (Mi (s:=((Dg Xe6)++([10]:List UInt8))) hpm M hnm hnilm (by (first | omega | (simp only [List.length_append,List.length_cons,List.length_nil];omega))))<|?_;clear M;rintro _ _ w M ⟨rfl,au12,nu12,cu12,rfl,hnu12,hnilu12⟩
  refine wk ?_;have hsn:(Cc (xs.take i))++((Dg Xe6)++([10]:List UInt8))=Cc (xs.take (i+1)):=by rw [Adw hXe6]
  intro a F;rw [hsn] at M hnu12 hnilu12
  exact ⟨_,by omega,i+1,(au12),(nu12),(cu12),(.pointer (some ⟨b3,0,none⟩)),rfl,F.to ⟨rfl,rfl,rfl,rfl,rfl,trivial⟩,(M.weaken (cC (.cons_cons _ (cN (sR _))))),by omega,by rw [← hsn];simp only [List.length_append,List.length_cons,List.length_nil];omega,E1 hA hXe6 hokX,(Or.inr rfl),hnu12,hnilu12⟩
 intro h13;refine wk ?_;replace M:=M.perm (Af _ 1 _ rfl);replace M:=M.perm (Af _ 1 _ rfl);replace M:=z_M M;refine A4 ent43 rfl rfl (Xh M hnm hnilm)<|?_;clear M;rintro _ w M rfl
 refine wk ?_;refine C8 rfl rfl rfl<|?_
 exact ⟨M,by rw [(X2 (by omega) (D8 hA (by omega))).1,(X2 (by omega) (D8 hA (by omega))).2,List.take_of_length_le (by omega)]⟩
end Go.Proofs.YtmmhmcplegpenaaGreatDoor
