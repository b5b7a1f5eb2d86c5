/- Items: numbers, lines, what a line stands for. · The walks, part A. · The walks, part B. · The walks, part C. · The walks, part S. · The walks, part N. · The walks, part P. · The walks, part T. -/
import Derived.Test.YtmmhmcplegpenaaGreatDoorJ5
import Derived.Test.YtmmhmcplegpenaaGreatDoorYB
import Derived.Lib.IndexMore
import Derived.Lib.SplitLaws
import Derived.Lib.ParseIntB
import Derived.Lib.Join
import Derived.Test.YtmmhmcplegpenaaGreatDoorJ1
set_option linter.unusedSimpArgs false
set_option linter.unusedVariables false
set_option maxRecDepth 10000
namespace Go.Proofs.YtmmhmcplegpenaaGreatDoor
open Go Go.Y
theorem G3 (u:Nat):Lib.decDigits u=(if u / 10=0 then [] else Lib.decDigits (u / 10))++[UInt8.ofNat (48+u % 10)]:=by
 rw [Lib.decDigits]
 split
 ·rename_i h
  rw [if_pos (by omega),Nat.mod_eq_of_lt h]
  rfl
 rename_i h
 rw [if_neg (by omega)]
def Rq (c:UInt8):Prop:=48≤c.toNat∧c.toNat≤57
def Py:List UInt8→Nat→Nat
 | [],acc=>acc
 | c::r,acc=>Py r (10 * acc+(c.toNat - 48))
theorem Xp:∀ (l:List UInt8) (acc:Nat),acc≤Py l acc
 | [],acc=>Nat.le_refl _
 | c::r,acc=>by have:=Xp r (10 * acc+(c.toNat - 48));simp only [Py];omega
theorem Vq (c:UInt8):∀ (l:List UInt8) (acc:Nat),Py (l++[c]) acc=10 * Py l acc+(c.toNat - 48)
 | [],acc=>rfl
 | b::r,acc=>Vq c r _
instance (c:UInt8):Decidable (Rq c):=by unfold Rq;infer_instance
theorem Sh:∀ (u:Nat),∀ c∈Lib.decDigits u,Rq c:=by
 intro u
 induction u using Nat.strongRecOn with
 | _ u ih =>
  intro c hc;rw [G3] at hc
  rcases List.mem_append.1 hc with hc | hc
  ·split at hc
   ·simp at hc
   ·exact ih (u / 10) (by omega) c hc
  ·simp only [List.mem_singleton] at hc;subst hc;have h1:(UInt8.ofNat (48+u % 10)).toNat=48+u % 10:=UInt8.toNat_ofNat_of_lt' (by show 48+u % 10 < 256;omega);unfold Rq
   omega
theorem Jm:∀ (u:Nat),Py (Lib.decDigits u) 0=u:=by
 intro u
 induction u using Nat.strongRecOn with
 | _ u ih =>
  have h1:(UInt8.ofNat (48+u % 10)).toNat=48+u % 10:=UInt8.toNat_ofNat_of_lt' (by show 48+u % 10 < 256;omega);rw [G3,Vq,h1]
  split
  ·rename_i h;simp only [Py];omega
  ·rename_i h;rw [ih (u / 10) (by omega)];omega
def ix (c:UInt8):List UInt8→Nat
 | []=>0
 | b::l=>if b=c then 0 else ix c l+1
theorem ix_le (c:UInt8):∀ (l:List UInt8),ix c l≤l.length
 | []=>Nat.le_refl _
 | b::l=>by have:=ix_le c l;unfold ix;split <;> simp only [List.length_cons] <;> omega
theorem Aqd (c:UInt8):∀ (l:List UInt8) (m:Nat) (b:UInt8),m < ix c l→l[m]?=some b→b≠c
 | [],m,b,h,_=>by simp [ix] at h
 | a::l,m,b,h,hb=>by
  unfold ix at h
  split at h
  ·omega
  ·rename_i ha
   cases m with
   | zero=>simp at hb;subst hb;exact ha
   | succ m=>exact Aqd c l m b (by omega) (by simpa using hb)
theorem Aqe (c:UInt8):∀ (l:List UInt8),ix c l < l.length→l[ix c l]?=some c
 | [],h=>by simp at h
 | a::l,h=>by
  unfold ix at h ⊢
  split
  ·rename_i ha;subst ha;rfl
  ·rename_i ha
   rw [if_neg ha] at h;simp only [List.length_cons] at h;rw [List.getElem?_cons_succ]
   exact Aqe c l (by omega)
theorem Ws {c:UInt8}:∀ {l:List UInt8} {k:Nat},(∀ (m:Nat) (b:UInt8),m < k→l[m]?=some b→b≠c)→(l[k]?=some c∨k=l.length)→ix c l=k
 | [],k,_,h=>by
  rcases h with h | h
  ·simp at h
  ·simp [ix,h]
 | a::l,k,h,hk=>by
  unfold ix
  cases k with
  | zero =>
   rcases hk with hk | hk
   ·simp at hk;rw [if_pos hk]
   ·simp at hk
  | succ k =>
   have h0:=h 0 a (by omega) (by simp);rw [if_neg h0,Ws (l:=l) (k:=k) (fun m b h1 h2=>h (m+1) b (by omega) (by simpa using h2)) (by
    rcases hk with hk | hk
    ·left;simpa using hk
    ·right;simpa using hk)]
theorem Kh (c:UInt8):∀ (l:List UInt8),Lib.index l [c]=if ix c l < l.length then ((ix c l:Nat):Int) else -1
 | []=>by simp [Lib.index,ix]
 | b::l=>by
  have ih:=Kh c l;unfold Lib.index ix
  by_cases h:b=c
  ·subst h
   simp
  ·have hp:([c].isPrefixOf (b::l))=false:=by simp [List.isPrefixOf,Ne.symm h]
   rw [if_neg (by rw [hp];simp),if_neg h]
   by_cases hl:ix c l < l.length
   ·rw [if_pos hl] at ih;have h1:¬ (Lib.index l [c]==-1)=true:=by rw [ih,beq_iff_eq];omega
    have h2:ix c l+1 < (b::l).length:=by rw [List.length_cons];omega
    rw [if_neg h1,if_pos h2,ih]
    omega
   ·rw [if_neg hl] at ih;have h1:(Lib.index l [c]==-1)=true:=by rw [ih];rfl
    have h2:¬ ix c l+1 < (b::l).length:=by rw [List.length_cons];omega
    rw [if_pos h1,if_neg h2]
theorem Oc (c:UInt8) (l:List UInt8):Lib.cut l [c]=if ix c l < l.length then (l.take (ix c l),l.drop (ix c l+1),true) else (l,[],false):=by
 unfold Lib.cut;rw [Kh]
 by_cases h:ix c l < l.length
 ·simp only [if_pos h];rw [if_pos (by omega)]
  simp
 simp only [if_neg h];rw [if_neg (by omega)]
theorem H5 (c:UInt8) (s:List UInt8):(Lib.cut s [c]).1.length≤s.length∧(Lib.cut s [c]).2.1.length≤s.length:=by
 rw [Oc]
 split
 ·simp only [List.length_take,List.length_drop];omega
 simp
theorem C9 (u:Nat) (h:u < 18446744073709551616):(Lib.decDigits u).length≤20:=by
 rw [Lib.decDigits_length]
 rcases Nat.eq_zero_or_pos u with h0 | h0
 ·subst h0;rw [Lib.nDigits_small (by decide)];omega
 have h1:=Lib.numDigits_eq u h0 h
 split at h1 <;> omega
theorem Y4 {c:UInt8}:∀ {d e:List UInt8},c ∉ d→ix c (d++c::e)=d.length
 | [],e,_=>by simp [ix]
 | b::d,e,h=>by
  simp only [List.cons_append,List.length_cons];unfold ix;rw [if_neg (fun hb=>h (by rw [hb];simp)),Y4 (fun hd=>h (by simp [hd]))]
theorem Aga (u:Nat):Lib.decDigits u≠[]:=by
 rw [G3];simp
theorem Agz {most:Nat} (hm:most≤18446744073709551615):∀ (l:List UInt8) (acc:Nat),(∀ c∈l,Rq c)→Py l acc≤most→Lib.parseUintM most acc l=.ok (Py l acc)
 | [],acc,_,_=>rfl
 | c::r,acc,hd,hv=>by
  have hc:48≤c.toNat∧c.toNat≤57:=hd c (by simp);simp only [Py] at hv ⊢;have:=Xp r (10 * acc+(c.toNat - 48));unfold Lib.parseUintM;rw [if_pos hc,if_neg (by omega),if_neg (by omega),Nat.mul_comm acc 10]
  exact Agz hm r _ (fun x hx=>hd x (by simp [hx])) hv
theorem Yn {B u:Nat} (hB:B≤64) (hu:u < 2 ^ B):Lib.parseUintB B (Lib.decDigits u)=.ok u:=by
 unfold Lib.parseUintB;have h64:2 ^ B≤2 ^ 64:=Nat.pow_le_pow_right (by decide) hB;rw [if_neg (Aga u),Agz (by omega) _ _ (Sh u) (by rw [Jm];omega),Jm]
theorem M7 {c:UInt8} {u:Nat} (hc:¬ Rq c):c ∉ Lib.decDigits u:=fun h=>hc (Sh u c h)
theorem K4 {c:UInt8} {d e:List UInt8} (h:c ∉ d):Lib.cut (d++c::e) [c]=(d,e,true):=by
 rw [Oc,Y4 h,if_pos (by simp)]
 simp
theorem Auq {c:UInt8} {d:List UInt8} (h:c ∉ d):Lib.cut d [c]=(d,[],false):=by
 have:ix c d=d.length:=Ws (fun m b _ hb=>fun e=>h (e ▸ List.mem_of_getElem? hb)) (Or.inr rfl);rw [Oc,this,if_neg (by omega)]
def Fm (ms:List (List UInt8)):List UInt8:=if ms=[] then [45] else Lib.join ms [44]
def Df (x:ItemD):List UInt8:=Lib.decDigits x.key++[32]++Lib.decDigits x.typ++[32]++Fm x.marks++[32]++x.text
theorem I1 {s:List UInt8} (h:Cf s) {c:UInt8} (hc:¬ Cz c):c ∉ s:=fun hs=>hc (h.2 c hs)
theorem Pg (m:List UInt8) (y:List UInt8) (r:List (List UInt8)):Lib.join (m::y::r) [44]=m++44::Lib.join (y::r) [44]:=by
 rw [Lib.join_cons,Lib.join_cons]
 simp [Lib.joinTail]
theorem T8 {c:UInt8} (hc:¬ Cz c) (h44:c≠44):∀ (ms:List (List UInt8)),(∀ s∈ms,Cf s)→c ∉ Lib.join ms [44]
 | [],_=>by simp [Lib.join_nil]
 | [m],h=>by rw [Lib.join_one];exact I1 (h m (by simp)) hc
 | m::y::r,h=>by
  rw [Pg];intro hx
  rcases List.mem_append.1 hx with hx | hx
  ·exact I1 (h m (by simp)) hc hx
  ·rcases List.mem_cons.1 hx with hx | hx
   ·exact h44 hx
   ·exact T8 hc h44 (y::r) (fun s hs=>h s (by simp [hs])) hx
theorem join_ne {m:List UInt8} {r:List (List UInt8)} (h:Cf m):Lib.join (m::r) [44]≠[]:=by
 rw [Lib.join_cons];intro e;have h1:=(List.append_eq_nil_iff.1 e).1;subst h1
 exact absurd h.1.1 (by simp)
theorem Ql {m:List UInt8} {r:List (List UInt8)} (h:Cf m):Lib.join (m::r) [44]≠[45]:=by
 rw [Lib.join_cons];intro e
 cases m with
 | nil=>exact absurd h.1.1 (by simp)
 | cons b m =>
  simp only [List.cons_append,List.cons.injEq] at e;have h1:=h.2 b (by simp);rw [e.1] at h1
  exact absurd h1 (by decide)
theorem Wm {ms:List (List UInt8)} (h:∀ s∈ms,Cf s):(32:UInt8) ∉ Fm ms∧(10:UInt8) ∉ Fm ms:=by
 unfold Fm
 split
 ·exact ⟨by decide,by decide⟩
 exact ⟨T8 (by decide) (by decide) ms h,T8 (by decide) (by decide) ms h⟩
theorem Aje {s:List UInt8} (h:Str s):(10:UInt8) ∉ s:=fun hs=>absurd (h.2 10 hs) (by decide)
theorem T3 {x:ItemD} (h:ItemOk 8 x):(10:UInt8) ∉ Df x:=by
 obtain ⟨_,_,h3,_,h5⟩:=h;unfold Df;simp only [List.mem_append,List.mem_singleton,not_or]
 exact ⟨⟨⟨⟨⟨⟨M7 (by decide),by decide⟩,M7 (by decide)⟩,by decide⟩,(Wm h5).2⟩,by decide⟩,Aje h3⟩
theorem line_r (x:ItemD):Df x=Lib.decDigits x.key++32::(Lib.decDigits x.typ++32::(Fm x.marks++32::x.text)):=by
 simp [Df]
theorem Qj (x:ItemD) (e:List UInt8):Lib.cut (Df x++e) [32]=(Lib.decDigits x.key,Lib.decDigits x.typ++32::(Fm x.marks++32::(x.text++e)),true):=by
 rw [line_r,show Lib.decDigits x.key++32::(Lib.decDigits x.typ++32::(Fm x.marks++32::x.text))++e=Lib.decDigits x.key++32::(Lib.decDigits x.typ++32::(Fm x.marks++32::(x.text++e))) by simp]
 exact K4 (M7 (by decide))
theorem Mw (t:Nat) (r:List UInt8):Lib.cut (Lib.decDigits t++32::r) [32]=(Lib.decDigits t,r,true):=K4 (M7 (by decide))
theorem Qi {ms:List (List UInt8)} (h:∀ s∈ms,Cf s) (r:List UInt8):Lib.cut (Fm ms++32::r) [32]=(Fm ms,r,true):=K4 (Wm h).1
theorem Ahr {b:Nat}:∀ (ms:List (List UInt8)),(∀ s∈ms,s.length≤b)→Lib.lens ms≤b * ms.length
 | [],_=>by simp [Lib.lens]
 | m::r,h=>by
  have h1:=Ahr r (fun s hs=>h s (by simp [hs]));have h2:=h m (by simp);simp only [Lib.lens,List.map_cons,List.sum_cons,List.length_cons,Nat.mul_succ] at h1 ⊢
  omega
theorem Aqc {ms:List (List UInt8)} {b:Nat} (h:∀ s∈ms,s.length≤b):(Lib.join ms [44]).length≤(b+1) * ms.length:=by
 cases ms with
 | nil=>simp [Lib.join_nil]
 | cons m r =>
  rw [Lib.join_length];have h1:=Ahr (m::r) h;simp only [List.length_cons,List.length_nil,Nat.add_mul] at h1 ⊢
  omega
theorem T9 {ms:List (List UInt8)} (h8:ms.length≤8) (h:∀ s∈ms,Cf s):(Lib.join ms [44]).length≤136:=by
 have h1:=Aqc (b:=16) (fun s hs=>(h s hs).1.2);have h2:=Nat.mul_le_mul_left 17 h8
 omega
theorem Aks {ms:List (List UInt8)} (h8:ms.length≤8) (h:∀ s∈ms,Cf s):(Fm ms).length≤136:=by
 unfold Fm
 split
 ·decide
 exact T9 h8 h
theorem Pe {x:ItemD} {t:Int} (h:ItemOk t x) (hk:x.key < 18446744073709551616) (ht:x.typ < 256):(Df x).length≤300:=by
 obtain ⟨_,_,h3,h4,h5⟩:=h;have h6:=Aks h4 h5;have h7:=C9 x.key hk;have h8:=C9 x.typ (by omega);have h9:=h3.1;unfold Df;simp only [List.length_append,List.length_cons,List.length_nil]
 omega
def Br (s:List UInt8):List (List UInt8):=Lib.split s [44]
theorem Su:∀ (k:Nat) (s:List UInt8) (p:List UInt8),p∈Lib.splitK [44] 0 k s→p.length≤s.length
 | 0,s,p,h=>by simp only [Lib.splitK,List.mem_singleton] at h;subst h;exact Nat.le_refl _
 | k+1,s,p,h=>by
  unfold Lib.splitK at h
  split at h
  ·simp only [List.mem_singleton] at h;subst h;exact Nat.le_refl _
  ·rcases List.mem_cons.1 h with rfl | h
   ·simp only [List.length_take];omega
   ·have:=Su k _ p h;simp only [List.length_drop] at this;omega
theorem Adx {s p:List UInt8} (h:p∈Br s):p.length≤s.length:=Su _ _ _ h
theorem Adw {m r:List UInt8} (k:Nat) (h:(44:UInt8) ∉ m):Lib.splitK [44] 0 (k+1) (m++44::r)=m::Lib.splitK [44] 0 k r:=by
 have h1:Lib.index (m++44::r) [44]=((m.length:Nat):Int):=by rw [Kh,Y4 h,if_pos (by simp)]
 rw [Lib.splitK,h1,if_neg (by rw [beq_iff_eq];omega)]
 congr 1
 ·simp
 congr 1;simp
theorem Q8:∀ (m:List UInt8) (r:List (List UInt8)),(∀ s∈m::r,Cf s)→Lib.splitK [44] 0 r.length (Lib.join (m::r) [44])=m::r
 | m,[],_=>by simp [Lib.join_one,Lib.splitK]
 | m,y::r,h=>by
  rw [Pg,List.length_cons,Adw _ (I1 (h m (by simp)) (by decide)),Q8 y r (fun s hs=>h s (by simp [hs]))]
theorem Ut:∀ (m:List UInt8) (r:List (List UInt8)),(∀ s∈m::r,Cf s)→(Lib.join (m::r) [44]).count 44=r.length
 | m,[],h=>by
  rw [Lib.join_one];exact List.count_eq_zero.2 (I1 (h m (by simp)) (by decide))
 | m,y::r,h=>by
  rw [Pg,List.count_append,List.count_cons_self,Ut y r (fun s hs=>h s (by simp [hs])),List.count_eq_zero.2 (I1 (h m (by simp)) (by decide))]
  simp
theorem Lp {ms:List (List UInt8)} (h:∀ s∈ms,Cf s) (h0:ms≠[]):Br (Fm ms)=ms:=by
 cases ms with
 | nil=>exact absurd rfl h0
 | cons m r =>
  unfold Br Lib.split Fm;rw [if_neg h0,Lib.count_one,Ut m r h,Q8 m r h]
def Rd8 (s:List UInt8) (x:ItemD):Prop:=ItemOk 8 x∧x.key < 18446744073709551616∧Df x=s
theorem Wq {x y:ItemD} (hx:ItemOk 8 x) (hy:ItemOk 8 y) (hkx:x.key < 18446744073709551616) (hky:y.key < 18446744073709551616) (e:Df x=Df y):x=y:=by
 have a1:=Qj x [];have b1:=Qj y [];rw [List.append_nil,List.append_nil] at a1 b1;rw [e,b1] at a1;simp only [Prod.mk.injEq,and_true] at a1;obtain ⟨h1,h2⟩:=a1;have c1:=Mw x.typ (Fm x.marks++32::x.text);rw [← h2,Mw] at c1;simp only [Prod.mk.injEq,and_true] at c1;obtain ⟨h3,h4⟩:=c1;have d1:=Qi hx.2.2.2.2 x.text;rw [← h4,Qi hy.2.2.2.2] at d1;simp only [Prod.mk.injEq,and_true] at d1;obtain ⟨h5,h6⟩:=d1;refine Abo ?_ ?_ h6.symm ?_
 ·rw [← Jm x.key,← h1,Jm]
 ·rw [← Jm x.typ,← h3,Jm]
 by_cases hm:x.marks=[]
 ·by_cases hn:y.marks=[]
  ·rw [hm,hn]
  obtain ⟨m,r,hmr⟩:=List.exists_cons_of_ne_nil hn;rw [hm,hmr] at h5;simp only [Fm,if_true,if_neg (List.cons_ne_nil m r)] at h5
  exact absurd h5 (Ql (hy.2.2.2.2 m (by rw [hmr];simp)))
 by_cases hn:y.marks=[]
 ·obtain ⟨m,r,hmr⟩:=List.exists_cons_of_ne_nil hm;rw [hn,hmr] at h5;simp only [Fm,if_true,if_neg (List.cons_ne_nil m r)] at h5
  exact absurd h5.symm (Ql (hx.2.2.2.2 m (by rw [hmr];simp)))
 rw [← Lp hx.2.2.2.2 hm,← h5,Lp hy.2.2.2.2 hn]
theorem Rd8.uniq {s:List UInt8} {x y:ItemD} (hx:Rd8 s x) (hy:Rd8 s y):x=y:=Wq hx.1 hy.1 hx.2.1 hy.2.1 (hx.2.2.trans hy.2.2.symm)
def Ce (l:List ItemD):List UInt8:=(l.map fun x=>Df x++[10]).flatten
theorem Adp {l:List ItemD} {i:Nat} {x:ItemD} (h:l[i]?=some x):Ce (l.take (i+1))=Ce (l.take i)++(Df x++[10]):=by
 unfold Ce;rw [List.take_add_one,h]
 simp
def Kk (l:List ItemD):Prop:=∀ x∈l,ItemOk 8 x
instance (l:List ItemD):Decidable (Kk l):=by unfold Kk;infer_instance
theorem Kk.no {l:List ItemD} {i:Nat} {x:ItemD} (h:l[i]?=some x) (hn:¬ ItemOk 8 x):¬ Kk l:=fun h2=>hn (h2 x (List.mem_of_getElem? h))
def Jn (l:List ItemD):Int:=if 1024 < l.length then 3 else if Kk l then 0 else 6
def La (l:List ItemD):List UInt8:=if Jn l=0 then Ce l else []
theorem Sp {l:List ItemD} (h:1024 < l.length):Jn l=3∧La l=[]:=by
 have:Jn l=3:=by unfold Jn;rw [if_pos h]
 exact ⟨this,by unfold La;rw [this];rfl⟩
theorem Sq {l:List ItemD} (h:l.length≤1024) (hn:¬ Kk l):Jn l=6∧La l=[]:=by
 have:Jn l=6:=by unfold Jn;rw [if_neg (by omega),if_neg hn]
 exact ⟨this,by unfold La;rw [this];rfl⟩
theorem Xy {l:List ItemD} (h:l.length≤1024) (hn:Kk l):Jn l=0∧La l=Ce l:=by
 have:Jn l=0:=by unfold Jn;rw [if_neg (by omega),if_pos hn]
 exact ⟨this,by unfold La;rw [if_pos this]⟩
theorem Wo {x:ItemD} (h:¬ Lib.join x.marks [44]=[]):Df x=Lib.decDigits x.key++[32]++Lib.decDigits x.typ++[32]++Lib.join x.marks [44]++[32]++x.text:=by
 unfold Df Fm;rw [if_neg (fun e=>h (by rw [e];rfl))]
theorem Wp {x:ItemD} (h:Lib.join x.marks [44]=[]) (hok:ItemOk 8 x):Df x=Lib.decDigits x.key++[32]++Lib.decDigits x.typ++[32]++[45]++[32]++x.text:=by
 have:x.marks=[]:=by
  cases hm:x.marks with
  | nil=>rfl
  | cons m r=>rw [hm] at h;exact absurd h (join_ne (hok.2.2.2.2 m (by rw [hm];simp)))
 unfold Df Fm;rw [if_pos this]
def Avg (lim:Nat) (s:List UInt8) (u:Nat) (b:Bool):Prop:=u < lim∧∀ m:Nat,m < lim→s=Lib.decDigits m→b=true∧u=m
def Ja (c:List UInt8):List (List UInt8):=if c=[45] then [] else Br c
theorem Apq {ms:List (List UInt8)} (h:∀ s∈ms,Cf s):Ja (Fm ms)=ms:=by
 unfold Ja
 cases ms with
 | nil=>rfl
 | cons m r =>
  have:Fm (m::r)=Lib.join (m::r) [44]:=by unfold Fm;rw [if_neg (List.cons_ne_nil m r)]
  rw [if_neg (by rw [this];exact Ql (h m (by simp))),Lp h (List.cons_ne_nil m r)]
theorem Gy {s:List UInt8} {y:ItemD} {u1 u2 lim:Nat} {b1 b2:Bool} (h:Rd8 s y) (n1:Avg 18446744073709551616 (Lib.cut s [32]).1 u1 b1) (hl:256≤lim) (n2:Avg lim (Lib.cut (Lib.cut s [32]).2.1 [32]).1 u2 b2) :
  b1=true∧b2=true∧(⟨u1,u2,(Lib.cut (Lib.cut (Lib.cut s [32]).2.1 [32]).2.1 [32]).2.1,Ja (Lib.cut (Lib.cut (Lib.cut s [32]).2.1 [32]).2.1 [32]).1⟩:ItemD)=y:=by
 obtain ⟨hok,hk,rfl⟩:=h;have ht:y.typ < 256:=by have:=hok.2.1;omega
 have a1:=Qj y [];rw [List.append_nil,List.append_nil] at a1;rw [a1] at n1 n2;simp only [Mw] at n2;rw [a1];simp only [Mw,Qi hok.2.2.2.2,Apq hok.2.2.2.2];obtain ⟨h1,h2⟩:=n1.2 y.key hk rfl;obtain ⟨h3,h4⟩:=n2.2 y.typ (by omega) rfl
 exact ⟨h1,h3,by rw [h2,h4]⟩
def Rd10 (s:List UInt8) (x:ItemD):Prop:=ItemOk 8 x∧x.key < 18446744073709551616∧Df x++[10]=s
theorem Rd10.one {s:List UInt8} {x:ItemD} (h:Rd10 (s++[10]) x):Rd8 s x:=⟨h.1,h.2.1,by have:=h.2.2;simpa using this⟩
theorem Rd8.ten {s:List UInt8} {x:ItemD} (h:Rd8 s x):Rd10 (s++[10]) x:=⟨h.1,h.2.1,by rw [h.2.2]⟩
def MkI (y xs:List (List UInt8)) (c:List UInt8):Prop:=∃ ys,y=xs++ys∧c=Fm ys
theorem MkI.nil {y:List (List UInt8)} {c:List UInt8} (h:c=Fm y):MkI y [] c:=⟨y,rfl,h⟩
theorem MkI.step {y xs:List (List UInt8)} {c:List UInt8} (hn:∀ s∈y,Cf s) (h:MkI y xs c) (hc:¬ c=[45]) :
  ((Lib.cut c [44]).2.2=true→MkI y (xs++[(Lib.cut c [44]).1]) (Lib.cut c [44]).2.1)∧(¬ (Lib.cut c [44]).2.2=true→y=xs++[(Lib.cut c [44]).1]):=by
 obtain ⟨ys,h1,h2⟩:=h
 cases ys with
 | nil=>exact absurd h2 hc
 | cons m r =>
  have hm:(44:UInt8) ∉ m:=I1 (hn m (by rw [h1];simp)) (by decide);have hj:Fm (m::r)=Lib.join (m::r) [44]:=by unfold Fm;rw [if_neg (List.cons_ne_nil m r)]
  cases r with
  | nil =>
   rw [hj,Lib.join_one] at h2;subst h2;rw [Auq hm]
   exact ⟨fun h=>(by cases h),fun _=>h1⟩
  | cons m2 r =>
   rw [hj,Pg] at h2;subst h2;rw [K4 hm];refine ⟨fun _=>⟨m2::r,by rw [h1];simp,?_⟩,fun h=>absurd rfl h⟩;unfold Fm;rw [if_neg (List.cons_ne_nil m2 r)]
theorem Ahs {t:Int} {x:ItemD} (h:¬ 0 < Gk t x):ItemOk t x:=by
 unfold Gk at h
 split at h
 ·assumption
 omega
theorem itmF_gt {t:Int} {x:ItemD} (h:0 < Gk t x):¬ ItemOk t x:=fun h2=>by rw [Cs h2] at h;omega
noncomputable def Ud (s:List UInt8):Option ItemD:=by
 classical exact if h:∃ x,Rd8 s x then some h.choose else none
theorem N7 {s:List UInt8} {x:ItemD} (h:Rd8 s x):Ud s=some x:=by
 have hx:∃ x,Rd8 s x:=⟨x,h⟩;unfold Ud;rw [dif_pos hx,Rd8.uniq hx.choose_spec h]
theorem Wu {s:List UInt8} (h:∀ y,¬ Rd8 s y):Ud s=none:=by
 unfold Ud;rw [dif_neg (fun ⟨x,hx⟩=>h x hx)]
noncomputable def pGo:Nat→List ItemD→List UInt8→List ItemD × Nat × Int
 | 0,_,_=>([],0,0)
 | f+1,l,s=>if s=[] then (l,0,0) else if (Lib.cut s [10]).2.2=true then
   (match Ud (Lib.cut s [10]).1 with
    | some x=>if l.length=1024 then ([],l.length+1,3) else pGo f (l++[x]) (Lib.cut s [10]).2.1
    | none=>([],l.length+1,5)) else ([],l.length+1,5)
noncomputable def Dd (s:List UInt8):List ItemD × Nat × Int:=if 1048576 < s.length then ([],0,3) else pGo (s.length+1) [] s
def Q0 (s0:List UInt8) (xs:List ItemD) (c:List UInt8):Prop:=∃ f,c.length < f∧Dd s0=pGo f xs c∧xs.length≤1024∧Kk xs
theorem Aki {s:List UInt8} (h:1048576 < s.length):Dd s=([],0,3):=by unfold Dd;rw [if_pos h]
theorem Q0.start {s:List UInt8} (h:¬ 1048576 < s.length):Q0 s [] s:=⟨s.length+1,by omega,by unfold Dd;rw [if_neg h],by simp,fun x hx=>by simp at hx⟩
theorem Q0.fin {s0:List UInt8} {xs:List ItemD} (h:Q0 s0 xs []):Dd s0=(xs,0,0):=by
 obtain ⟨f,h1,h2,_⟩:=h
 cases f with
 | zero=>simp at h1
 | succ f=>rw [h2];unfold pGo;rw [if_pos rfl]
theorem Aur {s:List UInt8} (h:¬ s=[]):(Lib.cut s [10]).2.1.length < s.length:=by
 have h0:=List.length_pos_iff.2 h;rw [Oc]
 split
 ·simp only [List.length_drop];omega
 simpa using h0
theorem Q0.bad {s0:List UInt8} {xs:List ItemD} {c:List UInt8} (h:Q0 s0 xs c) (hc:¬ c=[]) (hb:¬ (Lib.cut c [10]).2.2=true∨∀ y,¬ Rd8 (Lib.cut c [10]).1 y):Dd s0=([],xs.length+1,5):=by
 obtain ⟨f,h1,h2,_⟩:=h
 cases f with
 | zero=>omega
 | succ f =>
  rw [h2];unfold pGo;rw [if_neg hc]
  by_cases hq:(Lib.cut c [10]).2.2=true
  ·rw [if_pos hq,Wu (hb.resolve_left (fun h=>h hq))]
  ·rw [if_neg hq]
theorem Q0.full {s0:List UInt8} {xs:List ItemD} {c:List UInt8} {x:ItemD} (h:Q0 s0 xs c) (hc:¬ c=[]) (hq:(Lib.cut c [10]).2.2=true) (hx:Rd8 (Lib.cut c [10]).1 x) (hl:xs.length=1024):Dd s0=([],xs.length+1,3):=by
 obtain ⟨f,h1,h2,_⟩:=h
 cases f with
 | zero=>omega
 | succ f =>
  rw [h2];unfold pGo;rw [if_neg hc,if_pos hq,N7 hx];simp only;rw [if_pos hl]
theorem Q0.next {s0:List UInt8} {xs:List ItemD} {c:List UInt8} {x:ItemD} (h:Q0 s0 xs c) (hc:¬ c=[]) (hq:(Lib.cut c [10]).2.2=true) (hx:Rd8 (Lib.cut c [10]).1 x) (hl:¬ xs.length=1024):Q0 s0 (xs++[x]) (Lib.cut c [10]).2.1:=by
 obtain ⟨f,h1,h2,h3,h4⟩:=h
 cases f with
 | zero=>omega
 | succ f =>
  have h5:=Aur hc;refine ⟨f,by omega,?_,by simp only [List.length_append,List.length_cons,List.length_nil];omega,fun y hy=>?_⟩
  ·rw [h2,pGo,if_neg hc,if_pos hq,N7 hx];simp only;rw [if_neg hl]
  ·rcases List.mem_append.1 hy with hy | hy
   ·exact h4 y hy
   ·simp only [List.mem_singleton] at hy;subst hy;exact hx.1
theorem Adq (x:ItemD) (l:List ItemD):Ce (x::l)=Df x++10::Ce l:=by unfold Ce;simp
theorem Vu {l:List ItemD} (h:Kk l) (hk:∀ x∈l,x.key < 18446744073709551616∧x.typ < 256):(Ce l).length≤301 * l.length:=by
 induction l with
 | nil=>simp [Ce]
 | cons x l ih =>
  have h1:=Pe (h x (by simp)) (hk x (by simp)).1 (hk x (by simp)).2;have h2:=ih (fun y hy=>h y (by simp [hy])) (fun y hy=>hk y (by simp [hy]));rw [Adq];simp only [List.length_append,List.length_cons]
  omega
open Go Go.Y Go.Proofs
variable {w0 w:World} {G:Ap} {L:List Res}
set_option maxHeartbeats 1600000
theorem Adr {w:World} {x:Nat}:Calls Tryz.prog 49 #[.int .i32 (x:Int)] w (fun e w'=>e=.returned (.bool (Hu x))∧∃ q,w' = w.drewN q):=by
 refine Aj (vs:=[_]) Tryz.func49 rfl (n:=9) rfl rfl<|?_
 refine wk ?_
 rcases bE (decide ((x:Int) < 32)) with h1b | h2b
 ·skip
  have h1:=dT h1b;refine wk ?_;refine Aa rfl rfl<|?_
  exact ⟨by have h_:Hu x=true:=(by unfold Hu;first | (simp_all;omega) | simp_all);rw [h_],0,rfl⟩
 have h2:=dF h2b;refine wk ?_;refine Aa rfl rfl<|?_
 exact ⟨by have h_:Hu x=(decide (126 < (x:Int))):=(by unfold Hu;first | (simp_all;omega) | simp_all);rw [h_],0,rfl⟩
theorem Afk (M:Mem w0 G L w) {s:List UInt8}:Calls Tryz.prog 103 #[.string (str s),.func (.func 49) #[] #[]] w (Bn w0 G L fun v=>∃ z:Int,v=.int .i64 z∧(z < 0↔∀ c∈s,Iq c)):=by
 have hp:PredAt Tryz.prog 49 #[] encR Hu w:=fun W x _=>(Adr (x:=x));refine (Any.strings_IndexFunc Tryz.laysGw15 49 #[] (Go.Proofs.enters_of Tryz.func49 (by kernel_rfl) rfl) Hu (str s) w hp).mono ?_;rintro e w' ⟨rfl,hb⟩
 exact ⟨M.below' hb,_,rfl,Za s⟩
theorem Ack (M:Mem w0 G L w) {s:List UInt8}:Calls Tryz.prog 48 #[.string (str s),.func (.func 49) #[] #[]] w (Bn w0 G L fun v=>∃ b:Bool,v=.bool b∧(b=true↔¬ ∀ c∈s,Iq c)):=by
 refine Aj (vs:=[_,_]) Tryz.func48 rfl (n:=9) rfl rfl<|?_
 refine wk ?_;refine A2 Afy rfl rfl (Afk (s:=s) M)<|?_;clear M;rintro _ w M ⟨z1,rfl,hz1⟩
 refine wk ?_;refine Aa rfl rfl<|?_
 exact ⟨M,_,rfl,by rw [decide_eq_true_iff,← hz1];omega⟩
theorem Afe {w:World} {x:Nat}:Calls Tryz.prog 105 #[.int .i32 (x:Int)] w (fun e w'=>e=.returned (.bool (Ng x))∧∃ q,w' = w.drewN q):=by
 refine Aj (vs:=[_]) Tryz.func105 rfl (n:=17) rfl rfl<|?_
 refine wk ?_
 rcases bE (decide ((x:Int) < 97)) with h1b | h4b
 ·skip
  have h1:=dT h1b;refine wk ?_
  rcases bE (decide ((x:Int) < 48)) with h2b | h3b
  ·skip
   have h2:=dT h2b;refine wk ?_;refine Aa rfl rfl<|?_
   exact ⟨by have h_:Ng x=true:=(by unfold Ng;first | (simp_all;omega) | simp_all);rw [h_],0,rfl⟩
  have h3:=dF h3b;refine wk ?_;refine Aa rfl rfl<|?_
  exact ⟨by have h_:Ng x=(decide (57 < (x:Int))):=(by unfold Ng;first | (simp_all;omega) | simp_all);rw [h_],0,rfl⟩
 have h4:=dF h4b;refine wk ?_
 rcases bE (decide (122 < (x:Int))) with h5b | h8b
 ·skip
  have h5:=dT h5b;refine wk ?_
  rcases bE (decide ((x:Int) < 48)) with h6b | h7b
  ·skip
   have h6:=dT h6b;refine wk ?_;refine Aa rfl rfl<|?_
   exact ⟨by have h_:Ng x=true:=(by unfold Ng;first | (simp_all;omega) | simp_all);rw [h_],0,rfl⟩
  have h7:=dF h7b;refine wk ?_;refine Aa rfl rfl<|?_
  exact ⟨by have h_:Ng x=(decide (57 < (x:Int))):=(by unfold Ng;first | (simp_all;omega) | simp_all);rw [h_],0,rfl⟩
 have h8:=dF h8b;refine wk ?_;refine Aa rfl rfl<|?_
 exact ⟨by have h_:Ng x=false:=(by unfold Ng;first | (simp_all;omega) | simp_all);rw [h_],0,rfl⟩
theorem Afl (M:Mem w0 G L w) {s:List UInt8}:Calls Tryz.prog 103 #[.string (str s),.func (.func 105) #[] #[]] w (Bn w0 G L fun v=>∃ z:Int,v=.int .i64 z∧(z < 0↔∀ c∈s,Cz c)):=by
 have hp:PredAt Tryz.prog 105 #[] encR Ng w:=fun W x _=>(Afe (x:=x));refine (Any.strings_IndexFunc Tryz.laysGw15 105 #[] (Go.Proofs.enters_of Tryz.func105 (by kernel_rfl) rfl) Ng (str s) w hp).mono ?_;rintro e w' ⟨rfl,hb⟩
 exact ⟨M.below' hb,_,rfl,Aqq s⟩
theorem Acl (M:Mem w0 G L w) {s:List UInt8}:Calls Tryz.prog 48 #[.string (str s),.func (.func 105) #[] #[]] w (Bn w0 G L fun v=>∃ b:Bool,v=.bool b∧(b=true↔¬ ∀ c∈s,Cz c)):=by
 refine Aj (vs:=[_,_]) Tryz.func48 rfl (n:=9) rfl rfl<|?_
 refine wk ?_;refine A2 Afy rfl rfl (Afl (s:=s) M)<|?_;clear M;rintro _ w M ⟨z1,rfl,hz1⟩
 refine wk ?_;refine Aa rfl rfl<|?_
 exact ⟨M,_,rfl,by rw [decide_eq_true_iff,← hz1];omega⟩
theorem Akl (M:Mem w0 G L w) {s:List UInt8} (hs:s.length≤9223372036854775807):Calls Tryz.prog 53 #[.string (str s)] w (Bn w0 G L fun v=>∃ b:Bool,v=.bool b∧(b=true↔Cf s)):=by
 refine Aj (vs:=[_]) Tryz.func53 rfl (n:=17) rfl rfl<|?_
 refine wk ?_;have hs0:s=[]↔s.length=0:=by cases s <;> simp
 refine wk ?_
 rcases bE (!(decide (s=([]:List UInt8)))) with h1b | h5b
 ·skip
  have h1:=dF (Ab h1b);have h1c:(decide (s=([]:List UInt8)))=false:=(Ab h1b);refine wk ?_
  rcases bE (decide ((((s).length:Nat):Int)≤16)) with h2b | h4b
  ·skip
   have h2:=dT h2b;refine wk ?_;refine A2 ent48 rfl rfl (Acl (s:=s) M)<|?_;clear M;rintro _ w M ⟨b3,rfl,hb3⟩
   refine wk ?_;refine Aa rfl rfl<|?_
   exact ⟨M,(!(b3)),rfl,(by clear M;unfold Cf;grind)⟩
  have h4:=dF h4b;refine wk ?_;refine Aa rfl rfl<|?_
  exact ⟨M,false,rfl,(by clear M;unfold Cf;grind)⟩
 have h5:=dT (Ac h5b);have h5c:(decide (s=([]:List UInt8)))=true:=(Ac h5b);refine wk ?_;refine Aa rfl rfl<|?_
 exact ⟨M,false,rfl,(by clear M;unfold Cf;grind)⟩
theorem Dt (M:Mem w0 G L w) {s:List UInt8} (hs:s.length≤9223372036854775807):Calls Tryz.prog 107 #[.string (str s)] w (Bn w0 G L fun v=>v=.int .i64 (if Cf s then (1:Int) else 0)):=by
 refine Aj (vs:=[_]) Tryz.func107 rfl (n:=37) rfl rfl<|?_
 refine wk ?_
 rcases bE (decide ((((s).length:Nat):Int) < 1)) with h1b | h2b
 ·skip
  have h1:=dT h1b;refine wk ?_;refine Aa rfl rfl<|?_
  exact ⟨M,by rw [if_neg (fun h_:Cf s=>by have:=h_.1;omega)]⟩
 have h2:=dF h2b;refine wk ?_;refine qD rfl ?_ ?_
 ·intro h3;refine wk ?_;refine Aa rfl rfl<|?_
  exact ⟨M,by rw [if_neg (fun h_:Cf s=>by have:=h_.1;omega)]⟩
 intro h4;refine wk ?_;refine fun a F=>A3 (fun m a' w'=>∃ (i:Nat),m=s.length - i∧Fits 37 a' [(0,.string (str s)),(3,.int .i64 ((i:Nat):Int))]∧Mem w0 G (L) w'∧(i≤s.length)∧(∀ (m:Nat) (b:UInt8),m < i→s[m]?=some b→Cz b)) _ ⟨0,rfl,F.to ⟨rfl,rfl,trivial⟩,M,by omega,fun m b h=>by omega⟩ ?_;clear F M;rintro m a w ⟨i,rfl,F,M,hi,hA⟩;revert a;refine wk ?_;refine qD rfl ?_ ?_
 ·intro h5;refine wk ?_;obtain ⟨B6,hB6⟩:=Ak (xs:=(s)) (i:=i) (by omega);have lB6:=Wf B6;refine Aq (fun a F=>C1 (i:=i) Dg.k (F.ev rfl) (F.ev rfl) hB6) rfl<|?_
  refine wk ?_
  rcases bE (decide (97≤nb B6)) with h7b | h14b
  ·skip
   have h7:=dT h7b;refine wk ?_
   rcases bE (decide (nb B6≤122)) with h8b | h9b
   ·skip
    have h8:=dT h8b;refine wk ?_;intro a F
    exact ⟨_,by omega,i+1,rfl,F.to ⟨rfl,rfl,trivial⟩,M,by omega,D2 hA hB6 (by unfold Cz;omega)⟩
   have h9:=dF h9b;refine wk ?_
   rcases bE (decide (48≤nb B6)) with h10b | h13b
   ·skip
    have h10:=dT h10b;refine wk ?_;refine Ae rfl ?_ ?_
    ·intro h11b;have h11:=dF (Ab h11b);refine wk ?_;refine Aa rfl rfl<|?_
     exact ⟨M,by rw [if_neg (fun h_:Cf s=>absurd h_.2 (F9 hB6 (by unfold Cz;omega)))]⟩
    intro h12b;have h12:=dT (Ac h12b);refine wk ?_;intro a F
    exact ⟨_,by omega,i+1,rfl,F.to ⟨rfl,rfl,trivial⟩,M,by omega,D2 hA hB6 (by unfold Cz;omega)⟩
   have h13:=dF h13b;refine wk ?_;refine Aa rfl rfl<|?_
   exact ⟨M,by rw [if_neg (fun h_:Cf s=>absurd h_.2 (F9 hB6 (by unfold Cz;omega)))]⟩
  have h14:=dF h14b;refine wk ?_
  rcases bE (decide (48≤nb B6)) with h15b | h18b
  ·skip
   have h15:=dT h15b;refine wk ?_;refine Ae rfl ?_ ?_
   ·intro h16b;have h16:=dF (Ab h16b);refine wk ?_;refine Aa rfl rfl<|?_
    exact ⟨M,by rw [if_neg (fun h_:Cf s=>absurd h_.2 (F9 hB6 (by unfold Cz;omega)))]⟩
   intro h17b;have h17:=dT (Ac h17b);refine wk ?_;intro a F
   exact ⟨_,by omega,i+1,rfl,F.to ⟨rfl,rfl,trivial⟩,M,by omega,D2 hA hB6 (by unfold Cz;omega)⟩
  have h18:=dF h18b;refine wk ?_;refine Aa rfl rfl<|?_
  exact ⟨M,by rw [if_neg (fun h_:Cf s=>absurd h_.2 (F9 hB6 (by unfold Cz;omega)))]⟩
 intro h19;refine wk ?_;refine Aa rfl rfl<|?_
 exact ⟨M,by rw [if_pos (show Cf s from ⟨by omega,Dw hA (by omega)⟩)]⟩
theorem Z7 (M:Mem w0 G L w) {s:List UInt8} (hs:s.length≤9223372036854775807):Calls Tryz.prog 106 #[.string (str s)] w (Bn w0 G L fun v=>v=.int .i64 (if Str s then (1:Int) else 0)):=by
 refine Aj (vs:=[_]) Tryz.func106 rfl (n:=23) rfl rfl<|?_
 refine wk ?_;refine qD rfl ?_ ?_
 ·intro h1;refine wk ?_;refine Aa rfl rfl<|?_
  exact ⟨M,by rw [if_neg (fun h_:Str s=>by have:=h_.1;omega)]⟩
 intro h2;refine wk ?_;refine fun a F=>A3 (fun m a' w'=>∃ (i:Nat),m=s.length - i∧Fits 23 a' [(0,.string (str s)),(3,.int .i64 ((i:Nat):Int))]∧Mem w0 G (L) w'∧(i≤s.length)∧(∀ (m:Nat) (b:UInt8),m < i→s[m]?=some b→Iq b)) _ ⟨0,rfl,F.to ⟨rfl,rfl,trivial⟩,M,by omega,fun m b h=>by omega⟩ ?_;clear F M;rintro m a w ⟨i,rfl,F,M,hi,hA⟩;revert a;refine wk ?_;refine qD rfl ?_ ?_
 ·intro h3;refine wk ?_;obtain ⟨B4,hB4⟩:=Ak (xs:=(s)) (i:=i) (by omega);have lB4:=Wf B4;refine Aq (fun a F=>C1 (i:=i) Dg.k (F.ev rfl) (F.ev rfl) hB4) rfl<|?_
  refine wk ?_
  rcases bE (decide (nb B4 < 32)) with h5b | h6b
  ·skip
   have h5:=dT h5b;refine wk ?_;refine Aa rfl rfl<|?_
   exact ⟨M,by rw [if_neg (fun h_:Str s=>absurd h_.2 (F9 hB4 (by unfold Iq;omega)))]⟩
  have h6:=dF h6b;refine wk ?_;refine Aq (fun a F=>C1 (i:=i) Dg.k (F.ev rfl) (F.ev rfl) hB4) rfl<|?_
  refine wk ?_;refine qD rfl ?_ ?_
  ·intro h7;refine wk ?_;refine Aa rfl rfl<|?_
   exact ⟨M,by rw [if_neg (fun h_:Str s=>absurd h_.2 (F9 hB4 (by unfold Iq;omega)))]⟩
  intro h8;refine wk ?_;intro a F
  exact ⟨_,by omega,i+1,rfl,F.to ⟨rfl,rfl,trivial⟩,M,by omega,D2 hA hB4 (by unfold Iq;omega)⟩
 intro h9;refine wk ?_;refine Aa rfl rfl<|?_
 exact ⟨M,by rw [if_pos (show Str s from ⟨by omega,Dw hA (by omega)⟩)]⟩
set_option maxHeartbeats 1600000
theorem Age (M:Mem w0 G L w) {s:List UInt8} (hs:s.length≤9223372036854775807):Calls Tryz.prog 52 #[.string (str s)] w (Bn w0 G L fun v=>∃ b:Bool,v=.bool b∧(b=true↔¬ Cf s)):=by
 refine Aj (vs:=[_]) Tryz.func52 rfl (n:=6) rfl rfl<|?_
 refine wk ?_;refine A2 ent53 rfl rfl (Akl (s:=s) M (by assumption))<|?_;clear M;rintro _ w M ⟨b1,rfl,hb1⟩
 refine wk ?_;refine Aa rfl rfl<|?_
 exact ⟨M,(!(b1)),rfl,(by clear M;grind)⟩
theorem Qn (M:Mem w0 G L w) {ad:Option Addr} {cd:Nat} {xs:List (List UInt8)} (S:Ag Cb 1 G (.slice ad xs.length cd) xs):Calls Tryz.prog 104 #[.slice ad xs.length cd,.func (.func 52) #[] #[]] w (Bn w0 G L fun v=>∃ z:Int,v=.int .i64 z∧(0≤z↔¬ ∀ s∈xs,Cf s)):=by
 have bS:=S.bound;refine Aj (vs:=[_,_]) Tryz.func104 rfl (n:=19) rfl rfl<|?_
 refine wk ?_;refine fun a F=>A3 (fun m a' w'=>∃ (i:Nat),m=xs.length - i∧Fits 19 a' [(0,.slice ad xs.length cd),(1,.func (.func 52) #[] #[]),(7,.int .i64 ((xs.length:Nat):Int)),(8,.int .i64 ((i:Nat):Int))]∧Mem w0 G (L) w'∧(i≤xs.length)∧(∀ (m:Nat) (s:List UInt8),m < i→xs[m]?=some s→Cf s)) _ ⟨0,rfl,F.to ⟨rfl,rfl,rfl,rfl,trivial⟩,M,Nat.zero_le _,fun m d h=>by omega⟩ ?_;clear F M;rintro m a w ⟨i,rfl,F,M,hi,hA⟩;revert a;refine wk ?_;refine qD rfl ?_ ?_
 ·intro h1;refine wk ?_;obtain ⟨Xe2,hXe2⟩:=Ak (xs:=xs) (i:=i) (by omega);obtain ⟨be2,oe2,_,Ie2,_,Ae2,⟨rfl,hsle2⟩⟩:=S.at hXe2;refine wk ?_;refine Adz ent52 (caps:=[]) rfl rfl rfl (Age (s:=Xe2) M (by omega))<|?_;clear M;rintro _ w M ⟨b3,rfl,hb3⟩
  refine Ao<|F4<|?_
  refine Ae rfl ?_ ?_
  ·intro h4b;have h4:(b3)=true:=h4b;refine wk ?_;refine Aa rfl rfl<|?_
   exact ⟨M,_,rfl,⟨fun _ h_=>(hb3.1 (by assumption)) (h_ _ (List.mem_of_getElem? hXe2)),fun _=>by omega⟩⟩
  intro h5b;have h5:(b3)=false:=h5b;refine wk ?_;intro a F
  exact ⟨_,by omega,i+1,rfl,F.to ⟨rfl,rfl,rfl,rfl,trivial⟩,M,by omega,Mu hA hXe2 (by clear F M;grind)⟩
 intro h6;refine wk ?_;refine Aa rfl rfl<|?_
 exact ⟨M,_,rfl,⟨fun h=>by omega,fun h=>absurd (F5 hA (by omega)) h⟩⟩
theorem Od (M:Mem w0 G L w) {ad:Option Addr} {cd:Nat} {xs:List (List UInt8)} (S:Ag Cb 1 G (.slice ad xs.length cd) xs):Calls Tryz.prog 51 #[.slice ad xs.length cd,.func (.func 52) #[] #[]] w (Bn w0 G L fun v=>∃ b:Bool,v=.bool b∧(b=true↔¬ ∀ s∈xs,Cf s)):=by
 refine Aj (vs:=[_,_]) Tryz.func51 rfl (n:=9) rfl rfl<|?_
 refine wk ?_;refine A2 Aug rfl rfl (Qn (xs:=xs) M S)<|?_;clear M;rintro _ w M ⟨z1,rfl,hz1⟩
 refine wk ?_;refine Aa rfl rfl<|?_
 exact ⟨M,_,rfl,decide_eq_true_iff.trans hz1⟩
theorem Alk {w0 w:World} {G:Ap} {L:List Res} {b:Nat} {x:ItemD} {ma:Option Addr} {mc:Nat} (M:Mem w0 G (.blk b [.int .u64 ((x.key:Nat):Int),.int .u8 ((x.typ:Nat):Int),.string (str x.text),.slice ma x.marks.length mc] 26::L) w) (SM:Ag Cb 1 G (.slice ma x.marks.length mc) x.marks) :
  Calls Tryz.prog 47 #[.pointer (some ⟨b,0,none⟩)] w (Bn w0 G (.blk b [.int .u64 ((x.key:Nat):Int),.int .u8 ((x.typ:Nat):Int),.string (str x.text),.slice ma x.marks.length mc] 26::L) fun v=>∃ bb:Bool,v=.bool bb∧(bb=true↔Str x.text)):=by
 refine Aj (vs:=[_]) Tryz.func47 rfl (n:=12) rfl rfl<|?_
 refine wk ?_
 rcases bE (decide ((((x.text).length:Nat):Int)≤64)) with h1b | h3b
 ·skip
  have h1:=dT h1b;refine wk ?_;refine A2 ent48 rfl rfl (Ack (s:=x.text) M)<|?_;clear M;rintro _ w M ⟨b2,rfl,hb2⟩
  refine wk ?_;refine Aa rfl rfl<|?_
  exact ⟨M,(!(b2)),rfl,(by clear M;unfold Str;grind)⟩
 have h3:=dF h3b;refine wk ?_;refine Aa rfl rfl<|?_
 exact ⟨M,false,rfl,(by clear M;unfold Str;grind)⟩
theorem Alj {w0 w:World} {G:Ap} {L:List Res} {b:Nat} {x:ItemD} {ma:Option Addr} {mc:Nat} (M:Mem w0 G (.blk b [.int .u64 ((x.key:Nat):Int),.int .u8 ((x.typ:Nat):Int),.string (str x.text),.slice ma x.marks.length mc] 26::L) w) (SM:Ag Cb 1 G (.slice ma x.marks.length mc) x.marks) :
  Calls Tryz.prog 50 #[.pointer (some ⟨b,0,none⟩)] w (Bn w0 G (.blk b [.int .u64 ((x.key:Nat):Int),.int .u8 ((x.typ:Nat):Int),.string (str x.text),.slice ma x.marks.length mc] 26::L) fun v=>∃ bb:Bool,v=.bool bb∧(bb=true↔(x.marks.length≤8∧∀ s∈x.marks,Cf s))):=by
 refine Aj (vs:=[_]) Tryz.func50 rfl (n:=12) rfl rfl<|?_
 refine wk ?_
 rcases bE (decide (((x.marks.length:Nat):Int)≤8)) with h1b | h3b
 ·skip
  have h1:=dT h1b;refine wk ?_;refine A2 ent51 rfl rfl (Od (xs:=x.marks) M SM)<|?_;clear M;rintro _ w M ⟨b2,rfl,hb2⟩
  refine wk ?_;refine Aa rfl rfl<|?_
  exact ⟨M,(!(b2)),rfl,(by clear M;grind)⟩
 have h3:=dF h3b;refine wk ?_;refine Aa rfl rfl<|?_
 exact ⟨M,false,rfl,(by clear M;grind)⟩
theorem Jg (M:Mem w0 G L w) {x:ItemD} {ma:Option Addr} {mc:Nat} (hI:(x.key < 18446744073709551616∧x.typ < 256∧x.text.length≤9223372036854775807)) (SM:Ag Cb 1 G (.slice ma x.marks.length mc) x.marks) {t:Int}:Calls Tryz.prog 14 #[.agg #[.int .u64 ((x.key:Nat):Int),.int .u8 ((x.typ:Nat):Int),.string (str x.text),.slice ma x.marks.length mc],.int .i64 t] w (Bn w0 G L fun v=>v=.int .i64 (Gk t x)):=by
 refine Aj (vs:=[_,_]) Tryz.func14 rfl (n:=29) rfl rfl<|?_
 refine B7<|?_
 obtain ⟨hI1,hI2,hI3⟩:=hI;refine Ij<|?_
 refine Bw M rfl rfl rfl<|?_;clear M;intro b1 w M
 refine wk ?_;refine Aq (fun a F=>Cp (vs:=#[.pointer (some ⟨b1,0,none⟩)]) (by simp only [List.map_toArray,List.map_cons,List.map_nil,F.ev (x:=.tmp 2) rfl])) rfl<|?_
 refine wk ?_;refine Aq (fun a F=>Cp (vs:=#[.pointer (some ⟨b1,0,none⟩)]) (by simp only [List.map_toArray,List.map_cons,List.map_nil,F.ev (x:=.tmp 2) rfl])) rfl<|?_
 refine wk ?_
 rcases bE (decide (((x.key:Nat):Int)=0)) with h2b | h3b
 ·skip
  have h2:=dT h2b;refine wk ?_;refine Aa rfl rfl<|?_
  exact ⟨M.weaken dS1,by rw [Dq (by clear M;unfold ItemOk;grind)]⟩
 have h3:=dF h3b;refine wk ?_;refine Aq (fun a F=>B2 Cw.k ⟨_,by rw [B9 E6.k]⟩ (F.ev rfl) (B5 (by omega) (by omega))) rfl<|?_
 refine wk ?_
 rcases bE (decide (t≤((x.typ:Nat):Int))) with h4b | h5b
 ·skip
  have h4:=dT h4b;refine wk ?_;refine Aa rfl rfl<|?_
  exact ⟨M.weaken dS1,by rw [Dq (by clear M;unfold ItemOk;grind)]⟩
 have h5:=dF h5b;refine wk ?_;replace M:=z_M M;refine Adz ent47 (caps:=[.pointer (some ⟨b1,0,none⟩)]) rfl rfl rfl (Alk (x:=x) M SM)<|?_;clear M;rintro _ w M ⟨b6,rfl,hb6⟩
 refine wk ?_
 rcases bE (!(b6)) with h7b | h8b
 ·skip
  have h7:=Ab h7b;have h7c:(b6)=false:=(Ab h7b);refine wk ?_;refine Aa rfl rfl<|?_
  exact ⟨M.weaken dS1,by rw [Dq (by clear M;unfold ItemOk;grind)]⟩
 have h8:=Ac h8b;have h8c:(b6)=true:=(Ac h8b);refine wk ?_;replace M:=z_M M;refine Adz ent50 (caps:=[.pointer (some ⟨b1,0,none⟩)]) rfl rfl rfl (Alj (x:=x) M SM)<|?_;clear M;rintro _ w M ⟨b9,rfl,hb9⟩
 refine wk ?_;refine Ae rfl ?_ ?_
 ·intro h10b;have h10:=Ab h10b;have h10c:(b9)=false:=(Ab h10b);refine wk ?_;refine Aa rfl rfl<|?_
  exact ⟨M.weaken dS1,by rw [Dq (by clear M;unfold ItemOk;grind)]⟩
 intro h11b;have h11:=Ac h11b;have h11c:(b9)=true:=(Ac h11b);refine wk ?_;refine Aa rfl rfl<|?_
 exact ⟨M.weaken dS1,by rw [Cs (by first | (clear M;unfold ItemOk;grind) | exact ⟨by omega,by omega,by clear M;grind,by omega,F5 hA (by omega)⟩)]⟩
theorem Jr {P:Prop} {l:List (List UInt8)} {i:Nat} {ok:Int} {s:List UInt8} (h0:ok=0∨ok=1) (h:ok=1↔P∧∀ (m:Nat) (s:List UInt8),m < i→l[m]?=some s→Cf s) (hs:l[i]?=some s) :
  (ok * (if Cf s then (1:Int) else 0)=0∨ok * (if Cf s then (1:Int) else 0)=1)∧(ok * (if Cf s then (1:Int) else 0)=1↔P∧∀ (m:Nat) (s:List UInt8),m < i+1→l[m]?=some s→Cf s):=by
 by_cases hn:Cf s
 ·rw [if_pos hn,Int.mul_one];refine ⟨h0,h.trans ⟨fun ⟨h1,h2⟩=>⟨h1,D2 h2 hs hn⟩,fun ⟨h1,h2⟩=>⟨h1,fun m s hm=>h2 m s (by omega)⟩⟩⟩
 rw [if_neg hn,Int.mul_zero]
 exact ⟨Or.inl rfl,⟨fun h=>by omega,fun ⟨_,h2⟩=>absurd (h2 i s (by omega) hs) hn⟩⟩
theorem L6 (M:Mem w0 G L w) {x:ItemD} {ma:Option Addr} {mc:Nat} (hI:(x.key < 18446744073709551616∧x.typ < 256∧x.text.length≤9223372036854775807)) (SM:Ag Cb 1 G (.slice ma x.marks.length mc) x.marks) {t:Int}:Calls Tryz.prog 57 #[.agg #[.int .u64 ((x.key:Nat):Int),.int .u8 ((x.typ:Nat):Int),.string (str x.text),.slice ma x.marks.length mc],.int .i64 t] w (Bn w0 G L fun v=>v=.int .i64 (Gk t x)):=by
 refine Aj (vs:=[_,_]) Tryz.func57 rfl (n:=43) rfl rfl<|?_
 refine B7<|?_
 obtain ⟨hI1,hI2,hI3⟩:=hI;have bSM:=SM.bound;refine Ij<|?_
 refine Bw M rfl rfl rfl<|?_;clear M;intro b1 w M
 refine wk ?_;refine A2 ent106 rfl rfl (Z7 (s:=x.text) M (by omega))<|?_;clear M;rintro _ w M rfl
 refine wk ?_
 rcases bE (decide (((x.key:Nat):Int)=0)) with h2b | h8b
 ·skip
  have h2:=dT h2b;refine wk ?_;intro a F;refine A3 (fun m a' w'=>∃ (i:Nat),∃ (ok:Int),m=x.marks.length - i∧Fits 43 a' [(1,.int .i64 t),(2,.pointer (some ⟨b1,0,none⟩)),(5,.int .i64 ok),(6,.int .i64 ((i:Nat):Int))]∧Mem w0 G (.blk b1 [.int .u64 ((x.key:Nat):Int),.int .u8 ((x.typ:Nat):Int),.string (str x.text),.slice ma x.marks.length mc] 26::L) w'∧(i≤x.marks.length)∧(ok=0∨ok=1)∧(ok=1↔(x.key≠0∧(x.typ:Int) < t∧Str x.text∧x.marks.length≤8)∧∀ (m:Nat) (s:List UInt8),m < i→x.marks[m]?=some s→Cf s)) _ ⟨0,0,rfl,F.to ⟨rfl,rfl,rfl,rfl,trivial⟩,M,Nat.zero_le _,(by first | omega | (split <;> omega)),⟨fun h_=>⟨(by clear F M;grind),fun m s hm=>by omega⟩,fun h_=>(by clear F M;grind)⟩⟩ ?_;clear F M;rintro m a w ⟨i,ok,rfl,F,M,hi,hok,hA⟩;revert a;refine wk ?_;refine qD rfl ?_ ?_
  ·intro h3;refine wk ?_;obtain ⟨Xe4,hXe4⟩:=Ak (xs:=x.marks) (i:=i) (by omega);obtain ⟨be4,oe4,_,Ie4,_,Ae4,⟨rfl,hsle4⟩⟩:=SM.at hXe4;refine wk ?_;refine A2 Zh rfl rfl (Dt (s:=Xe4) M (by omega))<|?_;clear M;rintro _ w M rfl
   refine Aq (fun a F=>Oz (F.ev rfl) (F.ev rfl) (B5 (by (rcases hok with rfl | rfl <;> split <;> omega)) (by (rcases hok with rfl | rfl <;> split <;> omega)))) rfl<|?_
   refine wk ?_;intro a F
   exact ⟨_,by omega,i+1,ok * ((if Cf Xe4 then (1:Int) else 0)),rfl,F.to ⟨rfl,rfl,rfl,rfl,trivial⟩,M,by omega,(Jr hok hA hXe4).1,(Jr hok hA hXe4).2⟩
  intro h5;refine wk ?_;refine qD rfl ?_ ?_
  ·intro h6;refine wk ?_;refine Aa rfl rfl<|?_
   exact ⟨M.weaken dS1,by rw [Cs (by clear M;obtain ⟨h1_,h2_⟩:=hA.1 (by omega);exact ⟨h1_.1,h1_.2.1,h1_.2.2.1,h1_.2.2.2,F5 h2_ (by omega)⟩)]⟩
  intro h7;refine wk ?_;refine Aa rfl rfl<|?_
  exact ⟨M.weaken dS1,by rw [Dq (by clear M;intro h_;have:=hA.2 ⟨⟨h_.1,h_.2.1,h_.2.2.1,h_.2.2.2.1⟩,fun m s _ hs=>h_.2.2.2.2 s (List.mem_of_getElem? hs)⟩;omega)]⟩
 have h8:=dF h8b;refine wk ?_;refine Aq (fun a F=>B2 Cw.k ⟨_,by rw [B9 E6.k]⟩ (F.ev rfl) (B5 (by omega) (by omega))) rfl<|?_
 refine wk ?_
 rcases bE (decide (t≤((x.typ:Nat):Int))) with h9b | h15b
 ·skip
  have h9:=dT h9b;refine wk ?_;intro a F;refine A3 (fun m a' w'=>∃ (i:Nat),∃ (ok:Int),m=x.marks.length - i∧Fits 43 a' [(1,.int .i64 t),(2,.pointer (some ⟨b1,0,none⟩)),(5,.int .i64 ok),(6,.int .i64 ((i:Nat):Int))]∧Mem w0 G (.blk b1 [.int .u64 ((x.key:Nat):Int),.int .u8 ((x.typ:Nat):Int),.string (str x.text),.slice ma x.marks.length mc] 26::L) w'∧(i≤x.marks.length)∧(ok=0∨ok=1)∧(ok=1↔(x.key≠0∧(x.typ:Int) < t∧Str x.text∧x.marks.length≤8)∧∀ (m:Nat) (s:List UInt8),m < i→x.marks[m]?=some s→Cf s)) _ ⟨0,0,rfl,F.to ⟨rfl,rfl,rfl,rfl,trivial⟩,M,Nat.zero_le _,(by first | omega | (split <;> omega)),⟨fun h_=>⟨(by clear F M;grind),fun m s hm=>by omega⟩,fun h_=>(by clear F M;grind)⟩⟩ ?_;clear F M;rintro m a w ⟨i,ok,rfl,F,M,hi,hok,hA⟩;revert a;refine wk ?_;refine qD rfl ?_ ?_
  ·intro h10;refine wk ?_;obtain ⟨Xe11,hXe11⟩:=Ak (xs:=x.marks) (i:=i) (by omega);obtain ⟨be11,oe11,_,Ie11,_,Ae11,⟨rfl,hsle11⟩⟩:=SM.at hXe11;refine wk ?_;refine A2 Zh rfl rfl (Dt (s:=Xe11) M (by omega))<|?_;clear M;rintro _ w M rfl
   refine Aq (fun a F=>Oz (F.ev rfl) (F.ev rfl) (B5 (by (rcases hok with rfl | rfl <;> split <;> omega)) (by (rcases hok with rfl | rfl <;> split <;> omega)))) rfl<|?_
   refine wk ?_;intro a F
   exact ⟨_,by omega,i+1,ok * ((if Cf Xe11 then (1:Int) else 0)),rfl,F.to ⟨rfl,rfl,rfl,rfl,trivial⟩,M,by omega,(Jr hok hA hXe11).1,(Jr hok hA hXe11).2⟩
  intro h12;refine wk ?_;refine qD rfl ?_ ?_
  ·intro h13;refine wk ?_;refine Aa rfl rfl<|?_
   exact ⟨M.weaken dS1,by rw [Cs (by clear M;obtain ⟨h1_,h2_⟩:=hA.1 (by omega);exact ⟨h1_.1,h1_.2.1,h1_.2.2.1,h1_.2.2.2,F5 h2_ (by omega)⟩)]⟩
  intro h14;refine wk ?_;refine Aa rfl rfl<|?_
  exact ⟨M.weaken dS1,by rw [Dq (by clear M;intro h_;have:=hA.2 ⟨⟨h_.1,h_.2.1,h_.2.2.1,h_.2.2.2.1⟩,fun m s _ hs=>h_.2.2.2.2 s (List.mem_of_getElem? hs)⟩;omega)]⟩
 have h15:=dF h15b;refine wk ?_;refine qD rfl ?_ ?_
 ·intro h16;refine wk ?_;intro a F;refine A3 (fun m a' w'=>∃ (i:Nat),∃ (ok:Int),m=x.marks.length - i∧Fits 43 a' [(1,.int .i64 t),(2,.pointer (some ⟨b1,0,none⟩)),(5,.int .i64 ok),(6,.int .i64 ((i:Nat):Int))]∧Mem w0 G (.blk b1 [.int .u64 ((x.key:Nat):Int),.int .u8 ((x.typ:Nat):Int),.string (str x.text),.slice ma x.marks.length mc] 26::L) w'∧(i≤x.marks.length)∧(ok=0∨ok=1)∧(ok=1↔(x.key≠0∧(x.typ:Int) < t∧Str x.text∧x.marks.length≤8)∧∀ (m:Nat) (s:List UInt8),m < i→x.marks[m]?=some s→Cf s)) _ ⟨0,0,rfl,F.to ⟨rfl,rfl,rfl,rfl,trivial⟩,M,Nat.zero_le _,(by first | omega | (split <;> omega)),⟨fun h_=>⟨(by clear F M;grind),fun m s hm=>by omega⟩,fun h_=>(by clear F M;grind)⟩⟩ ?_;clear F M;rintro m a w ⟨i,ok,rfl,F,M,hi,hok,hA⟩;revert a;refine wk ?_;refine qD rfl ?_ ?_
  ·intro h17;refine wk ?_;obtain ⟨Xe18,hXe18⟩:=Ak (xs:=x.marks) (i:=i) (by omega);obtain ⟨be18,oe18,_,Ie18,_,Ae18,⟨rfl,hsle18⟩⟩:=SM.at hXe18;refine wk ?_;refine A2 Zh rfl rfl (Dt (s:=Xe18) M (by omega))<|?_;clear M;rintro _ w M rfl
   refine Aq (fun a F=>Oz (F.ev rfl) (F.ev rfl) (B5 (by (rcases hok with rfl | rfl <;> split <;> omega)) (by (rcases hok with rfl | rfl <;> split <;> omega)))) rfl<|?_
   refine wk ?_;intro a F
   exact ⟨_,by omega,i+1,ok * ((if Cf Xe18 then (1:Int) else 0)),rfl,F.to ⟨rfl,rfl,rfl,rfl,trivial⟩,M,by omega,(Jr hok hA hXe18).1,(Jr hok hA hXe18).2⟩
  intro h19;refine wk ?_;refine qD rfl ?_ ?_
  ·intro h20;refine wk ?_;refine Aa rfl rfl<|?_
   exact ⟨M.weaken dS1,by rw [Cs (by clear M;obtain ⟨h1_,h2_⟩:=hA.1 (by omega);exact ⟨h1_.1,h1_.2.1,h1_.2.2.1,h1_.2.2.2,F5 h2_ (by omega)⟩)]⟩
  intro h21;refine wk ?_;refine Aa rfl rfl<|?_
  exact ⟨M.weaken dS1,by rw [Dq (by clear M;intro h_;have:=hA.2 ⟨⟨h_.1,h_.2.1,h_.2.2.1,h_.2.2.2.1⟩,fun m s _ hs=>h_.2.2.2.2 s (List.mem_of_getElem? hs)⟩;omega)]⟩
 intro h22;refine wk ?_;intro a F;refine A3 (fun m a' w'=>∃ (i:Nat),∃ (ok:Int),m=x.marks.length - i∧Fits 43 a' [(1,.int .i64 t),(2,.pointer (some ⟨b1,0,none⟩)),(5,.int .i64 ok),(6,.int .i64 ((i:Nat):Int))]∧Mem w0 G (.blk b1 [.int .u64 ((x.key:Nat):Int),.int .u8 ((x.typ:Nat):Int),.string (str x.text),.slice ma x.marks.length mc] 26::L) w'∧(i≤x.marks.length)∧(ok=0∨ok=1)∧(ok=1↔(x.key≠0∧(x.typ:Int) < t∧Str x.text∧x.marks.length≤8)∧∀ (m:Nat) (s:List UInt8),m < i→x.marks[m]?=some s→Cf s)) _ ⟨0,(if Str x.text then (1:Int) else 0),rfl,F.to ⟨rfl,rfl,rfl,rfl,trivial⟩,M,Nat.zero_le _,(by first | omega | (split <;> omega)),⟨fun h_=>⟨(by clear F M;grind),fun m s hm=>by omega⟩,fun h_=>(by clear F M;grind)⟩⟩ ?_;clear F M;rintro m a w ⟨i,ok,rfl,F,M,hi,hok,hA⟩;revert a;refine wk ?_;refine qD rfl ?_ ?_
 ·intro h23;refine wk ?_;obtain ⟨Xe24,hXe24⟩:=Ak (xs:=x.marks) (i:=i) (by omega);obtain ⟨be24,oe24,_,Ie24,_,Ae24,⟨rfl,hsle24⟩⟩:=SM.at hXe24;refine wk ?_;refine A2 Zh rfl rfl (Dt (s:=Xe24) M (by omega))<|?_;clear M;rintro _ w M rfl
  refine Aq (fun a F=>Oz (F.ev rfl) (F.ev rfl) (B5 (by (rcases hok with rfl | rfl <;> split <;> omega)) (by (rcases hok with rfl | rfl <;> split <;> omega)))) rfl<|?_
  refine wk ?_;intro a F
  exact ⟨_,by omega,i+1,ok * ((if Cf Xe24 then (1:Int) else 0)),rfl,F.to ⟨rfl,rfl,rfl,rfl,trivial⟩,M,by omega,(Jr hok hA hXe24).1,(Jr hok hA hXe24).2⟩
 intro h25;refine wk ?_;refine qD rfl ?_ ?_
 ·intro h26;refine wk ?_;refine Aa rfl rfl<|?_
  exact ⟨M.weaken dS1,by rw [Cs (by clear M;obtain ⟨h1_,h2_⟩:=hA.1 (by omega);exact ⟨h1_.1,h1_.2.1,h1_.2.2.1,h1_.2.2.2,F5 h2_ (by omega)⟩)]⟩
 intro h27;refine wk ?_;refine Aa rfl rfl<|?_
 exact ⟨M.weaken dS1,by rw [Dq (by clear M;intro h_;have:=hA.2 ⟨⟨h_.1,h_.2.1,h_.2.2.1,h_.2.2.2.1⟩,fun m s _ hs=>h_.2.2.2.2 s (List.mem_of_getElem? hs)⟩;omega)]⟩
set_option maxHeartbeats 1600000
theorem Aeg (M:Mem w0 G L w) {x:ItemD} {max:Option Addr} {mcx:Nat} (hIx:(x.key < 18446744073709551616∧x.typ < 256∧x.text.length≤9223372036854775807)) (SMx:Ag Cb 1 G (.slice max x.marks.length mcx) x.marks) {y:ItemD} {may:Option Addr} {mcy:Nat} (hIy:(y.key < 18446744073709551616∧y.typ < 256∧y.text.length≤9223372036854775807)) (SMy:Ag Cb 1 G (.slice may y.marks.length mcy) y.marks):Calls Tryz.prog 46 #[.agg #[.int .u64 ((x.key:Nat):Int),.int .u8 ((x.typ:Nat):Int),.string (str x.text),.slice max x.marks.length mcx],.agg #[.int .u64 ((y.key:Nat):Int),.int .u8 ((y.typ:Nat):Int),.string (str y.text),.slice may y.marks.length mcy]] w (Bn w0 G L fun v=>v=.int .i64 (if x=y then (1:Int) else 0)):=by
 refine Aj (vs:=[_,_]) Tryz.func46 rfl (n:=52) rfl rfl<|?_
 refine Bo<|?_
 refine Bw M rfl rfl rfl<|?_;clear M;intro b1 w M
 refine Bw M rfl rfl rfl<|?_;clear M;intro b2 w M
 refine wk ?_;have bSM:=SMx.bound;refine wk ?_
 rcases bE (!(decide (((x.key:Nat):Int)=((y.key:Nat):Int)))) with h3b | h4b
 ·skip
  have h3:=dF (Ab h3b);have h3c:(decide (((x.key:Nat):Int)=((y.key:Nat):Int)))=false:=(Ab h3b);refine wk ?_;refine Aa rfl rfl<|?_
  exact ⟨M.weaken dS2,by rw [if_neg (fun h_=>by subst h_;clear M;grind)]⟩
 have h4:=dT (Ac h4b);have h4c:(decide (((x.key:Nat):Int)=((y.key:Nat):Int)))=true:=(Ac h4b);refine wk ?_
 rcases bE (!(decide (((x.typ:Nat):Int)=((y.typ:Nat):Int)))) with h5b | h6b
 ·skip
  have h5:=dF (Ab h5b);have h5c:(decide (((x.typ:Nat):Int)=((y.typ:Nat):Int)))=false:=(Ab h5b);refine wk ?_;refine Aa rfl rfl<|?_
  exact ⟨M.weaken dS2,by rw [if_neg (fun h_=>by subst h_;clear M;grind)]⟩
 have h6:=dT (Ac h6b);have h6c:(decide (((x.typ:Nat):Int)=((y.typ:Nat):Int)))=true:=(Ac h6b);refine wk ?_
 rcases bE (!(decide (x.text=y.text))) with h7b | h8b
 ·skip
  have h7:=dF (Ab h7b);have h7c:(decide (x.text=y.text))=false:=(Ab h7b);refine wk ?_;refine Aa rfl rfl<|?_
  exact ⟨M.weaken dS2,by rw [if_neg (fun h_=>by subst h_;clear M;grind)]⟩
 have h8:=dT (Ac h8b);have h8c:(decide (x.text=y.text))=true:=(Ac h8b);refine wk ?_;refine Ae rfl ?_ ?_
 ·intro h9b;have h9:=dF (Ab h9b);have h9c:(decide (((x.marks.length:Nat):Int)=((y.marks.length:Nat):Int)))=false:=(Ab h9b);refine wk ?_;refine Aa rfl rfl<|?_
  exact ⟨M.weaken dS2,by rw [if_neg (fun h_=>by subst h_;clear M;grind)]⟩
 intro h10b;have h10:=dT (Ac h10b);have h10c:(decide (((x.marks.length:Nat):Int)=((y.marks.length:Nat):Int)))=true:=(Ac h10b);refine wk ?_;refine fun a F=>A3 (fun m a' w'=>∃ (i:Nat),m=x.marks.length - i∧Fits 52 a' [(2,.pointer (some ⟨b1,0,none⟩)),(3,.pointer (some ⟨b2,0,none⟩)),(5,.int .i64 ((i:Nat):Int))]∧Mem w0 G (.blk b2 [.int .u64 ((y.key:Nat):Int),.int .u8 ((y.typ:Nat):Int),.string (str y.text),.slice may y.marks.length mcy] 26::.blk b1 [.int .u64 ((x.key:Nat):Int),.int .u8 ((x.typ:Nat):Int),.string (str x.text),.slice max x.marks.length mcx] 26::L) w'∧(i≤x.marks.length)∧(∀ m,m < i→x.marks[m]?=y.marks[m]?)) _ ⟨0,rfl,F.to ⟨rfl,rfl,rfl,trivial⟩,M,Nat.zero_le _,fun m h=>by omega⟩ ?_;clear F M;rintro m a w ⟨i,rfl,F,M,hi,hA⟩;revert a;refine wk ?_;refine qD rfl ?_ ?_
 ·intro h11;refine wk ?_;refine fun a F=>Dx [(true,0),(true,1),(true,2),(true,3),(true,4),(true,5),(true,6),(true,7),(true,8),(true,9),(true,10)] (Keep G [.blk b2 [.int .u64 ((y.key:Nat):Int),.int .u8 ((y.typ:Nat):Int),.string (str y.text),.slice may y.marks.length mcy] 26,.blk b1 [.int .u64 ((x.key:Nat):Int),.int .u8 ((x.typ:Nat):Int),.string (str x.text),.slice max x.marks.length mcx] 26]) rfl (by kernel_rfl) (fun c a d v w h=>by cases d <;> exact h) (Aw (M.drew _)) ?_;replace M:=M.drew (w.drawn+1);revert a;refine wk ?_;obtain ⟨Xe12,hXe12⟩:=Ak (xs:=x.marks) (i:=i) (by omega);obtain ⟨be12,oe12,_,Ie12,_,Ae12,⟨rfl,hsle12⟩⟩:=SMx.at hXe12;refine wk ?_;obtain ⟨Xe13,hXe13⟩:=Ak (xs:=y.marks) (i:=i) (by omega);obtain ⟨be13,oe13,_,Ie13,_,Ae13,⟨rfl,hsle13⟩⟩:=SMy.at hXe13;refine wk ?_
  generalize ({ w with drawn:=w.drawn+1 }:World)=w at M ⊢
  refine wk ?_;refine Ae rfl ?_ ?_
  ·intro h14b;have h14:=dF (Ab h14b);have h14c:(decide (Xe12=Xe13))=false:=(Ab h14b);refine wk ?_;refine Aa rfl rfl<|?_
   exact ⟨M.weaken dS2,by rw [if_neg (fun h_=>absurd (congrArg ItemD.marks h_) (We hXe12 hXe13 (by assumption)))]⟩
  intro h15b;have h15:=dT (Ac h15b);have h15c:(decide (Xe12=Xe13))=true:=(Ac h15b);refine wk ?_;intro a F
  exact ⟨_,by omega,i+1,rfl,F.to ⟨rfl,rfl,rfl,trivial⟩,M,by omega,Aih hA hXe12 hXe13 (by assumption)⟩
 intro h16;refine wk ?_;refine Aa rfl rfl<|?_
 exact ⟨M.weaken dS2,by rw [if_pos (Abo (by omega) (by omega) (by assumption) (Aqz hA (by omega) (by omega)))]⟩
theorem Tj (M:Mem w0 G L w) {a1:Option Addr} {c1:Nat} {xs:List ItemD} (S:Ag Bt 4 G (.slice a1 xs.length c1) xs) {k:Nat}:Calls Tryz.prog 61 #[.slice a1 xs.length c1,.int .u64 ((k:Nat):Int)] w (Bn w0 G L fun v=>∃ z:Int,v=.int .i64 z∧Kj xs k z):=by
 have bS:=S.bound;refine Aj (vs:=[_,_]) Tryz.func61 rfl (n:=20) rfl rfl<|?_
 refine wk ?_;refine fun a F=>A3 (fun m a' w'=>∃ (i:Nat),m=xs.length - i∧Fits 20 a' [(0,.slice a1 xs.length c1),(1,.int .u64 ((k:Nat):Int)),(5,.int .i64 ((i:Nat):Int))]∧Mem w0 G (L) w'∧(i≤xs.length)∧(∀ (m:Nat) (y:ItemD),m < i→xs[m]?=some y→y.key≠k)) _ ⟨0,rfl,F.to ⟨rfl,rfl,rfl,trivial⟩,M,Nat.zero_le _,fun m d h=>by omega⟩ ?_;clear F M;rintro m a w ⟨i,rfl,F,M,hi,hA⟩;revert a;refine wk ?_;refine qD rfl ?_ ?_
 ·intro h1;refine wk ?_;obtain ⟨Xe2,hXe2⟩:=Ak (xs:=xs) (i:=i) (by omega);obtain ⟨be2,oe2,_,Ie2,_,Ae2,hTe2⟩:=S.at hXe2;obtain ⟨mae2,mce2,rfl,hke2,hte2,hxe2,hne2,SMe2⟩:=hTe2;have hIe2:(Xe2.key < 18446744073709551616∧Xe2.typ < 256∧Xe2.text.length≤9223372036854775807):=⟨hke2,hte2,hxe2⟩;refine wk ?_;refine qD rfl ?_ ?_
  ·intro h3;refine wk ?_;refine Aa rfl rfl<|?_
   exact ⟨M,_,rfl,Kj.some hA hXe2 (by omega)⟩
  intro h4;refine wk ?_;intro a F
  exact ⟨_,by omega,i+1,rfl,F.to ⟨rfl,rfl,rfl,trivial⟩,M,by omega,D2 (p:=fun y:ItemD=>y.key≠k) hA hXe2 (by omega)⟩
 intro h5;refine wk ?_;refine Aa rfl rfl<|?_
 exact ⟨M,_,rfl,Kj.none hA (by omega)⟩
set_option maxHeartbeats 1600000
theorem Vm {w0 w:World} {G:Ap} {L:List Res} {b n c:Nat} {ad:Option Addr} (M:Mem w0 G (.blk b [.pointer none,.slice ad n c] 101::L) w) :
  Calls Tryz.prog 96 #[.pointer (some ⟨b,0,none⟩)] w (Bn w0 G (.blk b [.pointer (some ⟨b,0,none⟩),.slice ad n c] 101::L) fun v=>v=.tuple #[]):=by
 refine Aj (vs:=[_]) Tryz.func96 rfl (n:=20) rfl rfl<|?_
 refine wk ?_;refine Aq (fun a F=>Vy So.k (F.ev rfl) (F.ev rfl)) rfl<|?_
 refine wk ?_;refine Aq (fun a F=>X3 M (k:=0) rfl (by simp) So.k (by kernel_rfl) P1 (by decide) (F.ev rfl)) rfl<|Aq (fun a F=>run_noEscape Tryz.func142 (by kernel_rfl) (by kernel_rfl) (by kernel_rfl) (by kernel_rfl) (F.ev rfl) (F.ev (x:=.func 142) rfl)) rfl<|Aq (fun a F=>S7 M (k:=0) rfl (by kernel_rfl) So.k P1 (by kernel_rfl) (F.ev rfl)) rfl<|?_
 refine wk ?_;refine Dz So M 0 rfl rfl rfl rfl rfl rfl<|?_;clear M;intro w M
 refine Ao<|?_
 refine fun a F=>Aqv F rfl ?_
 exact ⟨M,rfl⟩
theorem Vl {w0 w:World} {G:Ap} {L:List Res} {b n c:Nat} {ad:Option Addr} (M:Mem w0 G (.blk b [.pointer (some ⟨b,0,none⟩),.slice ad n c] 101::L) w) :
  Calls Tryz.prog 96 #[.pointer (some ⟨b,0,none⟩)] w (Bn w0 G (.blk b [.pointer (some ⟨b,0,none⟩),.slice ad n c] 101::L) fun v=>v=.tuple #[]):=by
 refine Aj (vs:=[_]) Tryz.func96 rfl (n:=20) rfl rfl<|?_
 refine wk ?_;refine Aq (fun a F=>Vy So.k (F.ev rfl) (F.ev rfl)) rfl<|?_
 refine wk ?_;refine Aq (fun a F=>S4 So.k P1 (F.ev rfl) (F.ev rfl)) rfl<|?_
 refine wk ?_;refine fun a F=>Aqv F rfl ?_
 exact ⟨M,rfl⟩
theorem Uu {w0 w:World} {G:Ap} {L:List Res} {b n c:Nat} {ad:Option Addr} {p:Value} (hp:p=.pointer none∨p=.pointer (some ⟨b,0,none⟩)) (M:Mem w0 G (.blk b [p,.slice ad n c] 101::L) w) :
  Calls Tryz.prog 96 #[.pointer (some ⟨b,0,none⟩)] w (Bn w0 G (.blk b [.pointer (some ⟨b,0,none⟩),.slice ad n c] 101::L) fun v=>v=.tuple #[]):=by
 rcases hp with rfl | rfl
 ·exact Vm M
 exact Vl M
theorem Ml {w0 w:World} {G:Ap} {L:List Res} {b n c:Nat} {ad:Option Addr} {l:List UInt8} {p:Value} {s:List UInt8} (hp:p=.pointer none∨p=.pointer (some ⟨b,0,none⟩)) (M:Mem w0 G (.blk b [p,.slice ad n c] 101::.row (.slice ad n c) n (bc l) 5 1::L) w) (hn:n=l.length) (hnil:l=[]→ad=none) (hlen:l.length+s.length≤140737488355328) :
  Calls Tryz.prog 41 #[.pointer (some ⟨b,0,none⟩),.string (str s)] w (J8 w0 G fun L' v=>v=.tuple #[.int .i64 (s.length:Nat),.nilIface]∧∃ a' n' c',L' = (.blk b [.pointer (some ⟨b,0,none⟩),.slice a' n' c'] 101::.row (.slice a' n' c') n' (bc (l++s)) 5 1::L)∧n' = (l++s).length∧(l++s=[]→a' = none)):=by
 have hrow:ad.isNone=true→ad=none∧n=0∧c=0∧_:=fun h=>M.row_none (k:=1) rfl h;refine Aj (vs:=[_,_]) Tryz.func41 rfl (n:=19) rfl rfl<|?_
 refine wk ?_;replace M:=z_M M;refine A2 ent96 rfl rfl (Uu hp M)<|?_;clear M;rintro _ w M rfl
 refine wk ?_;intro a F;refine Ye F M (k:=1) rfl K9.k Dg.k E6 rfl rfl rfl rfl rfl (by omega) rfl ?_;clear F M a;intro v1 w a M hwv1 F;obtain ⟨av1,cv1,rfl,hlev1,hcmv1,hlv1⟩:=M.row_shape (k:=1) rfl;rw [← Alv] at M;revert a;refine wk ?_;refine Dz K9 M 0 rfl rfl rfl rfl rfl rfl<|?_;clear M;intro w M
 refine wk ?_;refine C5 rfl rfl rfl<|?_
 replace M:=M.perm (Af _ 1 _ rfl);replace M:=M.perm (Af _ 1 _ rfl);replace M:=z_M M
 exact ⟨_,M,rfl,_,_,_,rfl,by rw [List.length_append,hn],fun h=>by obtain ⟨h1,h2⟩:=List.append_eq_nil_iff.1 h;have h3:=hnil h1;subst h3;obtain ⟨_,h4,h5,_⟩:=hrow rfl;subst h4 h5;have h6:=hwv1.2 ⟨rfl,h2⟩;simp only [Value.slice.injEq] at h6;exact h6.1⟩
theorem Alt {w0 w:World} {G:Ap} {L:List Res} {b c gb:Nat} {p:Value} {l:List UInt8} (M:Mem w0 G (.blk b [p,.slice none 0 0] 101::.row (.slice none 0 0) 0 (bc []) 5 1::L) w) :
  Calls Tryz.prog 43 #[.pointer (some ⟨b,0,none⟩)] w (Bn w0 G L fun v=>v=.string (str [])):=by
 refine Aj (vs:=[_]) Tryz.func43 rfl (n:=14) rfl rfl<|?_
 refine wk ?_;refine fun a F=>Dx [(true,0),(true,1),(true,2),(true,3),(true,5),(true,6),(true,7),(true,8),(true,9),(false,4),(false,10),(true,11)] (Keep G [.blk b [p,.slice none 0 0] 101]) rfl (by kernel_rfl) (fun c a d v w h=>by cases d <;> exact h) (Aw (M.drew _)) ?_;replace M:=M.drew (w.drawn+1);revert a;refine wk ?_;refine l_a rfl<|Aq (fun a F=>S1 (F.ev rfl)) rfl<|?_
 refine Ao<|?_
 refine eQ (Aw M)<|l_a rfl<|Aq (fun a F=>Sz (F.ev rfl) (F.ev rfl)) rfl<|?_
 refine Ao<|?_
 refine eQ (Aw M)<|?_
 refine wk ?_;refine Aa rfl rfl<|?_
 exact ⟨M.weaken dS2,rfl⟩
theorem Als {w0 w:World} {G:Ap} {L:List Res} {b c gb:Nat} {p:Value} {l:List UInt8} (M:Mem w0 G (.blk b [p,.slice (some ⟨gb,0,none⟩) (l.length) c] 101::.row (.slice (some ⟨gb,0,none⟩) (l.length) c) (l.length) (bc l) 5 1::L) w) (h0:l≠[]) (hc:l.length≤c) :
  Calls Tryz.prog 43 #[.pointer (some ⟨b,0,none⟩)] w (Bn w0 G L fun v=>v=.string (str l)):=by
 have h0':0 < l.length:=List.length_pos_iff.2 h0;refine Aj (vs:=[_]) Tryz.func43 rfl (n:=14) rfl rfl<|?_
 refine wk ?_;refine fun a F=>Dx [(true,0),(true,1),(true,2),(true,3),(true,5),(true,6),(true,7),(true,8),(true,9),(false,4),(false,10),(true,11)] (Keep G [.blk b [p,.slice (some ⟨gb,0,none⟩) (l.length) (c)] 101]) rfl (by kernel_rfl) (fun c a d v w h=>by cases d <;> exact h) (Aw (M.drew _)) ?_;replace M:=M.drew (w.drawn+1);revert a;refine wk ?_;refine l_a rfl<|Aq (fun a F=>U7 (F.ev rfl) (by omega)) rfl<|?_
 refine Ao<|?_
 refine eQ (Aw M)<|l_a rfl<|fun a F=>?_
 refine Yc F M (k:=1) rfl Amn.k E6 rfl h0 rfl rfl rfl ?_;clear F M a;intro w a M F;revert a;refine Ao<|?_
 refine eQ (Aw M)<|?_
 refine wk ?_;refine Aa rfl rfl<|?_
 exact ⟨M.weaken dS1,rfl⟩
theorem Xf {w0 w:World} {G:Ap} {L:List Res} {b n c:Nat} {ad:Option Addr} {l:List UInt8} {p:Value} (M:Mem w0 G (.blk b [p,.slice ad n c] 101::.row (.slice ad n c) n (bc l) 5 1::L) w) (hn:n=l.length) (hnil:l=[]→ad=none) :
  Calls Tryz.prog 43 #[.pointer (some ⟨b,0,none⟩)] w (Bn w0 G L fun v=>v=.string (str l)):=by
 subst hn
 by_cases h0:l=[]
 ·have h1:=hnil h0;subst h1 h0;obtain ⟨_,_,h4,_⟩:=M.row_none (k:=1) rfl rfl;subst h4
  exact Alt (gb:=0) (c:=0) (l:=[]) M
 have h0':0 < l.length:=List.length_pos_iff.2 h0;obtain ⟨gb,h1⟩:=M.row_some (k:=1) rfl h0';subst h1;obtain ⟨_,_,he,hle,_⟩:=M.row_shape (k:=1) rfl;simp only [Value.slice.injEq] at he
 exact Als M h0 (by omega)
set_option maxHeartbeats 1600000
theorem Mh (M:Mem w0 G L w) (HG:Globs 0 1 2 3 G) {s sep:List UInt8} (hs:s.length < 4294967281) :
  Calls Tryz.prog 100 #[.string (str s),.string (str sep)] w (Bn w0 G L fun v=>v=.tuple #[.string (str (Lib.cut s sep).1),.string (str (Lib.cut s sep).2.1),.bool (Lib.cut s sep).2.2]):=by
 obtain ⟨m,hm⟩:=HG.max;refine (Any.strings_Cut Tryz.lays145 (str s) (str sep) m w (by rw [Bu];exact hs) (M.cell hm)).mono ?_;rintro e w' ⟨rfl,n,rfl⟩;rw [Dy,Dy]
 exact ⟨M.drewN n,rfl⟩
theorem Aew (M:Mem w0 G L w) (HG:Globs 0 1 2 3 G) {s:List UInt8} (hs:s.length≤281474976710656) :
  Calls Tryz.prog 101 #[.string (str s),.int .i64 10,.int .i64 64] w (Bn w0 G L fun v=>∃ (u:Nat) (er:Value),v=.tuple #[.int .u64 (u:Int),er]∧u≤18446744073709551615∧(er=.nilIface∨∃ te pe,er=.iface te pe) ∧
   ((Lib.parseUintB 64 s=.ok u∧Da er=true)∨((∀ x,Lib.parseUintB 64 s≠.ok x)∧Da er=false))):=by
 have hd:(str s).data.toList=s:=Dy s
 cases h:Lib.parseUintB 64 s with
 | ok u =>
  refine (Any.strconv_ParseUint_10_at64_ok Tryz.laysPu14 (str s) (by rw [Bu];omega) u (by rw [hd];exact h) w).mono ?_;rintro e w' ⟨rfl,hw⟩;refine ⟨?_,u,_,rfl,pu64_le h,Or.inl rfl,Or.inl ⟨rfl,rfl⟩⟩
  rcases hw with rfl | rfl
  ·exact M
  ·exact M.bytesWorld _ _
 | range =>
  obtain ⟨ev,h1,h2⟩:=HG.rng;refine (Any.strconv_ParseUint_10_at64_range Tryz.laysPu14 (str s) (by rw [Bu];omega) (by rw [hd];exact h) ev w (M.cell h1) h2).mono ?_;rintro e w' ⟨N,rfl,_,_,hb⟩
  exact ⟨M.below' hb,18446744073709551615,_,rfl,by omega,Or.inr ⟨_,_,rfl⟩,Or.inr ⟨(fun x hx=>by cases hx),rfl⟩⟩
 | _ =>
  obtain ⟨ev,h1,h2⟩:=HG.syn;refine (Any.strconv_ParseUint_10_at64_syntax Tryz.laysPu14 (str s) (by rw [Bu];omega) (by rw [hd];exact h) ev w (M.cell h1) h2).mono ?_;rintro e w' ⟨N,rfl,_,_,hb⟩
  exact ⟨M.below' hb,0,_,rfl,by omega,Or.inr ⟨_,_,rfl⟩,Or.inr ⟨(fun x hx=>by cases hx),rfl⟩⟩
theorem Abv (M:Mem w0 G L w) (HG:Globs 0 1 2 3 G) {n:Int} (hn:Al .i64 n) :
  Calls Tryz.prog 166 #[.int .i64 n,.int .i64 10] w (Bn w0 G L fun v=>v=.string (str (Lib.itoa n))):=by
 refine (Any.internal_strconv_FormatInt_10 Tryz.laysM246 n hn.1 hn.2 w (HG.tabIs M (by kernel_rfl))).mono ?_;rintro e w' ⟨rfl,k,os,rfl⟩
 exact ⟨(M.drewN k).grew os,rfl⟩
theorem Ady (M:Mem w0 G L w) {i:Nat} (h:i < 100):Calls Tryz.prog 170 #[.int .i64 (i:Int)] w (Bn w0 G L fun v=>v=.string (str (Lib.decDigits i))):=by
 refine (Any.internal_strconv_small Tryz.lays283 i h w).mono ?_;rintro e w' ⟨rfl,rfl⟩
 exact ⟨M,rfl⟩
theorem Akk (M:Mem w0 G L w) (HG:Globs 0 1 2 3 G) {u:Nat} (h1:1≤u) (h2:u < 18446744073709551616):Calls Tryz.prog 171 #[.int .u64 (u:Int)] w (Bn w0 G L fun v=>v=.int .i64 ((Lib.nDigits u:Nat):Int)):=by
 refine (Any.internal_strconv_numDigits Tryz.laysM284 u h1 h2 w (HG.tabIs M (by kernel_rfl))).mono ?_;rintro e w' ⟨rfl,rfl⟩
 exact ⟨M,rfl⟩
theorem Ale {w0 w:World} {G:Ap} {L:List Res} {b u c:Nat} {l:List UInt8} (M:Mem w0 G (.blk b (bc l) 244::L) w) (hl:l.length=24) (hnd:Lib.nDigits u≤24) (h2:u < 18446744073709551616) :
  Calls Tryz.prog 172 #[.slice (some ⟨b,0,none⟩) (Lib.nDigits u) c,.int .u64 (u:Int)] w (J8 w0 G fun L' v=>v=.tuple #[]∧∃ r,L' = (.blk b (bc (Lib.decDigits u++r)) 244::L)):=by
 have hH:=M.holdsB (k:=0) rfl (Lib.nDigits u) (by omega);have hs:(l.take (Lib.nDigits u)).toArray.size=Lib.nDigits u:=by simp;omega
 have:=Any.internal_strconv_formatBase10 Tryz.lays285 b 0 c u (l.take (Lib.nDigits u)).toArray w hH (by rw [hs];exact Lib.lt_pow_nDigits u) h2 (by rw [hs];omega);rw [hs] at this;refine this.mono ?_;rintro e w' ⟨rfl,n,v',dk,rfl,hF⟩;have hd:=Afm hF;have M':=M.putRowB (k:=0) rfl dk (by rw [hF.size];omega) n;rw [hd] at M'
 exact ⟨_,M',rfl,_,rfl⟩
theorem Aqp (M:Mem w0 G L w) (HG:Globs 0 1 2 3 G) {u:Nat} (hu:u < 18446744073709551616) :
  Calls Tryz.prog 144 #[.int .u64 (u:Int),.int .i64 10] w (Bn w0 G L fun v=>v=.string (str (Lib.decDigits u))):=by
 refine Aj (vs:=[_,_]) Tryz.func144 rfl (n:=32) rfl rfl<|?_
 refine wk ?_;refine qD rfl ?_ ?_
 ·intro h1;refine wk ?_;refine Aq (fun a F=>B2 Cw.k ⟨_,by rw [B9 Ii.k]⟩ (F.ev rfl) (B5 (by omega) (by omega))) rfl<|A2 ent170 rfl rfl (Ady (i:=u) M (by omega))<|?_;clear M;rintro _ w M rfl
  refine wk ?_;refine Aa rfl rfl<|?_
  exact ⟨M.weaken (sR _),rfl⟩
 intro h2;refine wk ?_;refine Bv M Xv rfl rfl<|?_;clear M;intro b3 w M
 refine wk ?_;replace M:=z_M M;change Mem w0 G (.blk b3 (bc (List.replicate 24 0)) 244::L) w at M;refine wk ?_;refine A2 ent171 rfl rfl (Akk (u:=u) M HG (by omega) (by omega))<|?_;clear M;rintro _ w M rfl
 refine wk ?_;have hnd:Lib.nDigits u≤20:=by have h1:=Lib.numDigits_eq u (by omega) hu;split at h1 <;> omega
 refine wk ?_;refine Aq (fun a F=>Ox (h:=Lib.nDigits u) Xv.k E6 (F.ev rfl) (F.ev rfl) (by omega) (by omega)) rfl<|?_
 refine Cl rfl<|?_
 replace M:=z_M M;refine P4 ent172 rfl rfl (Ale (u:=u) (l:=List.replicate 24 0) M (by simp) (by omega) (by omega))<|?_;clear M;rintro _ _ w M ⟨rfl,rr,rfl⟩
 refine wk ?_;refine Aq (fun a F=>Ox (h:=Lib.nDigits u) Xv.k E6 (F.ev rfl) (F.ev rfl) (by omega) (by omega)) rfl<|Aq (fun a F=>X5 M (k:=0) rfl K9.k E6.k Dg.k (F.ev rfl) (by rw [List.length_append,Lib.decDigits_length];omega)) rfl<|fun a F=>?_
 rw [show (Lib.decDigits u++rr).take (Lib.nDigits u)=Lib.decDigits u by rw [← Lib.decDigits_length,List.take_left]] at F;revert a;refine wk ?_;refine Aa rfl rfl<|?_
 exact ⟨M.weaken dS1,rfl⟩
theorem Aib (M:Mem w0 G L w) (HG:Globs 0 1 2 3 G) {u:Nat} (hu:u < 18446744073709551616) :
  Calls Tryz.prog 98 #[.int .u64 (u:Int),.int .i64 10] w (Bn w0 G L fun v=>v=.string (str (Lib.decDigits u))):=by
 refine Aj (vs:=[_,_]) Tryz.func98 rfl (n:=8) rfl rfl<|?_
 refine wk ?_;refine A2 ent144 rfl rfl (Aqp (u:=u) M HG (by omega))<|?_;clear M;rintro _ w M rfl
 refine wk ?_;refine Aa rfl rfl<|?_
 exact ⟨M,rfl⟩
set_option maxHeartbeats 1600000
theorem itoa_nn {n:Int} (h:0≤n):Lib.itoa n=Lib.decDigits n.toNat:=by unfold Lib.itoa;rw [if_neg (by omega)]
theorem W9:∀ k:Nat,k < 10→(([48,49,50,51,52,53,54,55,56,57]:List UInt8).take (k+1)).drop k=[UInt8.ofNat (48+k)]:=by decide
theorem Qw {k:Nat} (h:k < 10):Lib.decDigits k=[UInt8.ofNat (48+k)]:=by
 rw [G3,if_pos (by omega),Nat.mod_eq_of_lt h];rfl
theorem pub8_le {s:List UInt8} {u:Nat} (h:Lib.parseUintB 8 s=.ok u):u≤255:=by
 have key:∀ (l:List UInt8) (acc:Nat),acc≤255→Lib.parseUintM (2 ^ 8 - 1) acc l=.ok u→u≤255:=by
  intro l
  induction l with
  | nil=>intro acc h1 h2;simp only [Lib.parseUintM,Lib.NumEnd.ok.injEq] at h2;omega
  | cons c r ih =>
   intro acc h1 h2;unfold Lib.parseUintM at h2
   split at h2
   ·split at h2
    ·cases h2
    ·split at h2
     ·cases h2
     ·exact ih _ (by omega) h2
   ·cases h2
 unfold Lib.parseUintB at h
 split at h
 ·cases h
 ·exact key s 0 (by omega) h
theorem Afj (M:Mem w0 G L w) (HG:Globs 0 1 2 3 G) {u:Nat} (hu:u < 9223372036854775808):Calls Tryz.prog 133 #[.int .i64 ((u:Nat):Int)] w (Bn w0 G L fun v=>v=.string (str (Lib.decDigits u))):=by
 refine Aj (vs:=[_]) Tryz.func133 rfl (n:=5) rfl rfl<|?_
 refine wk ?_;refine A2 Art rfl rfl (Abv (n:=((u:Nat):Int)) M HG (by first | assumption | exact ⟨by decide,by decide⟩ | exact wrap_ink _ _ | exact B5 (by omega) (by omega)))<|?_;clear M;rintro _ w M rfl
 refine wk ?_;refine Aa rfl rfl<|?_
 exact ⟨M,by rw [itoa_nn (by omega),Int.toNat_natCast]⟩
theorem Wt (M:Mem w0 G L w) (HG:Globs 0 1 2 3 G) {u:Nat} (hu:u < 9223372036854775808):Calls Tryz.prog 83 #[.int .i64 ((u:Nat):Int)] w (Bn w0 G L fun v=>v=.string (str (Lib.decDigits u))):=by
 refine Aj (vs:=[_]) Tryz.func83 rfl (n:=5) rfl rfl<|?_
 refine wk ?_;refine A2 Aua rfl rfl (Afj (u:=u) M HG (by omega))<|?_;clear M;rintro _ w M rfl
 refine wk ?_;refine Aa rfl rfl<|?_
 exact ⟨M,rfl⟩
theorem Akd (M:Mem w0 G L w) (HG:Globs 0 1 2 3 G) {s:List UInt8} (hs:s.length≤281474976710656) :
  Calls Tryz.prog 101 #[.string (str s),.int .i64 10,.int .i64 64] w (Bn w0 G L fun v=>∃ (u:Nat) (er:Value),v=.tuple #[.int .u64 (u:Int),er]∧(er=.nilIface∨∃ te pe,er=.iface te pe)∧Avg 18446744073709551616 s u (Da er)):=by
 refine (Aew M HG hs).mono ?_;rintro e w' h
 cases e with
 | returned v =>
  obtain ⟨M',u,er,h1,h2,h3,h4⟩:=h;refine ⟨M',u,er,h1,h3,by omega,fun m hm he=>?_⟩;subst he;have h5:=Yn (B:=64) (by decide) (u:=m) hm
  rcases h4 with ⟨h6,h7⟩ | ⟨h6,_⟩
  ·rw [h5] at h6;simp only [Lib.NumEnd.ok.injEq] at h6;exact ⟨h7,h6.symm⟩
  ·exact absurd h5 (h6 m)
 | panicked c=>exact h.elim
 | outgrown=>exact h.elim
theorem Aou (M:Mem w0 G L w) (HG:Globs 0 1 2 3 G) {s:List UInt8} (hs:s.length≤281474976710656) :
  Calls Tryz.prog 101 #[.string (str s),.int .i64 10,.int .i64 8] w (Bn w0 G L fun v=>∃ (u:Nat) (er:Value),v=.tuple #[.int .u64 (u:Int),er]∧(er=.nilIface∨∃ te pe,er=.iface te pe)∧Avg 256 s u (Da er)):=by
 have hd:(str s).data.toList=s:=Dy s;have no:∀ {b:Bool} {u:Nat},u < 256→(∀ m,m < 256→Lib.parseUintB 8 s≠.ok m)→Avg 256 s u b:=fun hu h=>⟨hu,fun m hm he=>absurd (by rw [he];exact Yn (B:=8) (by decide) hm) (h m hm)⟩
 cases h:Lib.parseUintB 8 s with
 | ok u =>
  refine (Any.strconv_ParseUint_10_at8_ok Tryz.laysPu14 (str s) (by rw [Bu];omega) u (by rw [hd];exact h) w).mono ?_;rintro e w' ⟨rfl,hw⟩;refine ⟨?_,u,_,rfl,Or.inl rfl,by have:=pub8_le h;omega,fun m hm he=>?_⟩
  ·rcases hw with rfl | rfl
   ·exact M
   ·exact M.bytesWorld _ _
  ·subst he;rw [Yn (B:=8) (by decide) hm] at h;simp only [Lib.NumEnd.ok.injEq] at h
   exact ⟨rfl,h.symm⟩
 | range =>
  obtain ⟨ev,h1,h2⟩:=HG.rng;refine (Any.strconv_ParseUint_10_at8_range Tryz.laysPu14 (str s) (by rw [Bu];omega) (by rw [hd];exact h) ev w (M.cell h1) h2).mono ?_;rintro e w' ⟨N,rfl,_,_,hb⟩
  exact ⟨M.below' hb,255,_,rfl,Or.inr ⟨_,_,rfl⟩,no (by omega) (fun m _ hx=>by rw [h] at hx;cases hx)⟩
 | _ =>
  obtain ⟨ev,h1,h2⟩:=HG.syn;refine (Any.strconv_ParseUint_10_at8_syntax Tryz.laysPu14 (str s) (by rw [Bu];omega) (by rw [hd];exact h) ev w (M.cell h1) h2).mono ?_;rintro e w' ⟨N,rfl,_,_,hb⟩
  exact ⟨M.below' hb,0,_,rfl,Or.inr ⟨_,_,rfl⟩,no (by omega) (fun m _ hx=>by rw [h] at hx;cases hx)⟩
theorem Aky (M:Mem w0 G L w) {ad:Option Addr} {cd:Nat} {xs:List (List UInt8)} (S:Ag Cb 1 G (.slice ad xs.length cd) xs) (hN:xs.length≤140737488355328) (hlen:(Lib.join xs [44]).length≤140737488355328) :
  Calls Tryz.prog 97 #[.slice ad xs.length cd,.string (str [44])] w (Bn w0 G L fun v=>v=.string (str (Lib.join xs [44]))):=by
 by_cases h0:xs=[]
 ·subst h0;refine (Any.strings_Join_none Tryz.lays156 Tryz.Builder_Extra_156 ad cd (str [44]) w).mono ?_;rintro e w' ⟨rfl,rfl⟩
  exact ⟨M,rfl⟩
 ·obtain ⟨x0,hx0⟩:=Ak (xs:=xs) (i:=0) (List.length_pos_iff.2 h0);obtain ⟨b,o,_,rfl,_,_,_,_⟩:=S.index hx0;obtain ⟨_,_,he,hcap,_⟩:=S.shape;simp only [Value.slice.injEq] at he;obtain ⟨_,_,rfl⟩:=he;have hcell:∀ (j:Nat) (x:List UInt8),xs[j]?=some x→w.cell? ⟨b,o+j,none⟩=some (.string (str x)):=by
   intro j x hx;obtain ⟨b',o',cs,h1,_,_,hA,hr,_⟩:=S.index hx;simp only [Option.some.injEq,Addr.mk.injEq,and_true] at h1;obtain ⟨rfl,rfl⟩:=h1;subst hr;have:=hA 0 _ rfl;rw [Nat.mul_one,Nat.add_zero] at this
   exact M.cell this
  have hm:(xs.map str).map (·.data.toList)=xs:=by
   rw [List.map_map]
   conv=>rhs;rw [← List.map_id xs]
   exact List.map_congr_left fun x _=>Dy x
  have:=Any.strings_Join Tryz.lays156 Tryz.Builder_Extra_156 b o cd (xs.map str) (str [44]) w (by
   intro j x hx;rw [List.getElem?_map] at hx
   cases hq:xs[j]? with
   | none=>rw [hq] at hx;cases hx
   | some y=>rw [hq] at hx;simp only [Option.map_some,Option.some.injEq] at hx;subst hx;exact hcell j y hq)
   (World.block_lt_of_cell? _ _ (hcell 0 x0 hx0)) (by rw [List.length_map];exact hN) (by rw [List.length_map];exact hcap) (by rw [hm,Dy];exact hlen)
  rw [List.length_map,hm,Dy] at this;refine this.mono ?_;rintro e w' ⟨rfl,hb⟩
  exact ⟨M.below' hb,rfl⟩
theorem H4 {G:Ap}:∀ (xs:List (List UInt8)),(∀ x∈xs,x.length≤9223372036854775807)→Els Cb 1 G (xs.map fun x=>Value.string (str x)) xs
 | [],_=>rfl
 | x::xs,h=>⟨[.string (str x)],_,rfl,rfl,⟨rfl,h x (by simp)⟩,H4 xs (fun y hy=>h y (by simp [hy]))⟩
theorem Z4 (s:List UInt8):(Lib.splitB (str [44]) 0 (Lib.countB (str s) (str [44])) (str s)).map Value.string=(Br s).map (fun x=>Value.string (str x)):=by
 have h:=Lib.splitB_data (str [44]) 0 (Lib.countB (str s) (str [44])) (str s);rw [Dy,Dy] at h;have h2:Lib.countB (str s) (str [44])=Lib.count s [44]:=by
  show Lib.count (str s).data.toList (str [44]).data.toList=_
  rw [Dy,Dy]
 rw [h2] at h ⊢
 show _=(Lib.splitK [44] 0 (Lib.count s [44]) s).map _
 rw [← h,List.map_map]
 exact List.map_congr_left fun x _=>rfl
theorem Adv (M:Mem w0 G L w) (HG:Globs 0 1 2 3 G) {s:List UInt8} (hs:s.length < 4294967281) :
  Calls Tryz.prog 102 #[.string (str s),.string (str [44])] w (Ret w0 G L fun G' v=>∃ a:Option Addr,v=.slice a (Br s).length (Br s).length∧Ag Cb 1 G' (.slice a (Br s).length (Br s).length) (Br s)):=by
 obtain ⟨m,hm⟩:=HG.max;refine (Any.strings_Split Tryz.lays146 (by kernel_rfl) (str s) (str [44]) m w (by rw [Bu];exact hs) (M.cell hm) (by rw [Bu];decide)).mono ?_;rintro e w' ⟨rfl,rfl⟩;have hl:(Br s).length=Lib.countB (str s) (str [44])+1:=by
  have h1:=Lib.splitB_all (str [44]) (by rw [Bu];decide) 0 _ (str s) rfl;rw [← h1,← List.length_map (f:=Value.string),Z4,List.length_map]
 rw [Z4,← hl];have hcb:=Lib.countB_le (str [44]) (by rw [Bu];decide) (str s).size (str s) (Nat.le_refl _);rw [Bu] at hcb;have hle:(Br s).length≤4294967281:=by omega
 have M1:=M.newrow (t:=Tryz.lays146_ren.t 9) (sz:=1) (n:=(Br s).length) (c:=(Br s).length) (cs:=(Br s).map fun x=>Value.string (str x)) (spare:=[])
  (by intro u hu;obtain ⟨x,_,rfl⟩:=List.mem_map.1 hu;rfl) (by simp) (by simp) (Nat.le_refl _) (by unfold maxLen;omega)
 rw [List.append_nil] at M1;obtain ⟨_,G',a,c,hG,he,S,M2⟩:=M1.freeze_row Ax (k:=0) rfl (H4 (Br s) (fun x hx=>by have:=Adx hx;omega)) (by decide)
 exact ⟨G',hG,M2,_,rfl,S⟩
set_option maxHeartbeats 1600000
theorem Qh (M:Mem w0 G L w) (HG:Globs 0 1 2 3 G) {x:ItemD} {ma:Option Addr} {mc:Nat} (hI:(x.key < 18446744073709551616∧x.typ < 256∧x.text.length≤9223372036854775807)) (SM:Ag Cb 1 G (.slice ma x.marks.length mc) x.marks) (hok:ItemOk 8 x):Calls Tryz.prog 42 #[.agg #[.int .u64 ((x.key:Nat):Int),.int .u8 ((x.typ:Nat):Int),.string (str x.text),.slice ma x.marks.length mc]] w (Bn w0 G L fun v=>v=.string (str (Df x))):=by
 obtain ⟨hI1,hI2,hI3⟩:=id hI;have hm8:=hok.2.2.2.1;have hj:=T9 hm8 hok.2.2.2.2;have htx:=hok.2.2.1.1;have hdk:=C9 x.key hI1;have hdt:=C9 x.typ (by omega);refine Aj (vs:=[_]) Tryz.func42 rfl (n:=25) rfl rfl<|?_
 refine Bo<|?_
 refine Bw M rfl rfl rfl<|?_;clear M;intro b1 w M
 refine wk ?_;refine A2 ent97 rfl rfl (Aky (xs:=x.marks) M SM (by omega) (by omega))<|?_;clear M;rintro _ w M rfl
 refine wk ?_;refine qD rfl ?_ ?_
 ·intro h2;refine wk ?_;refine fun a F=>D4 [(.free,0),(.pure,1),(.free,4),(.pure,5),(.free,6),(.free,10),(.free,13),(.pure,14),(.keep,2),(.free,3),(.keep,7),(.free,8),(.free,9),(.free,11),(.free,12),(.free,15),(.free,16)] [] (Keep G [.blk b1 [.int .u64 ((x.key:Nat):Int),.int .u8 ((x.typ:Nat):Int),.string (str x.text),.slice ma x.marks.length mc] 26]) rfl (by kernel_rfl) (fun c a d v w h=>by cases d <;> exact h) (Aw (M.drew _)) ?_;replace M:=M.drew (w.drawn+1);revert a;refine wk ?_;refine k_f (fun a F w _=>B2 Cw.k ⟨_,by rw [B9 E6.k]⟩ (F.ev rfl) (B5 (by omega) (by omega))) rfl<|?_
  refine wk ?_;refine k_k rfl<|A2 ent98 rfl rfl (Aib (u:=x.key) M HG (by omega))<|?_;clear M;rintro _ w M rfl
  refine Ao<|?_
  refine eQ (Aw M)<|k_f (fun a F w _=>Cy (F.ev rfl) (F.ev rfl) (by (first | omega | (simp only [List.length_append,List.length_cons,List.length_nil];omega)))) rfl<|k_k rfl<|A2 Aii rfl rfl (Wt (u:=x.typ) M HG (by omega))<|?_;clear M;rintro _ w M rfl
  refine Ao<|?_
  refine eQ (Aw M)<|k_f (fun a F w _=>Cy (F.ev rfl) (F.ev rfl) (by (first | omega | (simp only [List.length_append,List.length_cons,List.length_nil];omega)))) rfl<|k_f (fun a F w _=>Cy (F.ev rfl) (F.ev rfl) (by (first | omega | (simp only [List.length_append,List.length_cons,List.length_nil];omega)))) rfl<|k_f (fun a F w _=>Cy (F.ev rfl) (F.ev rfl) (by (first | omega | (simp only [List.length_append,List.length_cons,List.length_nil];omega)))) rfl<|k_f (fun a F w _=>Cy (F.ev rfl) (F.ev rfl) (by (first | omega | (simp only [List.length_append,List.length_cons,List.length_nil];omega)))) rfl<|k_f (fun a F w _=>Cy (F.ev rfl) (F.ev rfl) (by (first | omega | (simp only [List.length_append,List.length_cons,List.length_nil];omega)))) rfl<|?_
  refine wk ?_;refine Aa rfl rfl<|?_
  exact ⟨M.weaken dS1,by first | rw [Wo (by assumption)] | rw [Wp (by assumption) hok]⟩
 intro h3;refine wk ?_;refine fun a F=>D4 [(.free,0),(.pure,1),(.free,4),(.pure,5),(.free,6),(.free,10),(.free,13),(.pure,14),(.keep,2),(.free,3),(.keep,7),(.free,8),(.free,9),(.free,11),(.free,12),(.free,15),(.free,16)] [] (Keep G [.blk b1 [.int .u64 ((x.key:Nat):Int),.int .u8 ((x.typ:Nat):Int),.string (str x.text),.slice ma x.marks.length mc] 26]) rfl (by kernel_rfl) (fun c a d v w h=>by cases d <;> exact h) (Aw (M.drew _)) ?_;replace M:=M.drew (w.drawn+1);revert a;refine wk ?_;refine k_f (fun a F w _=>B2 Cw.k ⟨_,by rw [B9 E6.k]⟩ (F.ev rfl) (B5 (by omega) (by omega))) rfl<|?_
 refine wk ?_;refine k_k rfl<|A2 ent98 rfl rfl (Aib (u:=x.key) M HG (by omega))<|?_;clear M;rintro _ w M rfl
 refine Ao<|?_
 refine eQ (Aw M)<|k_f (fun a F w _=>Cy (F.ev rfl) (F.ev rfl) (by (first | omega | (simp only [List.length_append,List.length_cons,List.length_nil];omega)))) rfl<|k_k rfl<|A2 Aii rfl rfl (Wt (u:=x.typ) M HG (by omega))<|?_;clear M;rintro _ w M rfl
 refine Ao<|?_
 refine eQ (Aw M)<|k_f (fun a F w _=>Cy (F.ev rfl) (F.ev rfl) (by (first | omega | (simp only [List.length_append,List.length_cons,List.length_nil];omega)))) rfl<|k_f (fun a F w _=>Cy (F.ev rfl) (F.ev rfl) (by (first | omega | (simp only [List.length_append,List.length_cons,List.length_nil];omega)))) rfl<|k_f (fun a F w _=>Cy (F.ev rfl) (F.ev rfl) (by (first | omega | (simp only [List.length_append,List.length_cons,List.length_nil];omega)))) rfl<|k_f (fun a F w _=>Cy (F.ev rfl) (F.ev rfl) (by (first | omega | (simp only [List.length_append,List.length_cons,List.length_nil];omega)))) rfl<|k_f (fun a F w _=>Cy (F.ev rfl) (F.ev rfl) (by (first | omega | (simp only [List.length_append,List.length_cons,List.length_nil];omega)))) rfl<|?_
 refine wk ?_;refine Aa rfl rfl<|?_
 exact ⟨M.weaken dS1,by first | rw [Wo (by assumption)] | rw [Wp (by assumption) hok]⟩
theorem Ajb (M:Mem w0 G L w) (HG:Globs 0 1 2 3 G) {a1:Option Addr} {c1:Nat} {xs:List ItemD} (S:Ag Bt 4 G (.slice a1 xs.length c1) xs) :
  Calls Tryz.prog 11 #[.slice a1 xs.length c1] w (Bn w0 G L fun v=>v=.tuple #[.string (str (La xs)),.int .i64 (Jn xs)]):=by
 have bS:=S.bound;refine Aj (vs:=[_]) Tryz.func11 rfl (n:=28) rfl rfl<|?_
 refine wk ?_;refine qD rfl ?_ ?_
 ·intro h1;refine wk ?_;refine C5 rfl rfl rfl<|?_
  exact ⟨M,by rw [(Sp (by omega)).1,(Sp (by omega)).2];rfl⟩
 intro h2;refine wk ?_;refine Bv M P1 rfl rfl<|?_;clear M;intro b3 w M
 refine wk ?_;replace M:=z_M M;have M:=(M.nilrow 5 1).perm (List.Perm.swap _ _ _);intro a F;rw [show ([]:List Value)=bc [] from rfl] at M;revert a;refine wk ?_;refine fun a F=>A3 (fun m a' w'=>∃ (i:Nat),∃ (am:Option Addr),∃ (nm:Nat),∃ (cm:Nat),∃ (pm:Value),m=xs.length - i∧Fits 28 a' [(0,.slice a1 xs.length c1),(4,.pointer (some ⟨b3,0,none⟩)),(11,.slice a1 xs.length c1),(12,.int .i64 ((xs.length:Nat):Int)),(13,.int .i64 ((i:Nat):Int))]∧Mem w0 G (.blk b3 [pm,.slice am nm cm] 101::.row (.slice am nm cm) (nm) (bc (Ce (xs.take i))) 5 1::L) w'∧(i≤xs.length)∧((Ce (xs.take i)).length≤301 * i)∧(∀ (m:Nat) (x:ItemD),m < i→xs[m]?=some x→ItemOk 8 x)∧(pm=.pointer none∨pm=.pointer (some ⟨b3,0,none⟩))∧(nm=(Ce (xs.take i)).length)∧((Ce (xs.take i))=[]→am=none)) _ ⟨0,(none),(0),(0),(.pointer none),rfl,F.to ⟨rfl,rfl,rfl,rfl,rfl,trivial⟩,M,Nat.zero_le _,by simp [Ce],fun m x h=>by omega,(Or.inl rfl),rfl,(fun _=>rfl)⟩ ?_;clear F M;rintro m a w ⟨i,am,nm,cm,pm,rfl,F,M,hi,hlen,hA,hpm,hnm,hnilm⟩;revert a;refine wk ?_;refine qD rfl ?_ ?_
 ·intro h5;refine wk ?_;obtain ⟨Xe6,hXe6⟩:=Ak (xs:=xs) (i:=i) (by omega);obtain ⟨be6,oe6,_,Ie6,_,Ae6,hTe6⟩:=S.at hXe6;obtain ⟨mae6,mce6,rfl,hke6,hte6,hxe6,hne6,SMe6⟩:=hTe6;have hIe6:(Xe6.key < 18446744073709551616∧Xe6.typ < 256∧Xe6.text.length≤9223372036854775807):=⟨hke6,hte6,hxe6⟩;refine wk ?_;refine Bv M Bi rfl rfl<|?_;clear M;intro b7 w M
  intro a F;refine Be F M Bi 0 ?_;clear F M a;intro w a M F;replace M:=z_M M;revert a;refine wk ?_;refine A2 Ace rfl rfl (Jg (x:=Xe6) (t:=8) M hIe6 SMe6)<|?_;clear M;rintro _ w M rfl
  refine wk ?_;refine Ae rfl ?_ ?_
  ·intro h9b;have h9:=dF (Ab h9b);refine wk ?_;refine C5 rfl rfl rfl<|?_
   exact ⟨(M.weaken (cN (.cons _ (cN (sR _))))),by rw [(Sq (by omega) (Kk.no hXe6 (fun h_=>by have:=Cs h_;omega))).1,(Sq (by omega) (Kk.no hXe6 (fun h_=>by have:=Cs h_;omega))).2,Dq (fun h_=>by have:=Cs h_;omega)];rfl⟩
  intro h10b;have h10:=dT (Ac h10b);refine Ep<|F4<|?_
  have hokX:ItemOk 8 Xe6:=Cv.1 (by omega);refine wk ?_;refine A2 Are rfl rfl (Qh (x:=Xe6) M HG hIe6 SMe6 hokX)<|?_;clear M;rintro _ w M rfl
  have hlll11:=Pe (x:=Xe6) hokX hIe6.1 hIe6.2.1;refine Aq (fun a F=>Cy (F.ev rfl) (F.ev rfl) (by (first | omega | (simp only [List.length_append,List.length_cons,List.length_nil];omega)))) rfl<|?_
  replace M:=M.perm (Af _ 2 _ rfl);replace M:=M.perm (Af _ 2 _ rfl);replace M:=z_M M;refine P4 Ail rfl rfl (Ml (s:=((Df Xe6)++([10]:List UInt8))) hpm M hnm hnilm (by (first | omega | (simp only [List.length_append,List.length_cons,List.length_nil];omega))))<|?_;clear M;rintro _ _ w M ⟨rfl,au12,nu12,cu12,rfl,hnu12,hnilu12⟩
  refine wk ?_;have hsn:(Ce (xs.take i))++((Df Xe6)++([10]:List UInt8))=Ce (xs.take (i+1)):=by rw [Adp hXe6]
  intro a F;rw [hsn] at M hnu12 hnilu12
  exact ⟨_,by omega,i+1,(au12),(nu12),(cu12),(.pointer (some ⟨b3,0,none⟩)),rfl,F.to ⟨rfl,rfl,rfl,rfl,rfl,trivial⟩,(M.weaken (cC (.cons_cons _ (cN (sR _))))),by omega,by rw [← hsn];simp only [List.length_append,List.length_cons,List.length_nil];omega,D2 hA hXe6 hokX,(Or.inr rfl),hnu12,hnilu12⟩
 intro h13;refine wk ?_;replace M:=M.perm (Af _ 1 _ rfl);replace M:=M.perm (Af _ 1 _ rfl);replace M:=z_M M;refine A2 ent43 rfl rfl (Xf M hnm hnilm)<|?_;clear M;rintro _ w M rfl
 refine wk ?_;refine C5 rfl rfl rfl<|?_
 exact ⟨M,by rw [(Xy (by omega) (Dw hA (by omega))).1,(Xy (by omega) (Dw hA (by omega))).2,List.take_of_length_le (by omega)]⟩
end Go.Proofs.YtmmhmcplegpenaaGreatDoor
