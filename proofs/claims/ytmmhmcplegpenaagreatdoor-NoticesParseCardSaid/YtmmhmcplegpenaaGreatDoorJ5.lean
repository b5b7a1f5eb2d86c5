/- Items: numbers, lines, what a line stands for. · The walks, part A. · The walks, part B. · The walks, part C. · The walks, part S. · The walks, part N. -/
import Derived.Test.YtmmhmcplegpenaaGreatDoorJ4
import Derived.Test.YtmmhmcplegpenaaGreatDoorYB
import Derived.Lib.IndexMore
import Derived.Lib.SplitLaws
import Derived.Lib.ParseIntB
import Derived.Lib.Join
import Derived.Test.YtmmhmcplegpenaaGreatDoorJ1
namespace Go.Proofs.YtmmhmcplegpenaaGreatDoor
open Go Go.Y
set_option linter.unusedSimpArgs false
set_option linter.unusedVariables false
theorem Ho (u:Nat):Lib.decDigits u=(if u / 10=0 then [] else Lib.decDigits (u / 10))++[UInt8.ofNat (48+u % 10)]:=by
 rw [Lib.decDigits]
 split
 ·rename_i h
  rw [if_pos (by omega),Nat.mod_eq_of_lt h]
  rfl
 ·rename_i h
  rw [if_neg (by omega)]
def Lg (c:UInt8):Prop:=48≤c.toNat∧c.toNat≤57
def J9:List UInt8→Nat→Nat
 | [],acc=>acc
 | c::r,acc=>J9 r (10 * acc+(c.toNat - 48))
theorem Wi:∀ (l:List UInt8) (acc:Nat),acc≤J9 l acc
 | [],acc=>Nat.le_refl _
 | c::r,acc=>by have:=Wi r (10 * acc+(c.toNat - 48));simp only [J9];omega
theorem Pf (c:UInt8):∀ (l:List UInt8) (acc:Nat),J9 (l++[c]) acc=10 * J9 l acc+(c.toNat - 48)
 | [],acc=>rfl
 | b::r,acc=>Pf c r _
instance (c:UInt8):Decidable (Lg c):=by unfold Lg;infer_instance
theorem J0:∀ (u:Nat),∀ c∈Lib.decDigits u,Lg c:=by
 intro u
 induction u using Nat.strongRecOn with
 | _ u ih =>
  intro c hc
  rw [Ho] at hc
  rcases List.mem_append.1 hc with hc | hc
  ·split at hc
   ·simp at hc
   ·exact ih (u / 10) (by omega) c hc
  ·simp only [List.mem_singleton] at hc
   subst hc
   have h1:(UInt8.ofNat (48+u % 10)).toNat=48+u % 10:=UInt8.toNat_ofNat_of_lt' (by show 48+u % 10 < 256;omega)
   unfold Lg
   omega
theorem I5:∀ (u:Nat),J9 (Lib.decDigits u) 0=u:=by
 intro u
 induction u using Nat.strongRecOn with
 | _ u ih =>
  have h1:(UInt8.ofNat (48+u % 10)).toNat=48+u % 10:=UInt8.toNat_ofNat_of_lt' (by show 48+u % 10 < 256;omega)
  rw [Ho,Pf,h1]
  split
  ·rename_i h;simp only [J9];omega
  ·rename_i h;rw [ih (u / 10) (by omega)];omega
def ix (c:UInt8):List UInt8→Nat
 | []=>0
 | b::l=>if b=c then 0 else ix c l+1
theorem ix_le (c:UInt8):∀ (l:List UInt8),ix c l≤l.length
 | []=>Nat.le_refl _
 | b::l=>by have:=ix_le c l;unfold ix;split <;> simp only [List.length_cons] <;> omega
theorem Akq (c:UInt8):∀ (l:List UInt8) (m:Nat) (b:UInt8),m < ix c l→l[m]?=some b→b≠c
 | [],m,b,h,_=>by simp [ix] at h
 | a::l,m,b,h,hb=>by
  unfold ix at h
  split at h
  ·omega
  ·rename_i ha
   cases m with
   | zero=>simp at hb;subst hb;exact ha
   | succ m=>exact Akq c l m b (by omega) (by simpa using hb)
theorem Akr (c:UInt8):∀ (l:List UInt8),ix c l < l.length→l[ix c l]?=some c
 | [],h=>by simp at h
 | a::l,h=>by
  unfold ix at h ⊢
  split
  ·rename_i ha;subst ha;rfl
  ·rename_i ha
   rw [if_neg ha] at h
   simp only [List.length_cons] at h
   rw [List.getElem?_cons_succ]
   exact Akr c l (by omega)
theorem Py {c:UInt8}:∀ {l:List UInt8} {k:Nat},(∀ (m:Nat) (b:UInt8),m < k→l[m]?=some b→b≠c)→(l[k]?=some c∨k=l.length)→ix c l=k
 | [],k,_,h=>by
  rcases h with h | h
  ·simp at h
  ·simp [ix,h]
 | a::l,k,h,hk=>by
  unfold ix
  cases k with
  | zero =>
   rcases hk with hk | hk
   ·simp at hk;rw [if_pos hk]
   ·simp at hk
  | succ k =>
   have h0:=h 0 a (by omega) (by simp)
   rw [if_neg h0,Py (l:=l) (k:=k) (fun m b h1 h2=>h (m+1) b (by omega) (by simpa using h2)) (by
    rcases hk with hk | hk
    ·left;simpa using hk
    ·right;simpa using hk)]
theorem Km (c:UInt8):∀ (l:List UInt8),Lib.index l [c]=if ix c l < l.length then ((ix c l:Nat):Int) else -1
 | []=>by simp [Lib.index,ix]
 | b::l=>by
  have ih:=Km c l
  unfold Lib.index ix
  by_cases h:b=c
  ·subst h
   simp
  ·have hp:([c].isPrefixOf (b::l))=false:=by simp [List.isPrefixOf,Ne.symm h]
   rw [if_neg (by rw [hp];simp),if_neg h]
   by_cases hl:ix c l < l.length
   ·rw [if_pos hl] at ih
    have h1:¬ (Lib.index l [c]==-1)=true:=by rw [ih,beq_iff_eq];omega
    have h2:ix c l+1 < (b::l).length:=by rw [List.length_cons];omega
    rw [if_neg h1,if_pos h2,ih]
    omega
   ·rw [if_neg hl] at ih
    have h1:(Lib.index l [c]==-1)=true:=by rw [ih];rfl
    have h2:¬ ix c l+1 < (b::l).length:=by rw [List.length_cons];omega
    rw [if_pos h1,if_neg h2]
theorem K9 (c:UInt8) (l:List UInt8):Lib.cut l [c]=if ix c l < l.length then (l.take (ix c l),l.drop (ix c l+1),true) else (l,[],false):=by
 unfold Lib.cut
 rw [Km]
 by_cases h:ix c l < l.length
 ·simp only [if_pos h]
  rw [if_pos (by omega)]
  simp
 ·simp only [if_neg h]
  rw [if_neg (by omega)]
theorem El (c:UInt8) (s:List UInt8):(Lib.cut s [c]).1.length≤s.length∧(Lib.cut s [c]).2.1.length≤s.length:=by
 rw [K9]
 split
 ·simp only [List.length_take,List.length_drop];omega
 ·simp
theorem Ev (u:Nat) (h:u < 18446744073709551616):(Lib.decDigits u).length≤20:=by
 rw [Lib.decDigits_length]
 rcases Nat.eq_zero_or_pos u with h0 | h0
 ·subst h0;rw [Lib.nDigits_small (by decide)];omega
 ·have h1:=Lib.numDigits_eq u h0 h
  split at h1 <;> omega
theorem Xf {c:UInt8}:∀ {d e:List UInt8},c ∉ d→ix c (d++c::e)=d.length
 | [],e,_=>by simp [ix]
 | b::d,e,h=>by
  simp only [List.cons_append,List.length_cons]
  unfold ix
  rw [if_neg (fun hb=>h (by rw [hb];simp)),Xf (fun hd=>h (by simp [hd]))]
theorem Acx (u:Nat):Lib.decDigits u≠[]:=by
 rw [Ho];simp
theorem Ads {most:Nat} (hm:most≤18446744073709551615):∀ (l:List UInt8) (acc:Nat),(∀ c∈l,Lg c)→J9 l acc≤most→Lib.parseUintM most acc l=.ok (J9 l acc)
 | [],acc,_,_=>rfl
 | c::r,acc,hd,hv=>by
  have hc:48≤c.toNat∧c.toNat≤57:=hd c (by simp)
  simp only [J9] at hv ⊢
  have:=Wi r (10 * acc+(c.toNat - 48))
  unfold Lib.parseUintM
  rw [if_pos hc,if_neg (by omega),if_neg (by omega),Nat.mul_comm acc 10]
  exact Ads hm r _ (fun x hx=>hd x (by simp [hx])) hv
theorem W6 {B u:Nat} (hB:B≤64) (hu:u < 2 ^ B):Lib.parseUintB B (Lib.decDigits u)=.ok u:=by
 unfold Lib.parseUintB
 have h64:2 ^ B≤2 ^ 64:=Nat.pow_le_pow_right (by decide) hB
 rw [if_neg (Acx u),Ads (by omega) _ _ (J0 u) (by rw [I5];omega),I5]
theorem M9 {c:UInt8} {u:Nat} (hc:¬ Lg c):c ∉ Lib.decDigits u:=fun h=>hc (J0 u c h)
theorem Im {c:UInt8} {d e:List UInt8} (h:c ∉ d):Lib.cut (d++c::e) [c]=(d,e,true):=by
 rw [K9,Xf h,if_pos (by simp)]
 simp
theorem Tu {c:UInt8} {d:List UInt8} (h:c ∉ d):Lib.cut d [c]=(d,[],false):=by
 have:ix c d=d.length:=Py (fun m b _ hb=>fun e=>h (e ▸ List.mem_of_getElem? hb)) (Or.inr rfl)
 rw [K9,this,if_neg (by omega)]
/-! ### The line of an item -/
def Fd (ms:List (List UInt8)):List UInt8:=if ms=[] then [45] else Lib.join ms [44]
def Da (x:ItemD):List UInt8:=Lib.decDigits x.key++[32]++Lib.decDigits x.typ++[32]++Fd x.marks++[32]++x.text
theorem Jf {s:List UInt8} (h:Dd s) {c:UInt8} (hc:¬ Dq c):c ∉ s:=fun hs=>hc (h.2 c hs)
theorem O3 (m:List UInt8) (y:List UInt8) (r:List (List UInt8)):Lib.join (m::y::r) [44]=m++44::Lib.join (y::r) [44]:=by
 rw [Lib.join_cons,Lib.join_cons]
 simp [Lib.joinTail]
theorem S8 {c:UInt8} (hc:¬ Dq c) (h44:c≠44):∀ (ms:List (List UInt8)),(∀ s∈ms,Dd s)→c ∉ Lib.join ms [44]
 | [],_=>by simp [Lib.join_nil]
 | [m],h=>by rw [Lib.join_one];exact Jf (h m (by simp)) hc
 | m::y::r,h=>by
  rw [O3]
  intro hx
  rcases List.mem_append.1 hx with hx | hx
  ·exact Jf (h m (by simp)) hc hx
  ·rcases List.mem_cons.1 hx with hx | hx
   ·exact h44 hx
   ·exact S8 hc h44 (y::r) (fun s hs=>h s (by simp [hs])) hx
theorem join_ne {m:List UInt8} {r:List (List UInt8)} (h:Dd m):Lib.join (m::r) [44]≠[]:=by
 rw [Lib.join_cons]
 intro e
 have h1:=(List.append_eq_nil_iff.1 e).1
 subst h1
 exact absurd h.1.1 (by simp)
theorem Mx {m:List UInt8} {r:List (List UInt8)} (h:Dd m):Lib.join (m::r) [44]≠[45]:=by
 rw [Lib.join_cons]
 intro e
 cases m with
 | nil=>exact absurd h.1.1 (by simp)
 | cons b m =>
  simp only [List.cons_append,List.cons.injEq] at e
  have h1:=h.2 b (by simp)
  rw [e.1] at h1
  exact absurd h1 (by decide)
theorem Vo {ms:List (List UInt8)} (h:∀ s∈ms,Dd s):(32:UInt8) ∉ Fd ms∧(10:UInt8) ∉ Fd ms:=by
 unfold Fd
 split
 ·exact ⟨by decide,by decide⟩
 ·exact ⟨S8 (by decide) (by decide) ms h,S8 (by decide) (by decide) ms h⟩
theorem Uy {s:List UInt8} (h:Str s):(10:UInt8) ∉ s:=fun hs=>absurd (h.2 10 hs) (by decide)
theorem S3 {x:ItemD} (h:ItemOk 8 x):(10:UInt8) ∉ Da x:=by
 obtain ⟨_,_,h3,_,h5⟩:=h
 unfold Da
 simp only [List.mem_append,List.mem_singleton,not_or]
 exact ⟨⟨⟨⟨⟨⟨M9 (by decide),by decide⟩,M9 (by decide)⟩,by decide⟩,(Vo h5).2⟩,by decide⟩,Uy h3⟩
theorem line_r (x:ItemD):Da x=Lib.decDigits x.key++32::(Lib.decDigits x.typ++32::(Fd x.marks++32::x.text)):=by
 simp [Da]
theorem Mw (x:ItemD) (e:List UInt8):Lib.cut (Da x++e) [32]=(Lib.decDigits x.key,Lib.decDigits x.typ++32::(Fd x.marks++32::(x.text++e)),true):=by
 rw [line_r,show Lib.decDigits x.key++32::(Lib.decDigits x.typ++32::(Fd x.marks++32::x.text))++e=Lib.decDigits x.key++32::(Lib.decDigits x.typ++32::(Fd x.marks++32::(x.text++e))) by simp]
 exact Im (M9 (by decide))
theorem Jg (t:Nat) (r:List UInt8):Lib.cut (Lib.decDigits t++32::r) [32]=(Lib.decDigits t,r,true):=Im (M9 (by decide))
theorem Mv {ms:List (List UInt8)} (h:∀ s∈ms,Dd s) (r:List UInt8):Lib.cut (Fd ms++32::r) [32]=(Fd ms,r,true):=Im (Vo h).1
/-! ### Its length -/
theorem Aec {b:Nat}:∀ (ms:List (List UInt8)),(∀ s∈ms,s.length≤b)→Lib.lens ms≤b * ms.length
 | [],_=>by simp [Lib.lens]
 | m::r,h=>by
  have h1:=Aec r (fun s hs=>h s (by simp [hs]))
  have h2:=h m (by simp)
  simp only [Lib.lens,List.map_cons,List.sum_cons,List.length_cons,Nat.mul_succ] at h1 ⊢
  omega
theorem Ako {ms:List (List UInt8)} {b:Nat} (h:∀ s∈ms,s.length≤b):(Lib.join ms [44]).length≤(b+1) * ms.length:=by
 cases ms with
 | nil=>simp [Lib.join_nil]
 | cons m r =>
  rw [Lib.join_length]
  have h1:=Aec (m::r) h
  simp only [List.length_cons,List.length_nil,Nat.add_mul] at h1 ⊢
  omega
theorem K4 {ms:List (List UInt8)} (h8:ms.length≤8) (h:∀ s∈ms,Dd s):(Lib.join ms [44]).length≤136:=by
 have h1:=Ako (b:=16) (fun s hs=>(h s hs).1.2)
 have h2:=Nat.mul_le_mul_left 17 h8
 omega
theorem Ags {ms:List (List UInt8)} (h8:ms.length≤8) (h:∀ s∈ms,Dd s):(Fd ms).length≤136:=by
 unfold Fd
 split
 ·decide
 ·exact K4 h8 h
theorem Kj {x:ItemD} {t:Int} (h:ItemOk t x) (hk:x.key < 18446744073709551616) (ht:x.typ < 256):(Da x).length≤300:=by
 obtain ⟨_,_,h3,h4,h5⟩:=h
 have h6:=Ags h4 h5
 have h7:=Ev x.key hk
 have h8:=Ev x.typ (by omega)
 have h9:=h3.1
 unfold Da
 simp only [List.length_append,List.length_cons,List.length_nil]
 omega
/-! ### Split -/
def B0 (s:List UInt8):List (List UInt8):=Lib.split s [44]
theorem Rt:∀ (k:Nat) (s:List UInt8) (p:List UInt8),p∈Lib.splitK [44] 0 k s→p.length≤s.length
 | 0,s,p,h=>by simp only [Lib.splitK,List.mem_singleton] at h;subst h;exact Nat.le_refl _
 | k+1,s,p,h=>by
  unfold Lib.splitK at h
  split at h
  ·simp only [List.mem_singleton] at h;subst h;exact Nat.le_refl _
  ·rcases List.mem_cons.1 h with rfl | h
   ·simp only [List.length_take];omega
   ·have:=Rt k _ p h;simp only [List.length_drop] at this;omega
theorem Abe {s p:List UInt8} (h:p∈B0 s):p.length≤s.length:=Rt _ _ _ h
theorem Abd {m r:List UInt8} (k:Nat) (h:(44:UInt8) ∉ m):Lib.splitK [44] 0 (k+1) (m++44::r)=m::Lib.splitK [44] 0 k r:=by
 have h1:Lib.index (m++44::r) [44]=((m.length:Nat):Int):=by rw [Km,Xf h,if_pos (by simp)]
 rw [Lib.splitK,h1,if_neg (by rw [beq_iff_eq];omega)]
 congr 1
 ·simp
 ·congr 1;simp
theorem Qh:∀ (m:List UInt8) (r:List (List UInt8)),(∀ s∈m::r,Dd s)→Lib.splitK [44] 0 r.length (Lib.join (m::r) [44])=m::r
 | m,[],_=>by simp [Lib.join_one,Lib.splitK]
 | m,y::r,h=>by
  rw [O3,List.length_cons,Abd _ (Jf (h m (by simp)) (by decide)),Qh y r (fun s hs=>h s (by simp [hs]))]
theorem Tv:∀ (m:List UInt8) (r:List (List UInt8)),(∀ s∈m::r,Dd s)→(Lib.join (m::r) [44]).count 44=r.length
 | m,[],h=>by
  rw [Lib.join_one];exact List.count_eq_zero.2 (Jf (h m (by simp)) (by decide))
 | m,y::r,h=>by
  rw [O3,List.count_append,List.count_cons_self,Tv y r (fun s hs=>h s (by simp [hs])),List.count_eq_zero.2 (Jf (h m (by simp)) (by decide))]
  simp
theorem Lt {ms:List (List UInt8)} (h:∀ s∈ms,Dd s) (h0:ms≠[]):B0 (Fd ms)=ms:=by
 cases ms with
 | nil=>exact absurd rfl h0
 | cons m r =>
  unfold B0 Lib.split Fd
  rw [if_neg h0,Lib.count_one,Tv m r h,Qh m r h]
/-! ### What a line stands for -/
def Rd8 (s:List UInt8) (x:ItemD):Prop:=ItemOk 8 x∧x.key < 18446744073709551616∧Da x=s
theorem Vu {x y:ItemD} (hx:ItemOk 8 x) (hy:ItemOk 8 y) (hkx:x.key < 18446744073709551616) (hky:y.key < 18446744073709551616) (e:Da x=Da y):x=y:=by
 have a1:=Mw x []
 have b1:=Mw y []
 rw [List.append_nil,List.append_nil] at a1 b1
 rw [e,b1] at a1
 simp only [Prod.mk.injEq,and_true] at a1
 obtain ⟨h1,h2⟩:=a1
 have c1:=Jg x.typ (Fd x.marks++32::x.text)
 rw [← h2,Jg] at c1
 simp only [Prod.mk.injEq,and_true] at c1
 obtain ⟨h3,h4⟩:=c1
 have d1:=Mv hx.2.2.2.2 x.text
 rw [← h4,Mv hy.2.2.2.2] at d1
 simp only [Prod.mk.injEq,and_true] at d1
 obtain ⟨h5,h6⟩:=d1
 refine Kl ?_ ?_ h6.symm ?_
 ·rw [← I5 x.key,← h1,I5]
 ·rw [← I5 x.typ,← h3,I5]
 ·by_cases hm:x.marks=[]
  ·by_cases hn:y.marks=[]
   ·rw [hm,hn]
   ·obtain ⟨m,r,hmr⟩:=List.exists_cons_of_ne_nil hn
    rw [hm,hmr] at h5
    simp only [Fd,if_true,if_neg (List.cons_ne_nil m r)] at h5
    exact absurd h5 (Mx (hy.2.2.2.2 m (by rw [hmr];simp)))
  ·by_cases hn:y.marks=[]
   ·obtain ⟨m,r,hmr⟩:=List.exists_cons_of_ne_nil hm
    rw [hn,hmr] at h5
    simp only [Fd,if_true,if_neg (List.cons_ne_nil m r)] at h5
    exact absurd h5.symm (Mx (hx.2.2.2.2 m (by rw [hmr];simp)))
   ·rw [← Lt hx.2.2.2.2 hm,← h5,Lt hy.2.2.2.2 hn]
theorem Rd8.uniq {s:List UInt8} {x y:ItemD} (hx:Rd8 s x) (hy:Rd8 s y):x=y:=Vu hx.1 hy.1 hx.2.1 hy.2.1 (hx.2.2.trans hy.2.2.symm)
/-! ### Whole texts -/
def C1 (l:List ItemD):List UInt8:=(l.map fun x=>Da x++[10]).flatten
theorem Aaw {l:List ItemD} {i:Nat} {x:ItemD} (h:l[i]?=some x):C1 (l.take (i+1))=C1 (l.take i)++(Da x++[10]):=by
 unfold C1
 rw [List.take_add_one,h]
 simp
def Kp (l:List ItemD):Prop:=∀ x∈l,ItemOk 8 x
instance (l:List ItemD):Decidable (Kp l):=by unfold Kp;infer_instance
theorem Kp.no {l:List ItemD} {i:Nat} {x:ItemD} (h:l[i]?=some x) (hn:¬ ItemOk 8 x):¬ Kp l:=fun h2=>hn (h2 x (List.mem_of_getElem? h))
def Jr (l:List ItemD):Int:=if 1024 < l.length then 3 else if Kp l then 0 else 6
def Le (l:List ItemD):List UInt8:=if Jr l=0 then C1 l else []
theorem Ro {l:List ItemD} (h:1024 < l.length):Jr l=3∧Le l=[]:=by
 have:Jr l=3:=by unfold Jr;rw [if_pos h]
 exact ⟨this,by unfold Le;rw [this];rfl⟩
theorem Rp {l:List ItemD} (h:l.length≤1024) (hn:¬ Kp l):Jr l=6∧Le l=[]:=by
 have:Jr l=6:=by unfold Jr;rw [if_neg (by omega),if_neg hn]
 exact ⟨this,by unfold Le;rw [this];rfl⟩
theorem Q4 {l:List ItemD} (h:l.length≤1024) (hn:Kp l):Jr l=0∧Le l=C1 l:=by
 have:Jr l=0:=by unfold Jr;rw [if_neg (by omega),if_pos hn]
 exact ⟨this,by unfold Le;rw [if_pos this]⟩
theorem Vs {x:ItemD} (h:¬ Lib.join x.marks [44]=[]):Da x=Lib.decDigits x.key++[32]++Lib.decDigits x.typ++[32]++Lib.join x.marks [44]++[32]++x.text:=by
 unfold Da Fd
 rw [if_neg (fun e=>h (by rw [e];rfl))]
theorem Vt {x:ItemD} (h:Lib.join x.marks [44]=[]) (hok:ItemOk 8 x):Da x=Lib.decDigits x.key++[32]++Lib.decDigits x.typ++[32]++[45]++[32]++x.text:=by
 have:x.marks=[]:=by
  cases hm:x.marks with
  | nil=>rfl
  | cons m r=>rw [hm] at h;exact absurd h (join_ne (hok.2.2.2.2 m (by rw [hm];simp)))
 unfold Da Fd
 rw [if_pos this]
theorem Agz {ms:List (List UInt8)} {i:Nat} {m:List UInt8} (h:ms[i]?=some m) (h0:0 < i):Lib.join (ms.take (i+1)) [44]=Lib.join (ms.take i) [44]++[44]++m:=by
 cases ms with
 | nil=>simp at h
 | cons a r =>
  cases i with
  | zero=>omega
  | succ i =>
   rw [List.take_succ_cons,List.take_succ_cons,Lib.join_cons,Lib.join_cons,Lib.joinTail_take_succ _ _ _ _ (by simpa using h)]
   simp
theorem Akp {ms:List (List UInt8)} {m:List UInt8} (h:ms[0]?=some m):Lib.join (ms.take 1) [44]=m:=by
 cases ms with
 | nil=>simp at h
 | cons a r=>simp at h;subst h;rw [List.take_succ_cons,List.take_zero,Lib.join_one]
theorem Px {x:ItemD} (h:ItemOk 8 x) (i:Nat):(Lib.join (x.marks.take i) [44]).length≤136:=K4 (by rw [List.length_take];have:=h.2.2.2.1;omega) (fun s hs=>h.2.2.2.2 s (List.mem_of_mem_take hs))
theorem Vr {x:ItemD} (h:x.marks.length=0):Da x=Lib.decDigits x.key++[32]++Lib.decDigits x.typ++[32]++[45]++[32]++x.text:=by
 unfold Da Fd
 rw [if_pos (List.eq_nil_of_length_eq_zero h)]
theorem Vq {x:ItemD} {i:Nat} (h:¬ x.marks.length=0) (hi:x.marks.length≤i):Da x=Lib.decDigits x.key++[32]++Lib.decDigits x.typ++[32]++Lib.join (x.marks.take i) [44]++[32]++x.text:=by
 unfold Da Fd
 rw [if_neg (fun e=>h (by rw [e];rfl)),List.take_of_length_le hi]
/-! ### Lines read back -/
/-- What every reader of a number owes: a number's own text is read as the number. -/
def Ur (lim:Nat) (s:List UInt8) (u:Nat) (b:Bool):Prop:=u < lim∧∀ m:Nat,m < lim→s=Lib.decDigits m→b=true∧u=m
def Jl (c:List UInt8):List (List UInt8):=if c=[45] then [] else B0 c
theorem Ake {ms:List (List UInt8)} (h:∀ s∈ms,Dd s):Jl (Fd ms)=ms:=by
 unfold Jl
 cases ms with
 | nil=>rfl
 | cons m r =>
  have:Fd (m::r)=Lib.join (m::r) [44]:=by unfold Fd;rw [if_neg (List.cons_ne_nil m r)]
  rw [if_neg (by rw [this];exact Mx (h m (by simp))),Lt h (List.cons_ne_nil m r)]
theorem Hk {s:List UInt8} {y:ItemD} {u1 u2 lim:Nat} {b1 b2:Bool} (h:Rd8 s y) (n1:Ur 18446744073709551616 (Lib.cut s [32]).1 u1 b1) (hl:256≤lim) (n2:Ur lim (Lib.cut (Lib.cut s [32]).2.1 [32]).1 u2 b2) :
  b1=true∧b2=true∧(⟨u1,u2,(Lib.cut (Lib.cut (Lib.cut s [32]).2.1 [32]).2.1 [32]).2.1,Jl (Lib.cut (Lib.cut (Lib.cut s [32]).2.1 [32]).2.1 [32]).1⟩:ItemD)=y:=by
 obtain ⟨hok,hk,rfl⟩:=h
 have ht:y.typ < 256:=by have:=hok.2.1;omega
 have a1:=Mw y []
 rw [List.append_nil,List.append_nil] at a1
 rw [a1] at n1 n2
 simp only [Jg] at n2
 rw [a1]
 simp only [Jg,Mv hok.2.2.2.2,Ake hok.2.2.2.2]
 obtain ⟨h1,h2⟩:=n1.2 y.key hk rfl
 obtain ⟨h3,h4⟩:=n2.2 y.typ (by omega) rfl
 exact ⟨h1,h3,by rw [h2,h4]⟩
def Q3 (s:List UInt8) (x:ItemD):Prop:=ItemOk 8 x∧x.key < 18446744073709551616∧Da x++[10]=s
theorem Q3.one {s:List UInt8} {x:ItemD} (h:Q3 (s++[10]) x):Rd8 s x:=⟨h.1,h.2.1,by have:=h.2.2;simpa using this⟩
theorem Rd8.ten {s:List UInt8} {x:ItemD} (h:Rd8 s x):Q3 (s++[10]) x:=⟨h.1,h.2.1,by rw [h.2.2]⟩
theorem Afv {s:List UInt8} {y:ItemD} {u1 u2 lim:Nat} {b1 b2:Bool} (h:Q3 s y) (n1:Ur 18446744073709551616 (Lib.cut s [32]).1 u1 b1) (hl:256≤lim) (n2:Ur lim (Lib.cut (Lib.cut s [32]).2.1 [32]).1 u2 b2) :
  b1=true∧b2=true∧u1=y.key∧u2=y.typ∧(Lib.cut (Lib.cut (Lib.cut s [32]).2.1 [32]).2.1 [32]).1=Fd y.marks∧Lib.cut (Lib.cut (Lib.cut (Lib.cut s [32]).2.1 [32]).2.1 [32]).2.1 [10]=(y.text,[],true):=by
 obtain ⟨hok,hk,rfl⟩:=h
 have ht:y.typ < 256:=by have:=hok.2.1;omega
 have a1:=Mw y [10]
 rw [a1] at n1 n2
 simp only [Jg] at n2
 rw [a1]
 simp only [Jg,Mv hok.2.2.2.2]
 obtain ⟨h1,h2⟩:=n1.2 y.key hk rfl
 obtain ⟨h3,h4⟩:=n2.2 y.typ (by omega) rfl
 exact ⟨h1,h3,h2,h4,trivial,Im (Uy hok.2.2.1)⟩
/-- The marks that a reader of marks has taken, and what is left. -/
def MkI (y xs:List (List UInt8)) (c:List UInt8):Prop:=∃ ys,y=xs++ys∧c=Fd ys
theorem MkI.nil {y:List (List UInt8)} {c:List UInt8} (h:c=Fd y):MkI y [] c:=⟨y,rfl,h⟩
theorem MkI.dash {y xs:List (List UInt8)} (hn:∀ s∈y,Dd s) (h:MkI y xs [45]):y=xs:=by
 obtain ⟨ys,h1,h2⟩:=h
 cases ys with
 | nil=>simpa using h1
 | cons m r =>
  have:Fd (m::r)=Lib.join (m::r) [44]:=by unfold Fd;rw [if_neg (List.cons_ne_nil m r)]
  rw [this] at h2
  exact absurd h2.symm (Mx (hn m (by rw [h1];simp)))
theorem MkI.step {y xs:List (List UInt8)} {c:List UInt8} (hn:∀ s∈y,Dd s) (h:MkI y xs c) (hc:¬ c=[45]) :
  ((Lib.cut c [44]).2.2=true→MkI y (xs++[(Lib.cut c [44]).1]) (Lib.cut c [44]).2.1)∧(¬ (Lib.cut c [44]).2.2=true→y=xs++[(Lib.cut c [44]).1]):=by
 obtain ⟨ys,h1,h2⟩:=h
 cases ys with
 | nil=>exact absurd h2 hc
 | cons m r =>
  have hm:(44:UInt8) ∉ m:=Jf (hn m (by rw [h1];simp)) (by decide)
  have hj:Fd (m::r)=Lib.join (m::r) [44]:=by unfold Fd;rw [if_neg (List.cons_ne_nil m r)]
  cases r with
  | nil =>
   rw [hj,Lib.join_one] at h2
   subst h2
   rw [Tu hm]
   exact ⟨fun h=>(by cases h),fun _=>h1⟩
  | cons m2 r =>
   rw [hj,O3] at h2
   subst h2
   rw [Im hm]
   refine ⟨fun _=>⟨m2::r,by rw [h1];simp,?_⟩,fun h=>absurd rfl h⟩
   unfold Fd;rw [if_neg (List.cons_ne_nil m2 r)]
theorem My {t:Int} {x:ItemD} (h:¬ 0 < Gt t x):ItemOk t x:=by
 unfold Gt at h
 split at h
 ·assumption
 ·omega
theorem Rf {t:Int} {x:ItemD} (h:0 < Gt t x):¬ ItemOk t x:=fun h2=>by rw [Dp h2] at h;omega
/-! ### Parsing -/
noncomputable def Td (s:List UInt8):Option ItemD:=by
 classical exact if h:∃ x,Rd8 s x then some h.choose else none
theorem N3 {s:List UInt8} {x:ItemD} (h:Rd8 s x):Td s=some x:=by
 have hx:∃ x,Rd8 s x:=⟨x,h⟩
 unfold Td
 rw [dif_pos hx,Rd8.uniq hx.choose_spec h]
theorem Vx {s:List UInt8} (h:∀ y,¬ Rd8 s y):Td s=none:=by
 unfold Td
 rw [dif_neg (fun ⟨x,hx⟩=>h x hx)]
noncomputable def pGo:Nat→List ItemD→List UInt8→List ItemD × Nat × Int
 | 0,_,_=>([],0,0)
 | f+1,l,s=>if s=[] then (l,0,0) else if (Lib.cut s [10]).2.2=true then
   (match Td (Lib.cut s [10]).1 with
    | some x=>if l.length=1024 then ([],l.length+1,3) else pGo f (l++[x]) (Lib.cut s [10]).2.1
    | none=>([],l.length+1,5)) else ([],l.length+1,5)
noncomputable def D8 (s:List UInt8):List ItemD × Nat × Int:=if 1048576 < s.length then ([],0,3) else pGo (s.length+1) [] s
def Qa (s0:List UInt8) (xs:List ItemD) (c:List UInt8):Prop:=∃ f,c.length < f∧D8 s0=pGo f xs c∧xs.length≤1024∧Kp xs
theorem Agg {s:List UInt8} (h:1048576 < s.length):D8 s=([],0,3):=by unfold D8;rw [if_pos h]
theorem Qa.start {s:List UInt8} (h:¬ 1048576 < s.length):Qa s [] s:=⟨s.length+1,by omega,by unfold D8;rw [if_neg h],by simp,fun x hx=>by simp at hx⟩
theorem Qa.fin {s0:List UInt8} {xs:List ItemD} (h:Qa s0 xs []):D8 s0=(xs,0,0):=by
 obtain ⟨f,h1,h2,_⟩:=h
 cases f with
 | zero=>simp at h1
 | succ f=>rw [h2];unfold pGo;rw [if_pos rfl]
theorem Amp {s:List UInt8} (h:¬ s=[]):(Lib.cut s [10]).2.1.length < s.length:=by
 have h0:=List.length_pos_iff.2 h
 rw [K9]
 split
 ·simp only [List.length_drop];omega
 ·simpa using h0
theorem Qa.bad {s0:List UInt8} {xs:List ItemD} {c:List UInt8} (h:Qa s0 xs c) (hc:¬ c=[]) (hb:¬ (Lib.cut c [10]).2.2=true∨∀ y,¬ Rd8 (Lib.cut c [10]).1 y):D8 s0=([],xs.length+1,5):=by
 obtain ⟨f,h1,h2,_⟩:=h
 cases f with
 | zero=>omega
 | succ f =>
  rw [h2]
  unfold pGo
  rw [if_neg hc]
  by_cases hq:(Lib.cut c [10]).2.2=true
  ·rw [if_pos hq,Vx (hb.resolve_left (fun h=>h hq))]
  ·rw [if_neg hq]
theorem Qa.full {s0:List UInt8} {xs:List ItemD} {c:List UInt8} {x:ItemD} (h:Qa s0 xs c) (hc:¬ c=[]) (hq:(Lib.cut c [10]).2.2=true) (hx:Rd8 (Lib.cut c [10]).1 x) (hl:xs.length=1024):D8 s0=([],xs.length+1,3):=by
 obtain ⟨f,h1,h2,_⟩:=h
 cases f with
 | zero=>omega
 | succ f =>
  rw [h2]
  unfold pGo
  rw [if_neg hc,if_pos hq,N3 hx]
  simp only
  rw [if_pos hl]
theorem Qa.next {s0:List UInt8} {xs:List ItemD} {c:List UInt8} {x:ItemD} (h:Qa s0 xs c) (hc:¬ c=[]) (hq:(Lib.cut c [10]).2.2=true) (hx:Rd8 (Lib.cut c [10]).1 x) (hl:¬ xs.length=1024):Qa s0 (xs++[x]) (Lib.cut c [10]).2.1:=by
 obtain ⟨f,h1,h2,h3,h4⟩:=h
 cases f with
 | zero=>omega
 | succ f =>
  have h5:=Amp hc
  refine ⟨f,by omega,?_,by simp only [List.length_append,List.length_cons,List.length_nil];omega,fun y hy=>?_⟩
  ·rw [h2,pGo,if_neg hc,if_pos hq,N3 hx]
   simp only
   rw [if_neg hl]
  ·rcases List.mem_append.1 hy with hy | hy
   ·exact h4 y hy
   ·simp only [List.mem_singleton] at hy;subst hy;exact hx.1
theorem Aax (x:ItemD) (l:List ItemD):C1 (x::l)=Da x++10::C1 l:=by unfold C1;simp
theorem Uw {l:List ItemD} (h:Kp l) (hk:∀ x∈l,x.key < 18446744073709551616∧x.typ < 256):(C1 l).length≤301 * l.length:=by
 induction l with
 | nil=>simp [C1]
 | cons x l ih =>
  have h1:=Kj (h x (by simp)) (hk x (by simp)).1 (hk x (by simp)).2
  have h2:=ih (fun y hy=>h y (by simp [hy])) (fun y hy=>hk y (by simp [hy]))
  rw [Aax]
  simp only [List.length_append,List.length_cons]
  omega
/-! ### The examples -/
open Go Go.Y Go.Proofs
variable {w0 w:World} {G:A4} {L:List Res}
set_option linter.unusedSimpArgs false
set_option linter.unusedVariables false
theorem Aay {w:World} {x:Nat}:Calls Tryz.prog 49 #[.int .i32 (x:Int)] w (fun e w'=>e=.returned (.bool (Ii x))∧∃ q,w' = w.drewN q):=by
 refine Az (vs:=[_]) Tryz.func49 rfl (n:=9) rfl rfl<|Ab<|Ac<|Af rfl<|Aa<|Ad<|Ab<|Ac<|Ae rfl<|Df rfl rfl<|Ae rfl<|?_
 rcases bE (decide ((x:Int) < 32)) with h1b | h2b
 ·skip
  have h1:=dT h1b
  refine g_f rfl h1b<|g_f rfl h1b<|Bi rfl h1b rfl<|Af rfl<|Aa<|Ad<|Aj<|Al rfl rfl<|?_
  exact ⟨by have h_:Ii x=true:=(by unfold Ii;first | (simp_all;omega) | simp_all);rw [h_],0,rfl⟩
 ·skip
  have h2:=dF h2b
  refine g_t rfl h2b<|Ae rfl<|g_t rfl h2b<|Dn rfl rfl<|Bh rfl h2b rfl<|Af rfl<|Aa<|Ad<|Aj<|Al rfl rfl<|?_
  exact ⟨by have h_:Ii x=(decide (126 < (x:Int))):=(by unfold Ii;first | (simp_all;omega) | simp_all);rw [h_],0,rfl⟩
theorem Acj (M:Mem w0 G L w) {s:List UInt8}:Calls Tryz.prog 103 #[.string (str s),.func (.func 49) #[] #[]] w (Cl w0 G L fun v=>∃ z:Int,v=.int .i64 z∧(z < 0↔∀ c∈s,I8 c)):=by
 have hp:PredAt Tryz.prog 49 #[] encR Ii w:=fun W x _=>(Aay (x:=x))
 refine (Any.strings_IndexFunc Tryz.laysGw15 49 #[] (Go.Proofs.enters_of Tryz.func49 (by kernel_rfl) rfl) Ii (str s) w hp).mono ?_
 rintro e w' ⟨rfl,hb⟩
 exact ⟨M.below' hb,_,rfl,Xl s⟩
theorem Z4 (M:Mem w0 G L w) {s:List UInt8}:Calls Tryz.prog 48 #[.string (str s),.func (.func 49) #[] #[]] w (Cl w0 G L fun v=>∃ b:Bool,v=.bool b∧(b=true↔¬ ∀ c∈s,I8 c)):=by
 refine Az (vs:=[_,_]) Tryz.func48 rfl (n:=9) rfl rfl<|Ab<|Ac<|Af rfl<|Aa<|Ad<|Ab<|Ac<|Ae rfl<|Ae rfl<|Br Acw rfl rfl (Acj (s:=s) M)<|?_;clear M;rintro _ w M ⟨z1,rfl,hz1⟩
 refine Li rfl rfl<|Af rfl<|Aa<|Ad<|Aj<|Al rfl rfl<|?_
 exact ⟨M,_,rfl,by rw [decide_eq_true_iff,← hz1];omega⟩
theorem Acc {w:World} {x:Nat}:Calls Tryz.prog 105 #[.int .i32 (x:Int)] w (fun e w'=>e=.returned (.bool (Nf x))∧∃ q,w' = w.drewN q):=by
 refine Az (vs:=[_]) Tryz.func105 rfl (n:=17) rfl rfl<|Ab<|Ac<|Af rfl<|Aa<|Ad<|Ab<|Ac<|Ae rfl<|Df rfl rfl<|Ae rfl<|?_
 rcases bE (decide ((x:Int) < 97)) with h1b | h4b
 ·skip
  have h1:=dT h1b
  refine g_f rfl h1b<|g_f rfl h1b<|Bi rfl h1b rfl<|Ae rfl<|g_t rfl rfl<|Ae rfl<|g_t rfl rfl<|Df rfl rfl<|g_t rfl rfl<|Ae rfl<|?_
  rcases bE (decide ((x:Int) < 48)) with h2b | h3b
  ·skip
   have h2:=dT h2b
   refine g_f rfl h2b<|g_f rfl h2b<|g_t rfl rfl<|Bi rfl h2b rfl<|Bi rfl rfl rfl<|Af rfl<|Aa<|Ad<|Aj<|Al rfl rfl<|?_
   exact ⟨by have h_:Nf x=true:=(by unfold Nf;first | (simp_all;omega) | simp_all);rw [h_],0,rfl⟩
  ·skip
   have h3:=dF h3b
   refine g_t rfl h3b<|Ae rfl<|g_t rfl h3b<|Dn rfl rfl<|g_t rfl rfl<|Bh rfl h3b rfl<|Bi rfl rfl rfl<|Af rfl<|Aa<|Ad<|Aj<|Al rfl rfl<|?_
   exact ⟨by have h_:Nf x=(decide (57 < (x:Int))):=(by unfold Nf;first | (simp_all;omega) | simp_all);rw [h_],0,rfl⟩
 ·skip
  have h4:=dF h4b
  refine g_t rfl h4b<|Ae rfl<|g_t rfl h4b<|Dn rfl rfl<|Bh rfl h4b rfl<|Ae rfl<|?_
  rcases bE (decide (122 < (x:Int))) with h5b | h8b
  ·skip
   have h5:=dT h5b
   refine g_t rfl h5b<|Ae rfl<|g_t rfl h5b<|Df rfl rfl<|g_t rfl h5b<|Ae rfl<|?_
   rcases bE (decide ((x:Int) < 48)) with h6b | h7b
   ·skip
    have h6:=dT h6b
    refine g_f rfl h6b<|g_f rfl h6b<|g_t rfl h5b<|Bi rfl h6b rfl<|Bi rfl h5b rfl<|Af rfl<|Aa<|Ad<|Aj<|Al rfl rfl<|?_
    exact ⟨by have h_:Nf x=true:=(by unfold Nf;first | (simp_all;omega) | simp_all);rw [h_],0,rfl⟩
   ·skip
    have h7:=dF h7b
    refine g_t rfl h7b<|Ae rfl<|g_t rfl h7b<|Dn rfl rfl<|g_t rfl h5b<|Bh rfl h7b rfl<|Bi rfl h5b rfl<|Af rfl<|Aa<|Ad<|Aj<|Al rfl rfl<|?_
    exact ⟨by have h_:Nf x=(decide (57 < (x:Int))):=(by unfold Nf;first | (simp_all;omega) | simp_all);rw [h_],0,rfl⟩
  ·skip
   have h8:=dF h8b
   refine g_f rfl h8b<|g_f rfl h8b<|g_f rfl h8b<|g_u rfl<|g_u rfl<|g_f rfl h8b<|Bh rfl h8b rfl<|Af rfl<|Aa<|Ad<|Aj<|Al rfl rfl<|?_
   exact ⟨by have h_:Nf x=false:=(by unfold Nf;first | (simp_all;omega) | simp_all);rw [h_],0,rfl⟩
theorem Ack (M:Mem w0 G L w) {s:List UInt8}:Calls Tryz.prog 103 #[.string (str s),.func (.func 105) #[] #[]] w (Cl w0 G L fun v=>∃ z:Int,v=.int .i64 z∧(z < 0↔∀ c∈s,Dq c)):=by
 have hp:PredAt Tryz.prog 105 #[] encR Nf w:=fun W x _=>(Acc (x:=x))
 refine (Any.strings_IndexFunc Tryz.laysGw15 105 #[] (Go.Proofs.enters_of Tryz.func105 (by kernel_rfl) rfl) Nf (str s) w hp).mono ?_
 rintro e w' ⟨rfl,hb⟩
 exact ⟨M.below' hb,_,rfl,Ala s⟩
theorem Z5 (M:Mem w0 G L w) {s:List UInt8}:Calls Tryz.prog 48 #[.string (str s),.func (.func 105) #[] #[]] w (Cl w0 G L fun v=>∃ b:Bool,v=.bool b∧(b=true↔¬ ∀ c∈s,Dq c)):=by
 refine Az (vs:=[_,_]) Tryz.func48 rfl (n:=9) rfl rfl<|Ab<|Ac<|Af rfl<|Aa<|Ad<|Ab<|Ac<|Ae rfl<|Ae rfl<|Br Acw rfl rfl (Ack (s:=s) M)<|?_;clear M;rintro _ w M ⟨z1,rfl,hz1⟩
 refine Li rfl rfl<|Af rfl<|Aa<|Ad<|Aj<|Al rfl rfl<|?_
 exact ⟨M,_,rfl,by rw [decide_eq_true_iff,← hz1];omega⟩
theorem Agj (M:Mem w0 G L w) {s:List UInt8} (hs:s.length≤9223372036854775807):Calls Tryz.prog 53 #[.string (str s)] w (Cl w0 G L fun v=>∃ b:Bool,v=.bool b∧(b=true↔Dd s)):=by
 refine Az (vs:=[_]) Tryz.func53 rfl (n:=17) rfl rfl<|Ab<|Ac<|Af rfl<|Aa<|Ad<|Ab<|Ac<|Af rfl<|Aa<|Ad<|Ab<|?_
 have hs0:s=[]↔s.length=0:=by cases s <;> simp
 refine Ac<|Ae rfl<|Gw rfl rfl<|Ae rfl<|?_
 rcases bE (!(decide (s=([]:List UInt8)))) with h1b | h5b
 ·skip
  have h1:=dF (Ag h1b)
  have h1c:(decide (s=([]:List UInt8)))=false:=(Ag h1b)
  refine g_t rfl (Ak h1c)<|Ae rfl<|g_t rfl (Ak h1c)<|Ap (fun a F=>Cq Bq.k (F.ev rfl)) rfl<|g_t rfl (Ak h1c)<|Lv rfl rfl<|Bi rfl (Ak h1c) rfl<|Ae rfl<|?_
  rcases bE (decide ((((s).length:Nat):Int)≤16)) with h2b | h4b
  ·skip
   have h2:=dT h2b
   refine g_t rfl h2b<|Ae rfl<|g_t rfl h2b<|Ae rfl<|g_t rfl h2b<|Br ent48 rfl rfl (Z5 (s:=s) M)<|?_;clear M;rintro _ w M ⟨b3,rfl,hb3⟩
   refine g_t rfl h2b<|C9 rfl<|Bi rfl h2b rfl<|Af rfl<|Aa<|Ad<|Aj<|Al rfl rfl<|?_
   exact ⟨M,(!(b3)),rfl,(by clear M;unfold Dd;grind)⟩
  ·skip
   have h4:=dF h4b
   refine g_f rfl h4b<|g_f rfl h4b<|g_f rfl h4b<|g_f rfl h4b<|Bh rfl h4b rfl<|Af rfl<|Aa<|Ad<|Aj<|Al rfl rfl<|?_
   exact ⟨M,false,rfl,(by clear M;unfold Dd;grind)⟩
 ·skip
  have h5:=dT (Ah h5b)
  have h5c:(decide (s=([]:List UInt8)))=true:=(Ah h5b)
  refine g_f rfl (Ai h5c)<|g_f rfl (Ai h5c)<|g_f rfl (Ai h5c)<|Bh rfl (Ai h5c) rfl<|Ae rfl<|g_f rfl rfl<|g_f rfl rfl<|g_f rfl rfl<|g_f rfl rfl<|Bh rfl rfl rfl<|Af rfl<|Aa<|Ad<|Aj<|Al rfl rfl<|?_
  exact ⟨M,false,rfl,(by clear M;unfold Dd;grind)⟩
theorem Gk (M:Mem w0 G L w) {s:List UInt8} (hs:s.length≤9223372036854775807):Calls Tryz.prog 107 #[.string (str s)] w (Cl w0 G L fun v=>v=.int .i64 (if Dd s then (1:Int) else 0)):=by
 refine Az (vs:=[_]) Tryz.func107 rfl (n:=37) rfl rfl<|Ab<|Ac<|Af rfl<|Aa<|Ad<|Ab<|Ab<|Ac<|Ae rfl<|Ap (fun a F=>Cq Bq.k (F.ev rfl)) rfl<|Df rfl rfl<|Ae rfl<|?_
 rcases bE (decide ((((s).length:Nat):Int) < 1)) with h1b | h2b
 ·skip
  have h1:=dT h1b
  refine g_f rfl h1b<|g_f rfl h1b<|g_f rfl h1b<|Bi rfl h1b rfl<|Aa<|Ad<|Bk rfl rfl<|Ab<|Ac<|Af rfl<|Aa<|Ad<|Aj<|Aw<|Al rfl rfl<|?_
  exact ⟨M,by rw [if_neg (fun h_:Dd s=>by have:=h_.1;omega)]⟩
 ·skip
  have h2:=dF h2b
  refine g_t rfl h2b<|Ae rfl<|g_t rfl h2b<|Ap (fun a F=>Cq Bq.k (F.ev rfl)) rfl<|g_t rfl h2b<|Dn rfl rfl<|Bh rfl h2b rfl<|Aa<|Ad<|Av rfl ?_ ?_
  ·intro h3b
   have h3:=dT h3b
   refine Ab<|Ac<|Af rfl<|Aa<|Ad<|Aj<|Aw<|Al rfl rfl<|?_
   exact ⟨M,by rw [if_neg (fun h_:Dd s=>by have:=h_.1;omega)]⟩
  ·intro h4b
   have h4:=dF h4b
   refine Au<|Ad<|Ab<|Ab<|Ac<|Af rfl<|Aa<|Ad<|A3<|fun a F=>B8 (fun m a' w'=>∃ (i:Nat),m=s.length - i∧Fits 37 a' [(0,.string (str s)),(3,.int .i64 ((i:Nat):Int))]∧Mem w0 G (L) w'∧(i≤s.length)∧(∀ (m:Nat) (b:UInt8),m < i→s[m]?=some b→Dq b)) _ ⟨0,rfl,F.to ⟨rfl,rfl,trivial⟩,M,by omega,fun m b h=>by omega⟩ ?_
   clear F M
   rintro m a w ⟨i,rfl,F,M,hi,hA⟩
   revert a
   refine Ab<|Ab<|Ac<|Ae rfl<|Ae rfl<|Ap (fun a F=>Cq Bq.k (F.ev rfl)) rfl<|Df rfl rfl<|Aa<|Ad<|Av rfl ?_ ?_
   ·intro h5b
    have h5:=dT h5b
    refine Au<|Ad<|Ab<|A3<|Ab<|Ac<|Ae rfl<|Ae rfl<|?_
    obtain ⟨B6,hB6⟩:=Be (xs:=(s)) (i:=i) (by omega)
    have lB6:=Ox B6
    refine Ap (fun a F=>Cx (i:=i) Bq.k (F.ev rfl) (F.ev rfl) hB6) rfl<|Af rfl<|Aa<|Ad<|Ab<|Ac<|Ae rfl<|Li rfl rfl<|Ae rfl<|?_
    rcases bE (decide (97≤nb B6)) with h7b | h14b
    ·skip
     have h7:=dT h7b
     refine g_t rfl h7b<|Ae rfl<|g_t rfl h7b<|Lv rfl rfl<|Bi rfl h7b rfl<|Ae rfl<|?_
     rcases bE (decide (nb B6≤122)) with h8b | h9b
     ·skip
      have h8:=dT h8b
      refine g_f rfl h8b<|g_f rfl h8b<|g_f rfl h8b<|g_u rfl<|g_u rfl<|g_f rfl h8b<|Bi rfl h8b rfl<|C9 rfl<|Aa<|Ad<|D2 rfl rfl<|Au<|C0<|Ad<|Ac<|Ae rfl<|B9 rfl rfl<|Af rfl<|Aa<|Ad<|fun a F=>?_
      exact ⟨_,by omega,i+1,rfl,F.to ⟨rfl,rfl,trivial⟩,M,by omega,Fl hA hB6 (by unfold Dq;omega)⟩
     ·skip
      have h9:=dF h9b
      refine g_t rfl h9b<|Ae rfl<|g_t rfl h9b<|Li rfl rfl<|g_t rfl h9b<|Ae rfl<|?_
      rcases bE (decide (48≤nb B6)) with h10b | h13b
      ·skip
       have h10:=dT h10b
       refine g_t rfl h10b<|Ae rfl<|g_t rfl h10b<|Lv rfl rfl<|g_t rfl h9b<|Bi rfl h10b rfl<|Bh rfl h9b rfl<|C9 rfl<|Aa<|Ad<|Av rfl ?_ ?_
       ·intro h11b
        have h11:=dF (Ag h11b)
        refine Ab<|Ac<|Af rfl<|Aa<|Ad<|Aj<|Bo<|Aw<|Aw<|Bo<|Aw<|Al rfl rfl<|?_
        exact ⟨M,by rw [if_neg (fun h_:Dd s=>absurd h_.2 (Gh hB6 (by unfold Dq;omega)))]⟩
       ·intro h12b
        have h12:=dT (Ah h12b)
        refine Au<|C0<|Ad<|Ac<|Ae rfl<|B9 rfl rfl<|Af rfl<|Aa<|Ad<|fun a F=>?_
        exact ⟨_,by omega,i+1,rfl,F.to ⟨rfl,rfl,trivial⟩,M,by omega,Fl hA hB6 (by unfold Dq;omega)⟩
      ·skip
       have h13:=dF h13b
       refine g_f rfl h13b<|g_f rfl h13b<|g_t rfl h9b<|Bh rfl h13b rfl<|Bh rfl h9b rfl<|C9 rfl<|Aa<|Ad<|Bk rfl rfl<|Ab<|Ac<|Af rfl<|Aa<|Ad<|Aj<|Bo<|Aw<|Aw<|Bo<|Aw<|Al rfl rfl<|?_
       exact ⟨M,by rw [if_neg (fun h_:Dd s=>absurd h_.2 (Gh hB6 (by unfold Dq;omega)))]⟩
    ·skip
     have h14:=dF h14b
     refine g_f rfl h14b<|g_f rfl h14b<|Bh rfl h14b rfl<|Ae rfl<|g_t rfl rfl<|Ae rfl<|g_t rfl rfl<|Li rfl rfl<|g_t rfl rfl<|Ae rfl<|?_
     rcases bE (decide (48≤nb B6)) with h15b | h18b
     ·skip
      have h15:=dT h15b
      refine g_t rfl h15b<|Ae rfl<|g_t rfl h15b<|Lv rfl rfl<|g_t rfl rfl<|Bi rfl h15b rfl<|Bh rfl rfl rfl<|C9 rfl<|Aa<|Ad<|Av rfl ?_ ?_
      ·intro h16b
       have h16:=dF (Ag h16b)
       refine Ab<|Ac<|Af rfl<|Aa<|Ad<|Aj<|Bo<|Aw<|Aw<|Bo<|Aw<|Al rfl rfl<|?_
       exact ⟨M,by rw [if_neg (fun h_:Dd s=>absurd h_.2 (Gh hB6 (by unfold Dq;omega)))]⟩
      ·intro h17b
       have h17:=dT (Ah h17b)
       refine Au<|C0<|Ad<|Ac<|Ae rfl<|B9 rfl rfl<|Af rfl<|Aa<|Ad<|fun a F=>?_
       exact ⟨_,by omega,i+1,rfl,F.to ⟨rfl,rfl,trivial⟩,M,by omega,Fl hA hB6 (by unfold Dq;omega)⟩
     ·skip
      have h18:=dF h18b
      refine g_f rfl h18b<|g_f rfl h18b<|g_t rfl rfl<|Bh rfl h18b rfl<|Bh rfl rfl rfl<|C9 rfl<|Aa<|Ad<|Bk rfl rfl<|Ab<|Ac<|Af rfl<|Aa<|Ad<|Aj<|Bo<|Aw<|Aw<|Bo<|Aw<|Al rfl rfl<|?_
      exact ⟨M,by rw [if_neg (fun h_:Dd s=>absurd h_.2 (Gh hB6 (by unfold Dq;omega)))]⟩
   ·intro h19b
    have h19:=dF h19b
    refine B1<|Bx<|Bx<|Dj<|Ad<|Ab<|Ac<|Af rfl<|Aa<|Ad<|Aj<|Al rfl rfl<|?_
    exact ⟨M,by rw [if_pos (show Dd s from ⟨by omega,E6 hA (by omega)⟩)]⟩
theorem Yf (M:Mem w0 G L w) {s:List UInt8} (hs:s.length≤9223372036854775807):Calls Tryz.prog 106 #[.string (str s)] w (Cl w0 G L fun v=>v=.int .i64 (if Str s then (1:Int) else 0)):=by
 refine Az (vs:=[_]) Tryz.func106 rfl (n:=23) rfl rfl<|Ab<|Ac<|Af rfl<|Aa<|Ad<|Ab<|Ab<|Ac<|Ae rfl<|Ap (fun a F=>Cq Bq.k (F.ev rfl)) rfl<|Dn rfl rfl<|Aa<|Ad<|Av rfl ?_ ?_
 ·intro h1b
  have h1:=dT h1b
  refine Ab<|Ac<|Af rfl<|Aa<|Ad<|Aj<|Aw<|Al rfl rfl<|?_
  exact ⟨M,by rw [if_neg (fun h_:Str s=>by have:=h_.1;omega)]⟩
 ·intro h2b
  have h2:=dF h2b
  refine Au<|Ad<|Ab<|Ab<|Ac<|Af rfl<|Aa<|Ad<|A3<|fun a F=>B8 (fun m a' w'=>∃ (i:Nat),m=s.length - i∧Fits 23 a' [(0,.string (str s)),(3,.int .i64 ((i:Nat):Int))]∧Mem w0 G (L) w'∧(i≤s.length)∧(∀ (m:Nat) (b:UInt8),m < i→s[m]?=some b→I8 b)) _ ⟨0,rfl,F.to ⟨rfl,rfl,trivial⟩,M,by omega,fun m b h=>by omega⟩ ?_
  clear F M
  rintro m a w ⟨i,rfl,F,M,hi,hA⟩
  revert a
  refine Ab<|Ab<|Ac<|Ae rfl<|Ae rfl<|Ap (fun a F=>Cq Bq.k (F.ev rfl)) rfl<|Df rfl rfl<|Aa<|Ad<|Av rfl ?_ ?_
  ·intro h3b
   have h3:=dT h3b
   refine Au<|Ad<|Ab<|A3<|Ab<|Ac<|Ae rfl<|Ae rfl<|?_
   obtain ⟨B4,hB4⟩:=Be (xs:=(s)) (i:=i) (by omega)
   have lB4:=Ox B4
   refine Ap (fun a F=>Cx (i:=i) Bq.k (F.ev rfl) (F.ev rfl) hB4) rfl<|Df rfl rfl<|Ae rfl<|?_
   rcases bE (decide (nb B4 < 32)) with h5b | h6b
   ·skip
    have h5:=dT h5b
    refine g_f rfl h5b<|g_f rfl h5b<|g_f rfl h5b<|g_f rfl h5b<|Bi rfl h5b rfl<|Aa<|Ad<|Bk rfl rfl<|Ab<|Ac<|Af rfl<|Aa<|Ad<|Aj<|Bo<|Aw<|Aw<|Bo<|Aw<|Al rfl rfl<|?_
    exact ⟨M,by rw [if_neg (fun h_:Str s=>absurd h_.2 (Gh hB4 (by unfold I8;omega)))]⟩
   ·skip
    have h6:=dF h6b
    refine g_t rfl h6b<|Ae rfl<|g_t rfl h6b<|Ae rfl<|g_t rfl h6b<|Ap (fun a F=>Cx (i:=i) Bq.k (F.ev rfl) (F.ev rfl) hB4) rfl<|g_t rfl h6b<|Dn rfl rfl<|Bh rfl h6b rfl<|Aa<|Ad<|Av rfl ?_ ?_
    ·intro h7b
     have h7:=dT h7b
     refine Ab<|Ac<|Af rfl<|Aa<|Ad<|Aj<|Bo<|Aw<|Aw<|Bo<|Aw<|Al rfl rfl<|?_
     exact ⟨M,by rw [if_neg (fun h_:Str s=>absurd h_.2 (Gh hB4 (by unfold I8;omega)))]⟩
    ·intro h8b
     have h8:=dF h8b
     refine Au<|C0<|Ad<|Ac<|Ae rfl<|B9 rfl rfl<|Af rfl<|Aa<|Ad<|fun a F=>?_
     exact ⟨_,by omega,i+1,rfl,F.to ⟨rfl,rfl,trivial⟩,M,by omega,Fl hA hB4 (by unfold I8;omega)⟩
  ·intro h9b
   have h9:=dF h9b
   refine B1<|Bx<|Bx<|Dj<|Ad<|Ab<|Ac<|Af rfl<|Aa<|Ad<|Aj<|Al rfl rfl<|?_
   exact ⟨M,by rw [if_pos (show Str s from ⟨by omega,E6 hA (by omega)⟩)]⟩
open Go Go.Y Go.Proofs
variable {w0 w:World} {G:A4} {L:List Res}
set_option linter.unusedSimpArgs false
set_option linter.unusedVariables false
theorem Adb (M:Mem w0 G L w) {s:List UInt8} (hs:s.length≤9223372036854775807):Calls Tryz.prog 52 #[.string (str s)] w (Cl w0 G L fun v=>∃ b:Bool,v=.bool b∧(b=true↔¬ Dd s)):=by
 refine Az (vs:=[_]) Tryz.func52 rfl (n:=6) rfl rfl<|Ab<|Ac<|Af rfl<|Aa<|Ad<|Ab<|Ac<|Ae rfl<|Br ent53 rfl rfl (Agj (s:=s) M (by assumption))<|?_;clear M;rintro _ w M ⟨b1,rfl,hb1⟩
 refine C9 rfl<|Af rfl<|Aa<|Ad<|Aj<|Al rfl rfl<|?_
 exact ⟨M,(!(b1)),rfl,(by clear M;grind)⟩
theorem P0 (M:Mem w0 G L w) {ad:Option Addr} {cd:Nat} {xs:List (List UInt8)} (S:Ay Dw 1 G (.slice ad xs.length cd) xs):Calls Tryz.prog 104 #[.slice ad xs.length cd,.func (.func 52) #[] #[]] w (Cl w0 G L fun v=>∃ z:Int,v=.int .i64 z∧(0≤z↔¬ ∀ s∈xs,Dd s)):=by
 have bS:=S.bound
 refine Az (vs:=[_,_]) Tryz.func104 rfl (n:=19) rfl rfl<|Ab<|Ac<|Af rfl<|Aa<|Ad<|Ab<|Ab<|Ac<|Ae rfl<|Cg Cd.k rfl<|Ae rfl<|Aa<|Ad<|A3<|fun a F=>B8 (fun m a' w'=>∃ (i:Nat),m=xs.length - i∧Fits 19 a' [(0,.slice ad xs.length cd),(1,.func (.func 52) #[] #[]),(7,.int .i64 ((xs.length:Nat):Int)),(8,.int .i64 ((i:Nat):Int))]∧Mem w0 G (L) w'∧(i≤xs.length)∧(∀ (m:Nat) (s:List UInt8),m < i→xs[m]?=some s→Dd s)) _ ⟨0,rfl,F.to ⟨rfl,rfl,rfl,rfl,trivial⟩,M,Nat.zero_le _,fun m d h=>by omega⟩ ?_
 clear F M
 rintro m a w ⟨i,rfl,F,M,hi,hA⟩
 revert a
 refine Ab<|Ac<|Df rfl rfl<|Aa<|Ad<|Ab<|Av rfl ?_ ?_
 ·intro h1b
  have h1:=dT h1b
  refine Au<|Ad<|Ab<|A3<|Ab<|Ac<|Ae rfl<|Af rfl<|Aa<|Ad<|Ab<|Ac<|Ae rfl<|Ae rfl<|Ae rfl<|?_
  obtain ⟨Xe2,hXe2⟩:=Be (xs:=xs) (i:=i) (by omega)
  obtain ⟨be2,oe2,_,Ie2,_,Ae2,⟨rfl,hsle2⟩⟩:=S.at hXe2
  refine Fp Cd.k Bq Ie2 rfl rfl<|D4 Bq M Ae2 0 rfl rfl (by omega) rfl<|Abg ent52 (caps:=[]) rfl rfl rfl (Adb (s:=Xe2) M (by omega))<|?_;clear M;rintro _ w M ⟨b3,rfl,hb3⟩
  refine Aa<|Ad<|Av rfl ?_ ?_
  ·intro h4b
   have h4:(b3)=true:=h4b
   refine Ab<|Ac<|Ae rfl<|Af rfl<|Aa<|Ad<|Aj<|Bo<|Aw<|Aw<|Bo<|Aw<|Al rfl rfl<|?_
   exact ⟨M,_,rfl,⟨fun _ h_=>(hb3.1 (by assumption)) (h_ _ (List.mem_of_getElem? hXe2)),fun _=>by omega⟩⟩
  ·intro h5b
   have h5:(b3)=false:=h5b
   refine Au<|C0<|Ad<|Ac<|B9 rfl rfl<|Ae rfl<|Aa<|Ad<|fun a F=>?_
   exact ⟨_,by omega,i+1,rfl,F.to ⟨rfl,rfl,rfl,rfl,trivial⟩,M,by omega,Pq hA hXe2 (by clear F M;grind)⟩
 ·intro h6b
  have h6:=dF h6b
  refine B1<|Bx<|Bx<|Dj<|Ad<|Ab<|Ac<|Af rfl<|Aa<|Ad<|Aj<|Al rfl rfl<|?_
  exact ⟨M,_,rfl,⟨fun h=>by omega,fun h=>absurd (Gs hA (by omega)) h⟩⟩
theorem N7 (M:Mem w0 G L w) {ad:Option Addr} {cd:Nat} {xs:List (List UInt8)} (S:Ay Dw 1 G (.slice ad xs.length cd) xs):Calls Tryz.prog 51 #[.slice ad xs.length cd,.func (.func 52) #[] #[]] w (Cl w0 G L fun v=>∃ b:Bool,v=.bool b∧(b=true↔¬ ∀ s∈xs,Dd s)):=by
 refine Az (vs:=[_,_]) Tryz.func51 rfl (n:=9) rfl rfl<|Ab<|Ac<|Af rfl<|Aa<|Ad<|Ab<|Ac<|Ae rfl<|Ae rfl<|Br Amh rfl rfl (P0 (xs:=xs) M S)<|?_;clear M;rintro _ w M ⟨z1,rfl,hz1⟩
 refine Li rfl rfl<|Af rfl<|Aa<|Ad<|Aj<|Al rfl rfl<|?_
 exact ⟨M,_,rfl,decide_eq_true_iff.trans hz1⟩
theorem Ahn {w0 w:World} {G:A4} {L:List Res} {b:Nat} {x:ItemD} {ma:Option Addr} {mc:Nat} (M:Mem w0 G (.blk b [.int .u64 ((x.key:Nat):Int),.int .u8 ((x.typ:Nat):Int),.string (str x.text),.slice ma x.marks.length mc] 26::L) w) (SM:Ay Dw 1 G (.slice ma x.marks.length mc) x.marks) :
  Calls Tryz.prog 47 #[.pointer (some ⟨b,0,none⟩)] w (Cl w0 G (.blk b [.int .u64 ((x.key:Nat):Int),.int .u8 ((x.typ:Nat):Int),.string (str x.text),.slice ma x.marks.length mc] 26::L) fun v=>∃ bb:Bool,v=.bool bb∧(bb=true↔Str x.text)):=by
 refine Az (vs:=[_]) Tryz.func47 rfl (n:=12) rfl rfl<|Ab<|Ac<|Af rfl<|Aa<|Ad<|Ab<|Ac<|Bc A1.k rfl rfl<|Bl Bq M 0 rfl rfl rfl rfl<|Ap (fun a F=>Cq Bq.k (F.ev rfl)) rfl<|Lv rfl rfl<|Ae rfl<|?_
 rcases bE (decide ((((x.text).length:Nat):Int)≤64)) with h1b | h3b
 ·skip
  have h1:=dT h1b
  refine g_t rfl h1b<|Bc A1.k rfl rfl<|g_t rfl h1b<|Bl Bq M 0 rfl rfl rfl rfl<|g_t rfl h1b<|Br ent48 rfl rfl (Z4 (s:=x.text) M)<|?_;clear M;rintro _ w M ⟨b2,rfl,hb2⟩
  refine g_t rfl h1b<|C9 rfl<|Bi rfl h1b rfl<|Af rfl<|Aa<|Ad<|Aj<|Al rfl rfl<|?_
  exact ⟨M,(!(b2)),rfl,(by clear M;unfold Str;grind)⟩
 ·skip
  have h3:=dF h3b
  refine g_f rfl h3b<|g_f rfl h3b<|g_f rfl h3b<|g_f rfl h3b<|Bh rfl h3b rfl<|Af rfl<|Aa<|Ad<|Aj<|Al rfl rfl<|?_
  exact ⟨M,false,rfl,(by clear M;unfold Str;grind)⟩
theorem Ahm {w0 w:World} {G:A4} {L:List Res} {b:Nat} {x:ItemD} {ma:Option Addr} {mc:Nat} (M:Mem w0 G (.blk b [.int .u64 ((x.key:Nat):Int),.int .u8 ((x.typ:Nat):Int),.string (str x.text),.slice ma x.marks.length mc] 26::L) w) (SM:Ay Dw 1 G (.slice ma x.marks.length mc) x.marks) :
  Calls Tryz.prog 50 #[.pointer (some ⟨b,0,none⟩)] w (Cl w0 G (.blk b [.int .u64 ((x.key:Nat):Int),.int .u8 ((x.typ:Nat):Int),.string (str x.text),.slice ma x.marks.length mc] 26::L) fun v=>∃ bb:Bool,v=.bool bb∧(bb=true↔(x.marks.length≤8∧∀ s∈x.marks,Dd s))):=by
 refine Az (vs:=[_]) Tryz.func50 rfl (n:=12) rfl rfl<|Ab<|Ac<|Af rfl<|Aa<|Ad<|Ab<|Ac<|Bc A1.k rfl rfl<|Bl Cd M 0 rfl rfl rfl rfl<|Cg Cd.k rfl<|Lv rfl rfl<|Ae rfl<|?_
 rcases bE (decide (((x.marks.length:Nat):Int)≤8)) with h1b | h3b
 ·skip
  have h1:=dT h1b
  refine g_t rfl h1b<|Bc A1.k rfl rfl<|g_t rfl h1b<|Bl Cd M 0 rfl rfl rfl rfl<|g_t rfl h1b<|Br ent51 rfl rfl (N7 (xs:=x.marks) M SM)<|?_;clear M;rintro _ w M ⟨b2,rfl,hb2⟩
  refine g_t rfl h1b<|C9 rfl<|Bi rfl h1b rfl<|Af rfl<|Aa<|Ad<|Aj<|Al rfl rfl<|?_
  exact ⟨M,(!(b2)),rfl,(by clear M;grind)⟩
 ·skip
  have h3:=dF h3b
  refine g_f rfl h3b<|g_f rfl h3b<|g_f rfl h3b<|g_f rfl h3b<|Bh rfl h3b rfl<|Af rfl<|Aa<|Ad<|Aj<|Al rfl rfl<|?_
  exact ⟨M,false,rfl,(by clear M;grind)⟩
theorem Jn (M:Mem w0 G L w) {x:ItemD} {ma:Option Addr} {mc:Nat} (hI:(x.key < 18446744073709551616∧x.typ < 256∧x.text.length≤9223372036854775807)) (SM:Ay Dw 1 G (.slice ma x.marks.length mc) x.marks) {t:Int}:Calls Tryz.prog 14 #[.agg #[.int .u64 ((x.key:Nat):Int),.int .u8 ((x.typ:Nat):Int),.string (str x.text),.slice ma x.marks.length mc],.int .i64 t] w (Cl w0 G L fun v=>v=.int .i64 (Gt t x)):=by
 refine Az (vs:=[_,_]) Tryz.func14 rfl (n:=29) rfl rfl<|Ab<|?_
 obtain ⟨hI1,hI2,hI3⟩:=hI
 refine Ac<|C4 M rfl rfl rfl<|?_;clear M;intro b1 w M
 refine Af rfl<|Aa<|Ad<|Ab<|Ac<|Ap (fun a F=>Dk (vs:=#[.pointer (some ⟨b1,0,none⟩)]) (by simp only [List.map_toArray,List.map_cons,List.map_nil,F.ev (x:=.tmp 2) rfl])) rfl<|Af rfl<|Aa<|Ad<|Ab<|Ac<|Ap (fun a F=>Dk (vs:=#[.pointer (some ⟨b1,0,none⟩)]) (by simp only [List.map_toArray,List.map_cons,List.map_nil,F.ev (x:=.tmp 2) rfl])) rfl<|Af rfl<|Aa<|Ad<|Ab<|Ab<|Ac<|Bc A1.k rfl rfl<|Bl Eh M 0 rfl rfl rfl rfl<|Dc rfl rfl<|Ae rfl<|?_
 rcases bE (decide (((x.key:Nat):Int)=0)) with h2b | h3b
 ·skip
  have h2:=dT h2b
  refine g_f rfl h2b<|g_f rfl h2b<|g_f rfl h2b<|g_f rfl h2b<|g_f rfl h2b<|Bi rfl h2b rfl<|Ae rfl<|g_f rfl rfl<|g_f rfl rfl<|g_f rfl rfl<|Bi rfl rfl rfl<|Ae rfl<|g_f rfl rfl<|g_f rfl rfl<|g_f rfl rfl<|Bi rfl rfl rfl<|Aa<|Ad<|Bk rfl rfl<|Ab<|Ac<|Af rfl<|Aa<|Ad<|?_
  refine Aj<|Aw<|Al rfl rfl<|?_
  exact ⟨M.weaken (.cons _ (sR _)),by rw [Fv (by clear M;unfold ItemOk;grind)]⟩
 ·skip
  have h3:=dF h3b
  refine g_t rfl h3b<|Bc A1.k rfl rfl<|g_t rfl h3b<|Bl Ew M 0 rfl rfl rfl rfl<|g_t rfl h3b<|Ap (fun a F=>Dl B7.k ⟨_,by rw [C5 Ew.k]⟩ (F.ev rfl) (Cr (by omega) (by omega))) rfl<|g_t rfl h3b<|Ae rfl<|g_t rfl h3b<|Li rfl rfl<|Bh rfl h3b rfl<|Ae rfl<|?_
  rcases bE (decide (t≤((x.typ:Nat):Int))) with h4b | h5b
  ·skip
   have h4:=dT h4b
   refine g_f rfl h4b<|g_f rfl h4b<|g_f rfl h4b<|Bi rfl h4b rfl<|Ae rfl<|g_f rfl rfl<|g_f rfl rfl<|g_f rfl rfl<|Bi rfl rfl rfl<|Aa<|Ad<|Bk rfl rfl<|Ab<|Ac<|Af rfl<|Aa<|Ad<|Aj<|Aw<|Al rfl rfl<|?_
   exact ⟨M.weaken (.cons _ (sR _)),by rw [Fv (by clear M;unfold ItemOk;grind)]⟩
  ·skip
   have h5:=dF h5b
   refine g_t rfl h5b<|Ae rfl<|g_t rfl h5b<|?_
   change Mem w0 G (_::L) _ at M
   refine Abg ent47 (caps:=[.pointer (some ⟨b1,0,none⟩)]) rfl rfl rfl (Ahn (x:=x) M SM)<|?_;clear M;rintro _ w M ⟨b6,rfl,hb6⟩
   refine g_t rfl h5b<|C9 rfl<|Bh rfl h5b rfl<|Ae rfl<|?_
   rcases bE (!(b6)) with h7b | h8b
   ·skip
    have h7:=Ag h7b
    have h7c:(b6)=false:=(Ag h7b)
    refine g_f rfl (Ak h7c)<|g_f rfl (Ak h7c)<|g_f rfl (Ak h7c)<|Bi rfl (Ak h7c) rfl<|Aa<|Ad<|Bk rfl rfl<|Ab<|Ac<|Af rfl<|Aa<|Ad<|Aj<|Aw<|Al rfl rfl<|?_
    exact ⟨M.weaken (.cons _ (sR _)),by rw [Fv (by clear M;unfold ItemOk;grind)]⟩
   ·skip
    have h8:=Ah h8b
    have h8c:(b6)=true:=(Ah h8b)
    refine g_t rfl (Ai h8c)<|Ae rfl<|g_t rfl (Ai h8c)<|?_
    change Mem w0 G (_::L) _ at M
    refine Abg ent50 (caps:=[.pointer (some ⟨b1,0,none⟩)]) rfl rfl rfl (Ahm (x:=x) M SM)<|?_;clear M;rintro _ w M ⟨b9,rfl,hb9⟩
    refine g_t rfl (Ai h8c)<|C9 rfl<|Bh rfl (Ai h8c) rfl<|Aa<|Ad<|Av rfl ?_ ?_
    ·intro h10b
     have h10:=Ag h10b
     have h10c:(b9)=false:=(Ag h10b)
     refine Ab<|Ac<|Af rfl<|Aa<|Ad<|Aj<|Aw<|Al rfl rfl<|?_
     exact ⟨M.weaken (.cons _ (sR _)),by rw [Fv (by clear M;unfold ItemOk;grind)]⟩
    ·intro h11b
     have h11:=Ah h11b
     have h11c:(b9)=true:=(Ah h11b)
     refine Au<|Ad<|Ab<|Ac<|Af rfl<|Aa<|Ad<|Aj<|Al rfl rfl<|?_
     exact ⟨M.weaken (.cons _ (sR _)),by rw [Dp (by first | (clear M;unfold ItemOk;grind) | exact ⟨by omega,by omega,by clear M;grind,by omega,Gs hA (by omega)⟩)]⟩
theorem Jv {P:Prop} {l:List (List UInt8)} {i:Nat} {ok:Int} {s:List UInt8} (h0:ok=0∨ok=1) (h:ok=1↔P∧∀ (m:Nat) (s:List UInt8),m < i→l[m]?=some s→Dd s) (hs:l[i]?=some s) :
  (ok * (if Dd s then (1:Int) else 0)=0∨ok * (if Dd s then (1:Int) else 0)=1)∧(ok * (if Dd s then (1:Int) else 0)=1↔P∧∀ (m:Nat) (s:List UInt8),m < i+1→l[m]?=some s→Dd s):=by
 by_cases hn:Dd s
 ·rw [if_pos hn,Int.mul_one]
  refine ⟨h0,h.trans ⟨fun ⟨h1,h2⟩=>⟨h1,Fl h2 hs hn⟩,fun ⟨h1,h2⟩=>⟨h1,fun m s hm=>h2 m s (by omega)⟩⟩⟩
 ·rw [if_neg hn,Int.mul_zero]
  exact ⟨Or.inl rfl,⟨fun h=>by omega,fun ⟨_,h2⟩=>absurd (h2 i s (by omega) hs) hn⟩⟩
theorem L3 (M:Mem w0 G L w) {x:ItemD} {ma:Option Addr} {mc:Nat} (hI:(x.key < 18446744073709551616∧x.typ < 256∧x.text.length≤9223372036854775807)) (SM:Ay Dw 1 G (.slice ma x.marks.length mc) x.marks) {t:Int}:Calls Tryz.prog 57 #[.agg #[.int .u64 ((x.key:Nat):Int),.int .u8 ((x.typ:Nat):Int),.string (str x.text),.slice ma x.marks.length mc],.int .i64 t] w (Cl w0 G L fun v=>v=.int .i64 (Gt t x)):=by
 refine Az (vs:=[_,_]) Tryz.func57 rfl (n:=43) rfl rfl<|Ab<|?_
 obtain ⟨hI1,hI2,hI3⟩:=hI
 have bSM:=SM.bound
 refine Ac<|C4 M rfl rfl rfl<|?_;clear M;intro b1 w M
 refine Af rfl<|Aa<|Ad<|Ab<|Ac<|Bc A1.k rfl rfl<|Bl Bq M 0 rfl rfl rfl rfl<|Br ent106 rfl rfl (Yf (s:=x.text) M (by omega))<|?_;clear M;rintro _ w M rfl
 refine Af rfl<|Aa<|Ad<|Ab<|Ab<|Ac<|Bc A1.k rfl rfl<|Bl Eh M 0 rfl rfl rfl rfl<|Dc rfl rfl<|Ae rfl<|?_
 rcases bE (decide (((x.key:Nat):Int)=0)) with h2b | h8b
 ·skip
  have h2:=dT h2b
  refine g_f rfl h2b<|g_f rfl h2b<|g_f rfl h2b<|g_f rfl h2b<|g_f rfl h2b<|Bi rfl h2b rfl<|Ae rfl<|g_f rfl rfl<|g_f rfl rfl<|g_f rfl rfl<|g_f rfl rfl<|Bi rfl rfl rfl<|Aa<|Ad<|Bk rfl rfl<|Ac<|Af rfl<|Aa<|Ad<|Ab<|Ab<|Ac<|Af rfl<|Aa<|?_
  refine Ad<|A3<|fun a F=>?_
  refine B8 (fun m a' w'=>∃ (i:Nat),∃ (ok:Int),m=x.marks.length - i∧Fits 43 a' [(1,.int .i64 t),(2,.pointer (some ⟨b1,0,none⟩)),(5,.int .i64 ok),(6,.int .i64 ((i:Nat):Int))]∧Mem w0 G (.blk b1 [.int .u64 ((x.key:Nat):Int),.int .u8 ((x.typ:Nat):Int),.string (str x.text),.slice ma x.marks.length mc] 26::L) w'∧(i≤x.marks.length)∧(ok=0∨ok=1)∧(ok=1↔(x.key≠0∧(x.typ:Int) < t∧Str x.text∧x.marks.length≤8)∧∀ (m:Nat) (s:List UInt8),m < i→x.marks[m]?=some s→Dd s)) _ ⟨0,0,rfl,F.to ⟨rfl,rfl,rfl,rfl,trivial⟩,M,Nat.zero_le _,(by first | omega | (split <;> omega)),⟨fun h_=>⟨(by clear F M;grind),fun m s hm=>by omega⟩,fun h_=>(by clear F M;grind)⟩⟩ ?_
  clear F M
  rintro m a w ⟨i,ok,rfl,F,M,hi,hok,hA⟩
  revert a
  refine Ab<|Ab<|Ac<|Ae rfl<|Bc A1.k rfl rfl<|Bl Cd M 0 rfl rfl rfl rfl<|Cg Cd.k rfl<|Df rfl rfl<|Aa<|Ad<|Av rfl ?_ ?_
  ·intro h3b
   have h3:=dT h3b
   refine Au<|Ad<|Ab<|A3<|Ac<|Ae rfl<|Bc A1.k rfl rfl<|Bl Cd M 0 rfl rfl rfl rfl<|Ae rfl<|?_
   obtain ⟨Xe4,hXe4⟩:=Be (xs:=x.marks) (i:=i) (by omega)
   obtain ⟨be4,oe4,_,Ie4,_,Ae4,⟨rfl,hsle4⟩⟩:=SM.at hXe4
   refine Fp Cd.k Bq Ie4 rfl rfl<|D4 Bq M Ae4 0 rfl rfl (by omega) rfl<|Br Xs rfl rfl (Gk (s:=Xe4) M (by omega))<|?_;clear M;rintro _ w M rfl
   refine Ap (fun a F=>Ke (F.ev rfl) (F.ev rfl) (Cr (by (rcases hok with rfl | rfl <;> split <;> omega)) (by (rcases hok with rfl | rfl <;> split <;> omega)))) rfl<|Af rfl<|Aa<|C0<|Ad<|Ac<|Ae rfl<|B9 rfl rfl<|Af rfl<|Aa<|Ad<|fun a F=>?_
   exact ⟨_,by omega,i+1,ok * ((if Dd Xe4 then (1:Int) else 0)),rfl,F.to ⟨rfl,rfl,rfl,rfl,trivial⟩,M,by omega,(Jv hok hA hXe4).1,(Jv hok hA hXe4).2⟩
  ·intro h5b
   have h5:=dF h5b
   refine B1<|Bx<|Bx<|Dj<|Ad<|Ab<|Ab<|Ac<|Ae rfl<|Dc rfl rfl<|Aa<|Ad<|Av rfl ?_ ?_
   ·intro h6b
    have h6:=dT h6b
    refine Ab<|Ac<|Af rfl<|Aa<|Ad<|Aj<|Aw<|Al rfl rfl<|?_
    exact ⟨M.weaken (.cons _ (sR _)),by rw [Dp (by clear M;obtain ⟨h1_,h2_⟩:=hA.1 (by omega);exact ⟨h1_.1,h1_.2.1,h1_.2.2.1,h1_.2.2.2,Gs h2_ (by omega)⟩)]⟩
   ·intro h7b
    have h7:=dF h7b
    refine Au<|Ad<|Ab<|Ac<|Af rfl<|Aa<|Ad<|Aj<|Al rfl rfl<|?_
    exact ⟨M.weaken (.cons _ (sR _)),by rw [Fv (by clear M;intro h_;have:=hA.2 ⟨⟨h_.1,h_.2.1,h_.2.2.1,h_.2.2.2.1⟩,fun m s _ hs=>h_.2.2.2.2 s (List.mem_of_getElem? hs)⟩;omega)]⟩
 ·skip
  have h8:=dF h8b
  refine g_t rfl h8b<|Ae rfl<|g_t rfl h8b<|Bc A1.k rfl rfl<|g_t rfl h8b<|Bl Ew M 0 rfl rfl rfl rfl<|g_t rfl h8b<|Ap (fun a F=>Dl B7.k ⟨_,by rw [C5 Ew.k]⟩ (F.ev rfl) (Cr (by omega) (by omega))) rfl<|g_t rfl h8b<|Lv rfl rfl<|Bh rfl h8b rfl<|Ae rfl<|?_
  rcases bE (decide (t≤((x.typ:Nat):Int))) with h9b | h15b
  ·skip
   have h9:=dT h9b
   refine g_f rfl h9b<|g_f rfl h9b<|g_f rfl h9b<|g_f rfl h9b<|Bi rfl h9b rfl<|Aa<|Ad<|Bk rfl rfl<|Ac<|Af rfl<|Aa<|Ad<|Ab<|Ab<|Ac<|Af rfl<|Aa<|Ad<|A3<|fun a F=>?_
   refine B8 (fun m a' w'=>∃ (i:Nat),∃ (ok:Int),m=x.marks.length - i∧Fits 43 a' [(1,.int .i64 t),(2,.pointer (some ⟨b1,0,none⟩)),(5,.int .i64 ok),(6,.int .i64 ((i:Nat):Int))]∧Mem w0 G (.blk b1 [.int .u64 ((x.key:Nat):Int),.int .u8 ((x.typ:Nat):Int),.string (str x.text),.slice ma x.marks.length mc] 26::L) w'∧(i≤x.marks.length)∧(ok=0∨ok=1)∧(ok=1↔(x.key≠0∧(x.typ:Int) < t∧Str x.text∧x.marks.length≤8)∧∀ (m:Nat) (s:List UInt8),m < i→x.marks[m]?=some s→Dd s)) _ ⟨0,0,rfl,F.to ⟨rfl,rfl,rfl,rfl,trivial⟩,M,Nat.zero_le _,(by first | omega | (split <;> omega)),⟨fun h_=>⟨(by clear F M;grind),fun m s hm=>by omega⟩,fun h_=>(by clear F M;grind)⟩⟩ ?_
   clear F M
   rintro m a w ⟨i,ok,rfl,F,M,hi,hok,hA⟩
   revert a
   refine Ab<|Ab<|Ac<|Ae rfl<|Bc A1.k rfl rfl<|Bl Cd M 0 rfl rfl rfl rfl<|Cg Cd.k rfl<|Df rfl rfl<|Aa<|Ad<|Av rfl ?_ ?_
   ·intro h10b
    have h10:=dT h10b
    refine Au<|Ad<|Ab<|A3<|Ac<|Ae rfl<|Bc A1.k rfl rfl<|Bl Cd M 0 rfl rfl rfl rfl<|Ae rfl<|?_
    obtain ⟨Xe11,hXe11⟩:=Be (xs:=x.marks) (i:=i) (by omega)
    obtain ⟨be11,oe11,_,Ie11,_,Ae11,⟨rfl,hsle11⟩⟩:=SM.at hXe11
    refine Fp Cd.k Bq Ie11 rfl rfl<|D4 Bq M Ae11 0 rfl rfl (by omega) rfl<|Br Xs rfl rfl (Gk (s:=Xe11) M (by omega))<|?_;clear M;rintro _ w M rfl
    refine Ap (fun a F=>Ke (F.ev rfl) (F.ev rfl) (Cr (by (rcases hok with rfl | rfl <;> split <;> omega)) (by (rcases hok with rfl | rfl <;> split <;> omega)))) rfl<|Af rfl<|Aa<|C0<|Ad<|Ac<|Ae rfl<|B9 rfl rfl<|Af rfl<|Aa<|Ad<|fun a F=>?_
    exact ⟨_,by omega,i+1,ok * ((if Dd Xe11 then (1:Int) else 0)),rfl,F.to ⟨rfl,rfl,rfl,rfl,trivial⟩,M,by omega,(Jv hok hA hXe11).1,(Jv hok hA hXe11).2⟩
   ·intro h12b
    have h12:=dF h12b
    refine B1<|Bx<|Bx<|Dj<|Ad<|Ab<|Ab<|Ac<|Ae rfl<|Dc rfl rfl<|Aa<|Ad<|Av rfl ?_ ?_
    ·intro h13b
     have h13:=dT h13b
     refine Ab<|Ac<|Af rfl<|Aa<|Ad<|Aj<|Aw<|Al rfl rfl<|?_
     exact ⟨M.weaken (.cons _ (sR _)),by rw [Dp (by clear M;obtain ⟨h1_,h2_⟩:=hA.1 (by omega);exact ⟨h1_.1,h1_.2.1,h1_.2.2.1,h1_.2.2.2,Gs h2_ (by omega)⟩)]⟩
    ·intro h14b
     have h14:=dF h14b
     refine Au<|Ad<|Ab<|Ac<|Af rfl<|Aa<|Ad<|Aj<|Al rfl rfl<|?_
     exact ⟨M.weaken (.cons _ (sR _)),by rw [Fv (by clear M;intro h_;have:=hA.2 ⟨⟨h_.1,h_.2.1,h_.2.2.1,h_.2.2.2.1⟩,fun m s _ hs=>h_.2.2.2.2 s (List.mem_of_getElem? hs)⟩;omega)]⟩
  ·skip
   have h15:=dF h15b
   refine g_t rfl h15b<|Bc A1.k rfl rfl<|g_t rfl h15b<|Bl Cd M 0 rfl rfl rfl rfl<|g_t rfl h15b<|Cg Cd.k rfl<|g_t rfl h15b<|Dn rfl rfl<|Bh rfl h15b rfl<|Aa<|Ad<|Av rfl ?_ ?_
   ·intro h16b
    have h16:=dT h16b
    refine Ac<|Af rfl<|Aa<|Ad<|Ab<|Ab<|Ac<|Af rfl<|Aa<|Ad<|A3<|fun a F=>?_
    refine B8 (fun m a' w'=>∃ (i:Nat),∃ (ok:Int),m=x.marks.length - i∧Fits 43 a' [(1,.int .i64 t),(2,.pointer (some ⟨b1,0,none⟩)),(5,.int .i64 ok),(6,.int .i64 ((i:Nat):Int))]∧Mem w0 G (.blk b1 [.int .u64 ((x.key:Nat):Int),.int .u8 ((x.typ:Nat):Int),.string (str x.text),.slice ma x.marks.length mc] 26::L) w'∧(i≤x.marks.length)∧(ok=0∨ok=1)∧(ok=1↔(x.key≠0∧(x.typ:Int) < t∧Str x.text∧x.marks.length≤8)∧∀ (m:Nat) (s:List UInt8),m < i→x.marks[m]?=some s→Dd s)) _ ⟨0,0,rfl,F.to ⟨rfl,rfl,rfl,rfl,trivial⟩,M,Nat.zero_le _,(by first | omega | (split <;> omega)),⟨fun h_=>⟨(by clear F M;grind),fun m s hm=>by omega⟩,fun h_=>(by clear F M;grind)⟩⟩ ?_
    clear F M
    rintro m a w ⟨i,ok,rfl,F,M,hi,hok,hA⟩
    revert a
    refine Ab<|Ab<|Ac<|Ae rfl<|Bc A1.k rfl rfl<|Bl Cd M 0 rfl rfl rfl rfl<|Cg Cd.k rfl<|Df rfl rfl<|Aa<|Ad<|Av rfl ?_ ?_
    ·intro h17b
     have h17:=dT h17b
     refine Au<|Ad<|Ab<|A3<|Ac<|Ae rfl<|Bc A1.k rfl rfl<|Bl Cd M 0 rfl rfl rfl rfl<|Ae rfl<|?_
     obtain ⟨Xe18,hXe18⟩:=Be (xs:=x.marks) (i:=i) (by omega)
     obtain ⟨be18,oe18,_,Ie18,_,Ae18,⟨rfl,hsle18⟩⟩:=SM.at hXe18
     refine Fp Cd.k Bq Ie18 rfl rfl<|D4 Bq M Ae18 0 rfl rfl (by omega) rfl<|Br Xs rfl rfl (Gk (s:=Xe18) M (by omega))<|?_;clear M;rintro _ w M rfl
     refine Ap (fun a F=>Ke (F.ev rfl) (F.ev rfl) (Cr (by (rcases hok with rfl | rfl <;> split <;> omega)) (by (rcases hok with rfl | rfl <;> split <;> omega)))) rfl<|Af rfl<|Aa<|C0<|Ad<|Ac<|Ae rfl<|B9 rfl rfl<|Af rfl<|Aa<|Ad<|fun a F=>?_
     exact ⟨_,by omega,i+1,ok * ((if Dd Xe18 then (1:Int) else 0)),rfl,F.to ⟨rfl,rfl,rfl,rfl,trivial⟩,M,by omega,(Jv hok hA hXe18).1,(Jv hok hA hXe18).2⟩
    ·intro h19b
     have h19:=dF h19b
     refine B1<|Bx<|Bx<|Dj<|Ad<|Ab<|Ab<|Ac<|Ae rfl<|Dc rfl rfl<|Aa<|Ad<|Av rfl ?_ ?_
     ·intro h20b
      have h20:=dT h20b
      refine Ab<|Ac<|Af rfl<|Aa<|Ad<|Aj<|Aw<|Al rfl rfl<|?_
      exact ⟨M.weaken (.cons _ (sR _)),by rw [Dp (by clear M;obtain ⟨h1_,h2_⟩:=hA.1 (by omega);exact ⟨h1_.1,h1_.2.1,h1_.2.2.1,h1_.2.2.2,Gs h2_ (by omega)⟩)]⟩
     ·intro h21b
      have h21:=dF h21b
      refine Au<|Ad<|Ab<|Ac<|Af rfl<|Aa<|Ad<|Aj<|Al rfl rfl<|?_
      exact ⟨M.weaken (.cons _ (sR _)),by rw [Fv (by clear M;intro h_;have:=hA.2 ⟨⟨h_.1,h_.2.1,h_.2.2.1,h_.2.2.2.1⟩,fun m s _ hs=>h_.2.2.2.2 s (List.mem_of_getElem? hs)⟩;omega)]⟩
   ·intro h22b
    have h22:=dF h22b
    refine Au<|Ad<|Ab<|Ab<|Ac<|Af rfl<|Aa<|Ad<|A3<|fun a F=>?_
    refine B8 (fun m a' w'=>∃ (i:Nat),∃ (ok:Int),m=x.marks.length - i∧Fits 43 a' [(1,.int .i64 t),(2,.pointer (some ⟨b1,0,none⟩)),(5,.int .i64 ok),(6,.int .i64 ((i:Nat):Int))]∧Mem w0 G (.blk b1 [.int .u64 ((x.key:Nat):Int),.int .u8 ((x.typ:Nat):Int),.string (str x.text),.slice ma x.marks.length mc] 26::L) w'∧(i≤x.marks.length)∧(ok=0∨ok=1)∧(ok=1↔(x.key≠0∧(x.typ:Int) < t∧Str x.text∧x.marks.length≤8)∧∀ (m:Nat) (s:List UInt8),m < i→x.marks[m]?=some s→Dd s)) _ ⟨0,(if Str x.text then (1:Int) else 0),rfl,F.to ⟨rfl,rfl,rfl,rfl,trivial⟩,M,Nat.zero_le _,(by first | omega | (split <;> omega)),⟨fun h_=>⟨(by clear F M;grind),fun m s hm=>by omega⟩,fun h_=>(by clear F M;grind)⟩⟩ ?_
    clear F M
    rintro m a w ⟨i,ok,rfl,F,M,hi,hok,hA⟩
    revert a
    refine Ab<|Ab<|Ac<|Ae rfl<|Bc A1.k rfl rfl<|Bl Cd M 0 rfl rfl rfl rfl<|Cg Cd.k rfl<|Df rfl rfl<|Aa<|Ad<|Av rfl ?_ ?_
    ·intro h23b
     have h23:=dT h23b
     refine Au<|Ad<|Ab<|A3<|Ac<|Ae rfl<|Bc A1.k rfl rfl<|Bl Cd M 0 rfl rfl rfl rfl<|Ae rfl<|?_
     obtain ⟨Xe24,hXe24⟩:=Be (xs:=x.marks) (i:=i) (by omega)
     obtain ⟨be24,oe24,_,Ie24,_,Ae24,⟨rfl,hsle24⟩⟩:=SM.at hXe24
     refine Fp Cd.k Bq Ie24 rfl rfl<|D4 Bq M Ae24 0 rfl rfl (by omega) rfl<|Br Xs rfl rfl (Gk (s:=Xe24) M (by omega))<|?_;clear M;rintro _ w M rfl
     refine Ap (fun a F=>Ke (F.ev rfl) (F.ev rfl) (Cr (by (rcases hok with rfl | rfl <;> split <;> omega)) (by (rcases hok with rfl | rfl <;> split <;> omega)))) rfl<|Af rfl<|Aa<|C0<|Ad<|Ac<|Ae rfl<|B9 rfl rfl<|Af rfl<|Aa<|Ad<|fun a F=>?_
     exact ⟨_,by omega,i+1,ok * ((if Dd Xe24 then (1:Int) else 0)),rfl,F.to ⟨rfl,rfl,rfl,rfl,trivial⟩,M,by omega,(Jv hok hA hXe24).1,(Jv hok hA hXe24).2⟩
    ·intro h25b
     have h25:=dF h25b
     refine B1<|Bx<|Bx<|Dj<|Ad<|Ab<|Ab<|Ac<|Ae rfl<|Dc rfl rfl<|Aa<|Ad<|Av rfl ?_ ?_
     ·intro h26b
      have h26:=dT h26b
      refine Ab<|Ac<|Af rfl<|Aa<|Ad<|Aj<|Aw<|Al rfl rfl<|?_
      exact ⟨M.weaken (.cons _ (sR _)),by rw [Dp (by clear M;obtain ⟨h1_,h2_⟩:=hA.1 (by omega);exact ⟨h1_.1,h1_.2.1,h1_.2.2.1,h1_.2.2.2,Gs h2_ (by omega)⟩)]⟩
     ·intro h27b
      have h27:=dF h27b
      refine Au<|Ad<|Ab<|Ac<|Af rfl<|Aa<|Ad<|Aj<|Al rfl rfl<|?_
      exact ⟨M.weaken (.cons _ (sR _)),by rw [Fv (by clear M;intro h_;have:=hA.2 ⟨⟨h_.1,h_.2.1,h_.2.2.1,h_.2.2.2.1⟩,fun m s _ hs=>h_.2.2.2.2 s (List.mem_of_getElem? hs)⟩;omega)]⟩
open Go Go.Y Go.Proofs
variable {w0 w:World} {G:A4} {L:List Res}
set_option linter.unusedSimpArgs false
set_option linter.unusedVariables false
theorem Abn (M:Mem w0 G L w) {x:ItemD} {max:Option Addr} {mcx:Nat} (hIx:(x.key < 18446744073709551616∧x.typ < 256∧x.text.length≤9223372036854775807)) (SMx:Ay Dw 1 G (.slice max x.marks.length mcx) x.marks) {y:ItemD} {may:Option Addr} {mcy:Nat} (hIy:(y.key < 18446744073709551616∧y.typ < 256∧y.text.length≤9223372036854775807)) (SMy:Ay Dw 1 G (.slice may y.marks.length mcy) y.marks):Calls Tryz.prog 46 #[.agg #[.int .u64 ((x.key:Nat):Int),.int .u8 ((x.typ:Nat):Int),.string (str x.text),.slice max x.marks.length mcx],.agg #[.int .u64 ((y.key:Nat):Int),.int .u8 ((y.typ:Nat):Int),.string (str y.text),.slice may y.marks.length mcy]] w (Cl w0 G L fun v=>v=.int .i64 (if x=y then (1:Int) else 0)):=by
 refine Az (vs:=[_,_]) Tryz.func46 rfl (n:=52) rfl rfl<|Ab<|Ac<|C4 M rfl rfl rfl<|?_;clear M;intro b1 w M
 refine C4 M rfl rfl rfl<|?_;clear M;intro b2 w M
 refine Af rfl<|Aa<|Ad<|Ab<|Ab<|?_
 have bSM:=SMx.bound
 refine Ac<|Bc A1.k rfl rfl<|Bl Eh M 1 rfl rfl rfl rfl<|Bc A1.k rfl rfl<|Bl Eh M 0 rfl rfl rfl rfl<|D9 rfl rfl<|Ae rfl<|?_
 rcases bE (!(decide (((x.key:Nat):Int)=((y.key:Nat):Int)))) with h3b | h4b
 ·skip
  have h3:=dF (Ag h3b)
  have h3c:(decide (((x.key:Nat):Int)=((y.key:Nat):Int)))=false:=(Ag h3b)
  refine g_f rfl (Ak h3c)<|g_f rfl (Ak h3c)<|g_f rfl (Ak h3c)<|g_f rfl (Ak h3c)<|g_f rfl (Ak h3c)<|Bi rfl (Ak h3c) rfl<|Ae rfl<|g_f rfl rfl<|g_f rfl rfl<|g_f rfl rfl<|g_f rfl rfl<|g_f rfl rfl<|Bi rfl rfl rfl<|Ae rfl<|g_f rfl rfl<|g_f rfl rfl<|g_f rfl rfl<|g_f rfl rfl<|g_f rfl rfl<|g_f rfl rfl<|g_f rfl rfl<|Bi rfl rfl rfl<|Aa<|Ad<|?_
  refine Bk rfl rfl<|Ab<|Ac<|Af rfl<|Aa<|Ad<|Aj<|Aw<|Al rfl rfl<|?_
  exact ⟨M.weaken (.cons _ (.cons _ (sR _))),by rw [if_neg (fun h_=>by subst h_;clear M;grind)]⟩
 ·skip
  have h4:=dT (Ah h4b)
  have h4c:(decide (((x.key:Nat):Int)=((y.key:Nat):Int)))=true:=(Ah h4b)
  refine g_t rfl (Ai h4c)<|Bc A1.k rfl rfl<|g_t rfl (Ai h4c)<|Bl Ew M 1 rfl rfl rfl rfl<|g_t rfl (Ai h4c)<|Bc A1.k rfl rfl<|g_t rfl (Ai h4c)<|Bl Ew M 0 rfl rfl rfl rfl<|g_t rfl (Ai h4c)<|D9 rfl rfl<|Bh rfl (Ai h4c) rfl<|Ae rfl<|?_
  rcases bE (!(decide (((x.typ:Nat):Int)=((y.typ:Nat):Int)))) with h5b | h6b
  ·skip
   have h5:=dF (Ag h5b)
   have h5c:(decide (((x.typ:Nat):Int)=((y.typ:Nat):Int)))=false:=(Ag h5b)
   refine g_f rfl (Ak h5c)<|g_f rfl (Ak h5c)<|g_f rfl (Ak h5c)<|g_f rfl (Ak h5c)<|g_f rfl (Ak h5c)<|Bi rfl (Ak h5c) rfl<|Ae rfl<|g_f rfl rfl<|g_f rfl rfl<|g_f rfl rfl<|g_f rfl rfl<|g_f rfl rfl<|g_f rfl rfl<|g_f rfl rfl<|Bi rfl rfl rfl<|Aa<|Ad<|Bk rfl rfl<|Ab<|Ac<|Af rfl<|Aa<|Ad<|Aj<|?_
   refine Aw<|Al rfl rfl<|?_
   exact ⟨M.weaken (.cons _ (.cons _ (sR _))),by rw [if_neg (fun h_=>by subst h_;clear M;grind)]⟩
  ·skip
   have h6:=dT (Ah h6b)
   have h6c:(decide (((x.typ:Nat):Int)=((y.typ:Nat):Int)))=true:=(Ah h6b)
   refine g_t rfl (Ai h6c)<|Bc A1.k rfl rfl<|g_t rfl (Ai h6c)<|Bl Bq M 1 rfl rfl rfl rfl<|g_t rfl (Ai h6c)<|Bc A1.k rfl rfl<|g_t rfl (Ai h6c)<|Bl Bq M 0 rfl rfl rfl rfl<|g_t rfl (Ai h6c)<|Gw rfl rfl<|Bh rfl (Ai h6c) rfl<|Ae rfl<|?_
   rcases bE (!(decide (x.text=y.text))) with h7b | h8b
   ·skip
    have h7:=dF (Ag h7b)
    have h7c:(decide (x.text=y.text))=false:=(Ag h7b)
    refine g_f rfl (Ak h7c)<|g_f rfl (Ak h7c)<|g_f rfl (Ak h7c)<|g_f rfl (Ak h7c)<|g_f rfl (Ak h7c)<|g_f rfl (Ak h7c)<|g_f rfl (Ak h7c)<|Bi rfl (Ak h7c) rfl<|Aa<|Ad<|Bk rfl rfl<|Ab<|Ac<|Af rfl<|Aa<|Ad<|Aj<|Aw<|Al rfl rfl<|?_
    exact ⟨M.weaken (.cons _ (.cons _ (sR _))),by rw [if_neg (fun h_=>by subst h_;clear M;grind)]⟩
   ·skip
    have h8:=dT (Ah h8b)
    have h8c:(decide (x.text=y.text))=true:=(Ah h8b)
    refine g_t rfl (Ai h8c)<|Bc A1.k rfl rfl<|g_t rfl (Ai h8c)<|Bl Cd M 1 rfl rfl rfl rfl<|g_t rfl (Ai h8c)<|Cg Cd.k rfl<|g_t rfl (Ai h8c)<|Bc A1.k rfl rfl<|g_t rfl (Ai h8c)<|Bl Cd M 0 rfl rfl rfl rfl<|g_t rfl (Ai h8c)<|Cg Cd.k rfl<|g_t rfl (Ai h8c)<|D9 rfl rfl<|Bh rfl (Ai h8c) rfl<|Aa<|Ad<|Av rfl ?_ ?_
    ·intro h9b
     have h9:=dF (Ag h9b)
     have h9c:(decide (((x.marks.length:Nat):Int)=((y.marks.length:Nat):Int)))=false:=(Ag h9b)
     refine Ab<|Ac<|Af rfl<|Aa<|Ad<|Aj<|Aw<|Al rfl rfl<|?_
     exact ⟨M.weaken (.cons _ (.cons _ (sR _))),by rw [if_neg (fun h_=>by subst h_;clear M;grind)]⟩
    ·intro h10b
     have h10:=dT (Ah h10b)
     have h10c:(decide (((x.marks.length:Nat):Int)=((y.marks.length:Nat):Int)))=true:=(Ah h10b)
     refine Au<|Ad<|Ab<|Ab<|Ac<|Af rfl<|Aa<|Ad<|A3<|fun a F=>B8 (fun m a' w'=>∃ (i:Nat),m=x.marks.length - i∧Fits 52 a' [(2,.pointer (some ⟨b1,0,none⟩)),(3,.pointer (some ⟨b2,0,none⟩)),(5,.int .i64 ((i:Nat):Int))]∧Mem w0 G (.blk b2 [.int .u64 ((y.key:Nat):Int),.int .u8 ((y.typ:Nat):Int),.string (str y.text),.slice may y.marks.length mcy] 26::.blk b1 [.int .u64 ((x.key:Nat):Int),.int .u8 ((x.typ:Nat):Int),.string (str x.text),.slice max x.marks.length mcx] 26::L) w'∧(i≤x.marks.length)∧(∀ m,m < i→x.marks[m]?=y.marks[m]?)) _ ⟨0,rfl,F.to ⟨rfl,rfl,rfl,trivial⟩,M,Nat.zero_le _,fun m h=>by omega⟩ ?_
     clear F M
     rintro m a w ⟨i,rfl,F,M,hi,hA⟩
     revert a
     refine Ab<|Ab<|Ac<|Ae rfl<|Bc A1.k rfl rfl<|Bl Cd M 1 rfl rfl rfl rfl<|Cg Cd.k rfl<|Df rfl rfl<|Aa<|Ad<|Av rfl ?_ ?_
     ·intro h11b
      have h11:=dT h11b
      refine Au<|Ad<|Ab<|A3<|Ab<|fun a F=>Fw [(true,0),(true,1),(true,2),(true,3),(true,4),(true,5),(true,6),(true,7),(true,8),(true,9),(true,10)] (Keep G [.blk b2 [.int .u64 ((y.key:Nat):Int),.int .u8 ((y.typ:Nat):Int),.string (str y.text),.slice may y.marks.length mcy] 26,.blk b1 [.int .u64 ((x.key:Nat):Int),.int .u8 ((x.typ:Nat):Int),.string (str x.text),.slice max x.marks.length mcx] 26]) rfl (by kernel_rfl) (fun c a d v w h=>by cases d <;> exact h) ((M.drew _).keep (Gle.refl _) (by simp)) ?_
      replace M:=M.drew (w.drawn+1)
      revert a
      refine l_r (fun a F w M=>Co A1.k rfl F rfl) rfl<|l_r (fun a F w M=>Aq (agf Cd rfl) (F.ev rfl) (M.cellL (k:=1) rfl rfl)) rfl<|l_r (fun a F w M=>Cj F rfl) rfl<|?_
      obtain ⟨Xe12,hXe12⟩:=Be (xs:=x.marks) (i:=i) (by omega)
      obtain ⟨be12,oe12,_,Ie12,_,Ae12,⟨rfl,hsle12⟩⟩:=SMx.at hXe12
      refine l_r (fun a F w M=>Ca Cd.k Bq (F.ev rfl) (F.ev rfl) (by omega) Ie12) rfl<|l_r (fun a F w M=>Aq (agf Bq rfl) (F.ev rfl) (M.cellA Ae12 0 (by omega) rfl)) rfl<|l_r (fun a F w M=>Co A1.k rfl F rfl) rfl<|l_r (fun a F w M=>Aq (agf Cd rfl) (F.ev rfl) (M.cellL (k:=0) rfl rfl)) rfl<|l_r (fun a F w M=>Cj F rfl) rfl<|?_
      obtain ⟨Xe13,hXe13⟩:=Be (xs:=y.marks) (i:=i) (by omega)
      obtain ⟨be13,oe13,_,Ie13,_,Ae13,⟨rfl,hsle13⟩⟩:=SMy.at hXe13
      refine l_r (fun a F w M=>Ca Cd.k Bq (F.ev rfl) (F.ev rfl) (by omega) Ie13) rfl<|l_r (fun a F w M=>Aq (agf Bq rfl) (F.ev rfl) (M.cellA Ae13 0 (by omega) rfl)) rfl<|l_r (fun a F w M=>Jd (F.ev rfl) (F.ev rfl)) rfl<|Gx<|?_
      generalize ({ w with drawn:=w.drawn+1 }:World)=w at M ⊢
      refine Ad<|Av rfl ?_ ?_
      ·intro h14b
       have h14:=dF (Ag h14b)
       have h14c:(decide (Xe12=Xe13))=false:=(Ag h14b)
       refine Ab<|Ac<|Af rfl<|Aa<|Ad<|Aj<|Bo<|Aw<|Aw<|Bo<|Aw<|Al rfl rfl<|?_
       exact ⟨M.weaken (.cons _ (.cons _ (sR _))),by rw [if_neg (fun h_=>absurd (congrArg ItemD.marks h_) (Pr hXe12 hXe13 (by assumption)))]⟩
      ·intro h15b
       have h15:=dT (Ah h15b)
       have h15c:(decide (Xe12=Xe13))=true:=(Ah h15b)
       refine Au<|C0<|Ad<|Ac<|Ae rfl<|B9 rfl rfl<|Af rfl<|Aa<|Ad<|fun a F=>?_
       exact ⟨_,by omega,i+1,rfl,F.to ⟨rfl,rfl,rfl,trivial⟩,M,by omega,Xo hA hXe12 hXe13 (by assumption)⟩
     ·intro h16b
      have h16:=dF h16b
      refine B1<|Bx<|Bx<|Dj<|Ad<|Ab<|Ac<|Af rfl<|Aa<|Ad<|Aj<|Al rfl rfl<|?_
      exact ⟨M.weaken (.cons _ (.cons _ (sR _))),by rw [if_pos (Kl (by omega) (by omega) (by assumption) (Aco hA (by omega) (by omega)))]⟩
theorem Uh (M:Mem w0 G L w) {a1:Option Addr} {c1:Nat} {xs:List ItemD} (S:Ay Cn 4 G (.slice a1 xs.length c1) xs) {a2:Option Addr} {c2:Nat} {ys:List ItemD} (T:Ay Cn 4 G (.slice a2 ys.length c2) ys):Calls Tryz.prog 13 #[.slice a1 xs.length c1,.slice a2 ys.length c2] w (Cl w0 G L fun v=>v=.int .i64 (if xs=ys then (1:Int) else 0)):=by
 have bS:=S.bound
 have bT:=T.bound
 refine Az (vs:=[_,_]) Tryz.func13 rfl (n:=27) rfl rfl<|Ab<|Ac<|Af rfl<|Aa<|Ad<|Ab<|Ab<|Ac<|Ae rfl<|Cg B5.k rfl<|Ae rfl<|Cg B5.k rfl<|D9 rfl rfl<|Aa<|Ad<|Av rfl ?_ ?_
 ·intro h1b
  have h1:=dF (Ag h1b)
  refine Ab<|Ac<|Af rfl<|Aa<|Ad<|Aj<|Aw<|Al rfl rfl<|?_
  exact ⟨M,by rw [if_neg (fun h_=>absurd (congrArg List.length h_) (by omega))]⟩
 ·intro h2b
  have h2:=dT (Ah h2b)
  refine Au<|Ad<|Ab<|Ab<|Ac<|Af rfl<|Aa<|Ad<|A3<|fun a F=>B8 (fun m a' w'=>∃ (i:Nat),m=xs.length - i∧Fits 27 a' [(0,.slice a1 xs.length c1),(1,.slice a2 ys.length c2),(5,.int .i64 ((i:Nat):Int))]∧Mem w0 G (L) w'∧(i≤xs.length)∧(∀ m,m < i→xs[m]?=ys[m]?)) _ ⟨0,rfl,F.to ⟨rfl,rfl,rfl,trivial⟩,M,Nat.zero_le _,fun m h=>by omega⟩ ?_
  clear F M
  rintro m a w ⟨i,rfl,F,M,hi,hA⟩
  revert a
  refine Ab<|Ab<|Ac<|Ae rfl<|Ae rfl<|Cg B5.k rfl<|Df rfl rfl<|Aa<|Ad<|Av rfl ?_ ?_
  ·intro h3b
   have h3:=dT h3b
   refine Au<|Ad<|Ab<|A3<|Ab<|fun a F=>Fw [(true,0),(true,1),(true,2),(true,3),(true,4),(true,5),(true,6),(true,7),(false,8),(true,9)] (Keep G []) rfl (by kernel_rfl) (fun c a d v w h=>by cases d <;> exact h) ((M.drew _).keep (Gle.refl _) (by simp)) ?_
   replace M:=M.drew (w.drawn+1)
   revert a
   refine l_r (fun a F w M=>Cj F rfl) rfl<|l_r (fun a F w M=>Cj F rfl) rfl<|?_
   obtain ⟨Xe4,hXe4⟩:=Be (xs:=xs) (i:=i) (by omega)
   obtain ⟨be4,oe4,_,Ie4,_,Ae4,hTe4⟩:=S.at hXe4
   obtain ⟨mae4,mce4,rfl,hke4,hte4,hxe4,hne4,SMe4⟩:=hTe4
   have hIe4:(Xe4.key < 18446744073709551616∧Xe4.typ < 256∧Xe4.text.length≤9223372036854775807):=⟨hke4,hte4,hxe4⟩
   refine l_r (fun a F w M=>Ca B5.k A1 (F.ev rfl) (F.ev rfl) (by omega) Ie4) rfl<|l_r (fun a F w M=>Am A1 rfl (F.ev rfl) (cs:=[.int .u64 ((Xe4.key:Nat):Int),.int .u8 ((Xe4.typ:Nat):Int),.string (str Xe4.text),.slice mae4 Xe4.marks.length mce4]) rfl (M.cellsA Ae4 0 (by omega) rfl)) rfl<|l_r (fun a F w M=>Cj F rfl) rfl<|l_r (fun a F w M=>Cj F rfl) rfl<|?_
   obtain ⟨Xe5,hXe5⟩:=Be (xs:=ys) (i:=i) (by omega)
   obtain ⟨be5,oe5,_,Ie5,_,Ae5,hTe5⟩:=T.at hXe5
   obtain ⟨mae5,mce5,rfl,hke5,hte5,hxe5,hne5,SMe5⟩:=hTe5
   have hIe5:(Xe5.key < 18446744073709551616∧Xe5.typ < 256∧Xe5.text.length≤9223372036854775807):=⟨hke5,hte5,hxe5⟩
   refine l_r (fun a F w M=>Ca B5.k A1 (F.ev rfl) (F.ev rfl) (by omega) Ie5) rfl<|l_r (fun a F w M=>Am A1 rfl (F.ev rfl) (cs:=[.int .u64 ((Xe5.key:Nat):Int),.int .u8 ((Xe5.typ:Nat):Int),.string (str Xe5.text),.slice mae5 Xe5.marks.length mce5]) rfl (M.cellsA Ae5 0 (by omega) rfl)) rfl<|l_a rfl<|Br ent46 rfl rfl (Abn (x:=Xe4) (y:=Xe5) M hIe4 SMe4 hIe5 SMe5)<|?_;clear M;rintro _ w M rfl
   refine Aa<|eK (C':=Keep G []) (M.keep (Gle.refl _) (by simp)) (fun w h=>h.mono (Gle.refl _) (by simp))<|l_r (fun a F w M=>Mo (F.ev rfl) (F.ev rfl)) rfl<|Gx<|Ad<|Av rfl ?_ ?_
   ·intro h6b
    have h6:=dT h6b
    refine Ab<|Ac<|Af rfl<|Aa<|Ad<|Aj<|Bo<|Aw<|Aw<|Bo<|Aw<|Al rfl rfl<|?_
    exact ⟨M,by rw [if_neg (Pr hXe4 hXe5 (fun h_=>by rw [if_pos h_] at *;omega))]⟩
   ·intro h7b
    have h7:=dF h7b
    refine Au<|C0<|Ad<|Ac<|Ae rfl<|B9 rfl rfl<|Af rfl<|Aa<|Ad<|fun a F=>?_
    exact ⟨_,by omega,i+1,rfl,F.to ⟨rfl,rfl,rfl,trivial⟩,M,by omega,Xo hA hXe4 hXe5 (Classical.byContradiction fun h_=>by rw [if_neg h_] at *;omega)⟩
  ·intro h8b
   have h8:=dF h8b
   refine B1<|Bx<|Bx<|Dj<|Ad<|Ab<|Ac<|Af rfl<|Aa<|Ad<|Aj<|Al rfl rfl<|?_
   exact ⟨M,by rw [if_pos (Aco hA (by omega) (by omega))]⟩
open Go Go.Y Go.Proofs
set_option linter.unusedSimpArgs false
set_option linter.unusedVariables false
theorem Uo {w0 w:World} {G:A4} {L:List Res} {b n c:Nat} {ad:Option Addr} (M:Mem w0 G (.blk b [.pointer none,.slice ad n c] 101::L) w) :
  Calls Tryz.prog 96 #[.pointer (some ⟨b,0,none⟩)] w (Cl w0 G (.blk b [.pointer (some ⟨b,0,none⟩),.slice ad n c] 101::L) fun v=>v=.tuple #[]):=by
 refine Az (vs:=[_]) Tryz.func96 rfl (n:=20) rfl rfl<|Ab<|Ac<|Ae rfl<|Ep rfl<|Bc Gz.k rfl rfl<|Bl Oh M 0 rfl rfl rfl rfl<|Ap (fun a F=>U4 Oh.k (F.ev rfl) (F.ev rfl)) rfl<|Aa<|Ad<|Bk rfl rfl<|Ac<|Ae rfl<|Ae rfl<|Ap (fun a F=>Wq M (k:=0) rfl (by simp) Oh.k (by kernel_rfl) Gz (by decide) (F.ev rfl)) rfl<|Ap (fun a F=>run_noEscape Tryz.func142 (by kernel_rfl) (by kernel_rfl) (by kernel_rfl) (by kernel_rfl) (F.ev rfl) (F.ev (x:=.func 142) rfl)) rfl<|Ap (fun a F=>R5 M (k:=0) rfl (by kernel_rfl) Oh.k Gz (by kernel_rfl) (F.ev rfl)) rfl<|Ep rfl<|Bc Gz.k rfl rfl<|Fo Oh M 0 rfl rfl rfl rfl rfl rfl<|?_;clear M;intro w M
 refine Aa<|fun a F=>Alf F rfl ?_
 exact ⟨M,rfl⟩
theorem Un {w0 w:World} {G:A4} {L:List Res} {b n c:Nat} {ad:Option Addr} (M:Mem w0 G (.blk b [.pointer (some ⟨b,0,none⟩),.slice ad n c] 101::L) w) :
  Calls Tryz.prog 96 #[.pointer (some ⟨b,0,none⟩)] w (Cl w0 G (.blk b [.pointer (some ⟨b,0,none⟩),.slice ad n c] 101::L) fun v=>v=.tuple #[]):=by
 refine Az (vs:=[_]) Tryz.func96 rfl (n:=20) rfl rfl<|Ab<|Ac<|Ae rfl<|Ep rfl<|Bc Gz.k rfl rfl<|Bl Oh M 0 rfl rfl rfl rfl<|Ap (fun a F=>U4 Oh.k (F.ev rfl) (F.ev rfl)) rfl<|Aa<|Ad<|D2 rfl rfl<|Ab<|Ac<|Ae rfl<|Ep rfl<|Bc Gz.k rfl rfl<|Bl Oh M 0 rfl rfl rfl rfl<|Ae rfl<|Ap (fun a F=>R3 Oh.k Gz (F.ev rfl) (F.ev rfl)) rfl<|Aa<|Ad<|D2 rfl rfl<|Au<|fun a F=>Alf F rfl ?_
 exact ⟨M,rfl⟩
theorem Tw {w0 w:World} {G:A4} {L:List Res} {b n c:Nat} {ad:Option Addr} {p:Value} (hp:p=.pointer none∨p=.pointer (some ⟨b,0,none⟩)) (M:Mem w0 G (.blk b [p,.slice ad n c] 101::L) w) :
  Calls Tryz.prog 96 #[.pointer (some ⟨b,0,none⟩)] w (Cl w0 G (.blk b [.pointer (some ⟨b,0,none⟩),.slice ad n c] 101::L) fun v=>v=.tuple #[]):=by
 rcases hp with rfl | rfl
 ·exact Uo M
 ·exact Un M
theorem Ml {w0 w:World} {G:A4} {L:List Res} {b n c:Nat} {ad:Option Addr} {l:List UInt8} {p:Value} {s:List UInt8} (hp:p=.pointer none∨p=.pointer (some ⟨b,0,none⟩)) (M:Mem w0 G (.blk b [p,.slice ad n c] 101::.row (.slice ad n c) n (bc l) 5 1::L) w) (hn:n=l.length) (hnil:l=[]→ad=none) (hlen:l.length+s.length≤140737488355328) :
  Calls Tryz.prog 41 #[.pointer (some ⟨b,0,none⟩),.string (str s)] w (J7 w0 G fun L' v=>v=.tuple #[.int .i64 (s.length:Nat),.nilIface]∧∃ a' n' c',L' = (.blk b [.pointer (some ⟨b,0,none⟩),.slice a' n' c'] 101::.row (.slice a' n' c') n' (bc (l++s)) 5 1::L)∧n' = (l++s).length∧(l++s=[]→a' = none)):=by
 have hrow:ad.isNone=true→ad=none∧n=0∧c=0∧_:=fun h=>M.row_none (k:=1) rfl h
 refine Az (vs:=[_,_]) Tryz.func41 rfl (n:=19) rfl rfl<|Ab<|Ac<|Af rfl<|Af rfl<|Aa<|Ad<|Ab<|Ac<|Ae rfl<|?_
 change Mem w0 G (_::_::L) _ at M
 refine Br ent96 rfl rfl (Tw hp M)<|?_;clear M;rintro _ w M rfl
 refine Aa<|Ad<|Ab<|Ac<|Ae rfl<|Ae rfl<|Ep rfl<|Bc Gz.k rfl rfl<|Bl Kc M 0 rfl rfl rfl rfl<|Ae rfl<|fun a F=>?_
 refine Wy F M (k:=1) rfl Kc.k Bq.k Ew rfl rfl rfl rfl rfl (by omega) rfl ?_;clear F M a;intro v1 w a M hwv1 F
 obtain ⟨av1,cv1,rfl,hlev1,hcmv1,hlv1⟩:=M.row_shape (k:=1) rfl
 rw [← Ahv] at M
 revert a
 refine Ep rfl<|Bc Gz.k rfl rfl<|Fo Kc M 0 rfl rfl rfl rfl rfl rfl<|?_;clear M;intro w M
 refine Aa<|Ad<|Ab<|Ac<|Ae rfl<|Ap (fun a F=>Cq Bq.k (F.ev rfl)) rfl<|Af rfl<|Af rfl<|Aa<|Ad<|Aj<|Fx rfl rfl rfl<|?_
 replace M:=M.perm (Ao _ 1 _ rfl)
 replace M:=M.perm (Ao _ 1 _ rfl)
 change Mem w0 G (.blk b [.pointer (some ⟨b,0,none⟩),.slice av1 (n+(s).length) (cv1)] 101::_::L) _ at M
 exact ⟨_,M,rfl,_,_,_,rfl,by rw [List.length_append,hn],fun h=>by obtain ⟨h1,h2⟩:=List.append_eq_nil_iff.1 h;have h3:=hnil h1;subst h3;obtain ⟨_,h4,h5,_⟩:=hrow rfl;subst h4 h5;have h6:=hwv1.2 ⟨rfl,h2⟩;simp only [Value.slice.injEq] at h6;exact h6.1⟩
theorem Aht {w0 w:World} {G:A4} {L:List Res} {b c gb:Nat} {p:Value} {l:List UInt8} (M:Mem w0 G (.blk b [p,.slice none 0 0] 101::.row (.slice none 0 0) 0 (bc []) 5 1::L) w) :
  Calls Tryz.prog 43 #[.pointer (some ⟨b,0,none⟩)] w (Cl w0 G L fun v=>v=.string (str [])):=by
 refine Az (vs:=[_]) Tryz.func43 rfl (n:=14) rfl rfl<|Ab<|Ac<|Af rfl<|Aa<|Ad<|Ab<|fun a F=>Fw [(true,0),(true,1),(true,2),(true,3),(true,5),(true,6),(true,7),(true,8),(true,9),(false,4),(false,10),(true,11)] (Keep G [.blk b [p,.slice none 0 0] 101]) rfl (by kernel_rfl) (fun c a d v w h=>by cases d <;> exact h) ((M.drew _).keep (Gle.refl _) (by simp)) ?_
 replace M:=M.drew (w.drawn+1)
 revert a
 refine l_r (fun a F w M=>Cj F rfl) rfl<|l_r (fun a F w M=>D3 (F.ev rfl)) rfl<|l_r (fun a F w M=>Co Gz.k rfl F rfl) rfl<|l_r (fun a F w M=>Aq (agf Kc rfl) (F.ev rfl) (M.cellL (k:=0) rfl rfl)) rfl<|l_r (fun a F w M=>Cj F rfl) rfl<|l_r (fun a F w M=>D3 (F.ev rfl)) rfl<|l_r (fun a F w M=>Co Gz.k rfl F rfl) rfl<|l_r (fun a F w M=>Aq (agf Kc rfl) (F.ev rfl) (M.cellL (k:=0) rfl rfl)) rfl<|l_r (fun a F w M=>Dx Kc.k (F.ev rfl)) rfl<|l_a rfl<|Ap (fun a F=>R0 (F.ev rfl)) rfl<|Aa<|eK (C':=Keep G [.blk b [p,.slice none 0 0] 101]) (M.keep (Gle.refl _) (by simp)) (fun w h=>h.mono (Gle.refl _) (by simp))<|l_a rfl<|Ap (fun a F=>Rx (F.ev rfl) (F.ev rfl)) rfl<|Aa<|eK (C':=Keep G [.blk b [p,.slice none 0 0] 101]) (M.keep (Gle.refl _) (by simp)) (fun w h=>h.mono (Gle.refl _) (by simp))<|l_r (fun a F w M=>Gm F rfl) rfl<|Gx<|Ad<|Aj<|Al rfl rfl<|?_
 exact ⟨M.weaken (.cons _ (.cons _ (sR _))),rfl⟩
theorem Ahs {w0 w:World} {G:A4} {L:List Res} {b c gb:Nat} {p:Value} {l:List UInt8} (M:Mem w0 G (.blk b [p,.slice (some ⟨gb,0,none⟩) (l.length) c] 101::.row (.slice (some ⟨gb,0,none⟩) (l.length) c) (l.length) (bc l) 5 1::L) w) (h0:l≠[]) (hc:l.length≤c) :
  Calls Tryz.prog 43 #[.pointer (some ⟨b,0,none⟩)] w (Cl w0 G L fun v=>v=.string (str l)):=by
 have h0':0 < l.length:=List.length_pos_iff.2 h0
 refine Az (vs:=[_]) Tryz.func43 rfl (n:=14) rfl rfl<|Ab<|Ac<|Af rfl<|Aa<|Ad<|Ab<|fun a F=>Fw [(true,0),(true,1),(true,2),(true,3),(true,5),(true,6),(true,7),(true,8),(true,9),(false,4),(false,10),(true,11)] (Keep G [.blk b [p,.slice (some ⟨gb,0,none⟩) (l.length) (c)] 101]) rfl (by kernel_rfl) (fun c a d v w h=>by cases d <;> exact h) ((M.drew _).keep (Gle.refl _) (by simp)) ?_
 replace M:=M.drew (w.drawn+1)
 revert a
 refine l_r (fun a F w M=>Cj F rfl) rfl<|l_r (fun a F w M=>D3 (F.ev rfl)) rfl<|l_r (fun a F w M=>Co Gz.k rfl F rfl) rfl<|l_r (fun a F w M=>Aq (agf Kc rfl) (F.ev rfl) (M.cellL (k:=0) rfl rfl)) rfl<|l_r (fun a F w M=>Cj F rfl) rfl<|l_r (fun a F w M=>D3 (F.ev rfl)) rfl<|l_r (fun a F w M=>Co Gz.k rfl F rfl) rfl<|l_r (fun a F w M=>Aq (agf Kc rfl) (F.ev rfl) (M.cellL (k:=0) rfl rfl)) rfl<|l_r (fun a F w M=>Dx Kc.k (F.ev rfl)) rfl<|l_a rfl<|Ap (fun a F=>T9 (F.ev rfl) (by omega)) rfl<|Aa<|eK (C':=Keep G [.blk b [p,.slice (some ⟨gb,0,none⟩) (l.length) (c)] 101]) (M.keep (Gle.refl _) (by simp)) (fun w h=>h.mono (Gle.refl _) (by simp))<|l_a rfl<|fun a F=>?_
 refine Ww F M (k:=1) rfl tok174.k Ew rfl h0 rfl rfl rfl ?_;clear F M a;intro w a M F
 revert a
 refine Aa<|eK (C':=Keep G [.blk b [p,.slice (some ⟨gb,0,none⟩) (l.length) (c)] 101]) (M.keep (Gle.refl _) (by simp)) (fun w h=>h.mono (Gle.refl _) (by simp))<|l_r (fun a F w M=>Gm F rfl) rfl<|Gx<|Ad<|Aj<|Al rfl rfl<|?_
 exact ⟨M.weaken (.cons _ (sR _)),rfl⟩
theorem Wb {w0 w:World} {G:A4} {L:List Res} {b n c:Nat} {ad:Option Addr} {l:List UInt8} {p:Value} (M:Mem w0 G (.blk b [p,.slice ad n c] 101::.row (.slice ad n c) n (bc l) 5 1::L) w) (hn:n=l.length) (hnil:l=[]→ad=none) :
  Calls Tryz.prog 43 #[.pointer (some ⟨b,0,none⟩)] w (Cl w0 G L fun v=>v=.string (str l)):=by
 subst hn
 by_cases h0:l=[]
 ·have h1:=hnil h0
  subst h1 h0
  obtain ⟨_,_,h4,_⟩:=M.row_none (k:=1) rfl rfl
  subst h4
  exact Aht (gb:=0) (c:=0) (l:=[]) M
 ·have h0':0 < l.length:=List.length_pos_iff.2 h0
  obtain ⟨gb,h1⟩:=M.row_some (k:=1) rfl h0'
  subst h1
  obtain ⟨_,_,he,hle,_⟩:=M.row_shape (k:=1) rfl
  simp only [Value.slice.injEq] at he
  exact Ahs M h0 (by omega)
open Go Go.Y Go.Proofs
variable {w0 w:World} {G:A4} {L:List Res}
set_option linter.unusedSimpArgs false
set_option linter.unusedVariables false
theorem Mg (M:Mem w0 G L w) (HG:Globs 0 1 2 3 G) {s sep:List UInt8} (hs:s.length < 4294967281) :
  Calls Tryz.prog 100 #[.string (str s),.string (str sep)] w (Cl w0 G L fun v=>v=.tuple #[.string (str (Lib.cut s sep).1),.string (str (Lib.cut s sep).2.1),.bool (Lib.cut s sep).2.2]):=by
 obtain ⟨m,hm⟩:=HG.max
 refine (Any.strings_Cut Tryz.lays145 (str s) (str sep) m w (by rw [Cp];exact hs) (M.cell hm)).mono ?_
 rintro e w' ⟨rfl,n,rfl⟩
 rw [E1,E1]
 exact ⟨M.drewN n,rfl⟩
theorem Abv (M:Mem w0 G L w) (HG:Globs 0 1 2 3 G) {s:List UInt8} (hs:s.length≤281474976710656) :
  Calls Tryz.prog 101 #[.string (str s),.int .i64 10,.int .i64 64] w (Cl w0 G L fun v=>∃ (u:Nat) (er:Value),v=.tuple #[.int .u64 (u:Int),er]∧u≤18446744073709551615∧(er=.nilIface∨∃ te pe,er=.iface te pe) ∧
   ((Lib.parseUintB 64 s=.ok u∧D5 er=true)∨((∀ x,Lib.parseUintB 64 s≠.ok x)∧D5 er=false))):=by
 have hd:(str s).data.toList=s:=E1 s
 cases h:Lib.parseUintB 64 s with
 | ok u =>
  refine (Any.strconv_ParseUint_10_at64_ok Tryz.laysPu14 (str s) (by rw [Cp];omega) u (by rw [hd];exact h) w).mono ?_
  rintro e w' ⟨rfl,hw⟩
  refine ⟨?_,u,_,rfl,pu64_le h,Or.inl rfl,Or.inl ⟨rfl,rfl⟩⟩
  rcases hw with rfl | rfl
  ·exact M
  ·exact M.bytesWorld _ _
 | range =>
  obtain ⟨ev,h1,h2⟩:=HG.rng
  refine (Any.strconv_ParseUint_10_at64_range Tryz.laysPu14 (str s) (by rw [Cp];omega) (by rw [hd];exact h) ev w (M.cell h1) h2).mono ?_
  rintro e w' ⟨N,rfl,_,_,hb⟩
  exact ⟨M.below' hb,18446744073709551615,_,rfl,by omega,Or.inr ⟨_,_,rfl⟩,Or.inr ⟨(fun x hx=>by cases hx),rfl⟩⟩
 | _ =>
  obtain ⟨ev,h1,h2⟩:=HG.syn
  refine (Any.strconv_ParseUint_10_at64_syntax Tryz.laysPu14 (str s) (by rw [Cp];omega) (by rw [hd];exact h) ev w (M.cell h1) h2).mono ?_
  rintro e w' ⟨N,rfl,_,_,hb⟩
  exact ⟨M.below' hb,0,_,rfl,by omega,Or.inr ⟨_,_,rfl⟩,Or.inr ⟨(fun x hx=>by cases hx),rfl⟩⟩
theorem Zs (M:Mem w0 G L w) (HG:Globs 0 1 2 3 G) {n:Int} (hn:A2 .i64 n) :
  Calls Tryz.prog 166 #[.int .i64 n,.int .i64 10] w (Cl w0 G L fun v=>v=.string (str (Lib.itoa n))):=by
 refine (Any.internal_strconv_FormatInt_10 Tryz.laysM246 n hn.1 hn.2 w (HG.tabIs M (by kernel_rfl))).mono ?_
 rintro e w' ⟨rfl,k,os,rfl⟩
 exact ⟨(M.drewN k).grew os,rfl⟩
theorem Abf (M:Mem w0 G L w) {i:Nat} (h:i < 100):Calls Tryz.prog 170 #[.int .i64 (i:Int)] w (Cl w0 G L fun v=>v=.string (str (Lib.decDigits i))):=by
 refine (Any.internal_strconv_small Tryz.lays283 i h w).mono ?_
 rintro e w' ⟨rfl,rfl⟩
 exact ⟨M,rfl⟩
theorem Agi (M:Mem w0 G L w) (HG:Globs 0 1 2 3 G) {u:Nat} (h1:1≤u) (h2:u < 18446744073709551616):Calls Tryz.prog 171 #[.int .u64 (u:Int)] w (Cl w0 G L fun v=>v=.int .i64 ((Lib.nDigits u:Nat):Int)):=by
 refine (Any.internal_strconv_numDigits Tryz.laysM284 u h1 h2 w (HG.tabIs M (by kernel_rfl))).mono ?_
 rintro e w' ⟨rfl,rfl⟩
 exact ⟨M,rfl⟩
theorem Ahh {w0 w:World} {G:A4} {L:List Res} {b u c:Nat} {l:List UInt8} (M:Mem w0 G (.blk b (bc l) 244::L) w) (hl:l.length=24) (hnd:Lib.nDigits u≤24) (h2:u < 18446744073709551616) :
  Calls Tryz.prog 172 #[.slice (some ⟨b,0,none⟩) (Lib.nDigits u) c,.int .u64 (u:Int)] w (J7 w0 G fun L' v=>v=.tuple #[]∧∃ r,L' = (.blk b (bc (Lib.decDigits u++r)) 244::L)):=by
 have hH:=M.holdsB (k:=0) rfl (Lib.nDigits u) (by omega)
 have hs:(l.take (Lib.nDigits u)).toArray.size=Lib.nDigits u:=by simp;omega
 have:=Any.internal_strconv_formatBase10 Tryz.lays285 b 0 c u (l.take (Lib.nDigits u)).toArray w hH (by rw [hs];exact Lib.lt_pow_nDigits u) h2 (by rw [hs];omega)
 rw [hs] at this
 refine this.mono ?_
 rintro e w' ⟨rfl,n,v',dk,rfl,hF⟩
 have hd:=Acl hF
 have M':=M.putRowB (k:=0) rfl dk (by rw [hF.size];omega) n
 rw [hd] at M'
 exact ⟨_,M',rfl,_,rfl⟩
theorem Akz (M:Mem w0 G L w) (HG:Globs 0 1 2 3 G) {u:Nat} (hu:u < 18446744073709551616) :
  Calls Tryz.prog 144 #[.int .u64 (u:Int),.int .i64 10] w (Cl w0 G L fun v=>v=.string (str (Lib.decDigits u))):=by
 refine Az (vs:=[_,_]) Tryz.func144 rfl (n:=32) rfl rfl<|Ab<|Ac<|Af rfl<|Aa<|Ad<|Ab<|Ab<|Ac<|Ae rfl<|Dc rfl rfl<|Aa<|Ad<|Bk rfl (decide_eq_true (by rfl))<|Ab<|Ab<|Ac<|Ae rfl<|Df rfl rfl<|Aa<|Ad<|Av rfl ?_ ?_
 ·intro h1b
  have h1:=dT h1b
  refine Ab<|Ac<|Ae rfl<|Ap (fun a F=>Dl B7.k ⟨_,by rw [C5 Eh.k]⟩ (F.ev rfl) (Cr (by omega) (by omega))) rfl<|Br ent170 rfl rfl (Abf (i:=u) M (by omega))<|?_;clear M;rintro _ w M rfl
  refine Af rfl<|Aa<|Ad<|Aj<|Aw<|Aw<|Al rfl rfl<|?_
  exact ⟨M.weaken (sR _),rfl⟩
 ·intro h2b
  have h2:=dF h2b
  refine Au<|Ad<|Ab<|Ac<|Cz M Aas rfl rfl<|?_;clear M;intro b3 w M
  refine Aa<|Ad<|Ab<|?_
  change Mem w0 G (_::L) _ at M
  change Mem w0 G (.blk b3 (bc (List.replicate 24 0)) 244::L) w at M
  refine Ac<|Ae rfl<|Br ent171 rfl rfl (Agi (u:=u) M HG (by omega) (by omega))<|?_;clear M;rintro _ w M rfl
  refine Af rfl<|Aa<|Ad<|Ab<|?_
  have hnd:Lib.nDigits u≤20:=by have h1:=Lib.numDigits_eq u (by omega) hu;split at h1 <;> omega
  refine Ac<|Ae rfl<|Ap (fun a F=>Om (h:=Lib.nDigits u) Aas.k Ew (F.ev rfl) (F.ev rfl) (by omega) (by omega)) rfl<|Ae rfl<|?_
  change Mem w0 G (_::L) _ at M
  refine Pi ent172 rfl rfl (Ahh (u:=u) (l:=List.replicate 24 0) M (by simp) (by omega) (by omega))<|?_;clear M;rintro _ _ w M ⟨rfl,rr,rfl⟩
  refine Aa<|Ad<|Ab<|Ac<|Ae rfl<|Ap (fun a F=>Om (h:=Lib.nDigits u) Aas.k Ew (F.ev rfl) (F.ev rfl) (by omega) (by omega)) rfl<|Ap (fun a F=>Wr M (k:=0) rfl Kc.k Ew.k Bq.k (F.ev rfl) (by rw [List.length_append,Lib.decDigits_length];omega)) rfl<|fun a F=>?_
  rw [show (Lib.decDigits u++rr).take (Lib.nDigits u)=Lib.decDigits u by rw [← Lib.decDigits_length,List.take_left]] at F
  revert a
  refine Af rfl<|Aa<|Ad<|Aj<|Aw<|Al rfl rfl<|?_
  exact ⟨M.weaken (.cons _ (sR _)),rfl⟩
theorem Ael (M:Mem w0 G L w) (HG:Globs 0 1 2 3 G) {u:Nat} (hu:u < 18446744073709551616) :
  Calls Tryz.prog 98 #[.int .u64 (u:Int),.int .i64 10] w (Cl w0 G L fun v=>v=.string (str (Lib.decDigits u))):=by
 refine Az (vs:=[_,_]) Tryz.func98 rfl (n:=8) rfl rfl<|Ab<|Ac<|Af rfl<|Aa<|Ad<|Ab<|Ac<|Ae rfl<|Ae rfl<|Br ent144 rfl rfl (Akz (u:=u) M HG (by omega))<|?_;clear M;rintro _ w M rfl
 refine Af rfl<|Aa<|Ad<|Aj<|Al rfl rfl<|?_
 exact ⟨M,rfl⟩
end Go.Proofs.YtmmhmcplegpenaaGreatDoor
