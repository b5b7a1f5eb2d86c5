/- Items: numbers, lines, what a line stands for. · The walks, part A. · The walks, part B. · The walks, part C. · The walks, part S. · The walks, part N. -/
import Derived.Test.YtmmhmcplegpenaaGreatDoorJ4
import Derived.Test.YtmmhmcplegpenaaGreatDoorYB
import Derived.Lib.IndexMore
import Derived.Lib.SplitLaws
import Derived.Lib.ParseIntB
import Derived.Lib.Join
import Derived.Test.YtmmhmcplegpenaaGreatDoorJ1
namespace Go.Proofs.YtmmhmcplegpenaaGreatDoor
open Go Go.Y
set_option linter.unusedSimpArgs false
set_option linter.unusedVariables false
theorem He (u:Nat):Lib.decDigits u=(if u / 10=0 then [] else Lib.decDigits (u / 10))++[UInt8.ofNat (48+u % 10)]:=by
 rw [Lib.decDigits]
 split
 ·rename_i h
  rw [if_pos (by omega),Nat.mod_eq_of_lt h]
  rfl
 ·rename_i h
  rw [if_neg (by omega)]
def P4 (c:UInt8):Prop:=48≤c.toNat∧c.toNat≤57
def Og:List UInt8→Nat→Nat
 | [],acc=>acc
 | c::r,acc=>Og r (10 * acc+(c.toNat - 48))
theorem Vg:∀ (l:List UInt8) (acc:Nat),acc≤Og l acc
 | [],acc=>Nat.le_refl _
 | c::r,acc=>by have:=Vg r (10 * acc+(c.toNat - 48));simp only [Og];omega
theorem Tu (c:UInt8):∀ (l:List UInt8) (acc:Nat),Og (l++[c]) acc=10 * Og l acc+(c.toNat - 48)
 | [],acc=>rfl
 | b::r,acc=>Tu c r _
instance (c:UInt8):Decidable (P4 c):=by unfold P4;infer_instance
theorem Qp:∀ (u:Nat),∀ c∈Lib.decDigits u,P4 c:=by
 intro u
 induction u using Nat.strongRecOn with
 | _ u ih =>
  intro c hc
  rw [He] at hc
  rcases List.mem_append.1 hc with hc | hc
  ·split at hc
   ·simp at hc
   ·exact ih (u / 10) (by omega) c hc
  ·simp only [List.mem_singleton] at hc
   subst hc
   have h1:(UInt8.ofNat (48+u % 10)).toNat=48+u % 10:=UInt8.toNat_ofNat_of_lt' (by show 48+u % 10 < 256;omega)
   unfold P4
   omega
theorem Je:∀ (u:Nat),Og (Lib.decDigits u) 0=u:=by
 intro u
 induction u using Nat.strongRecOn with
 | _ u ih =>
  have h1:(UInt8.ofNat (48+u % 10)).toNat=48+u % 10:=UInt8.toNat_ofNat_of_lt' (by show 48+u % 10 < 256;omega)
  rw [He,Tu,h1]
  split
  ·rename_i h;simp only [Og];omega
  ·rename_i h;rw [ih (u / 10) (by omega)];omega
def ix (c:UInt8):List UInt8→Nat
 | []=>0
 | b::l=>if b=c then 0 else ix c l+1
theorem ix_le (c:UInt8):∀ (l:List UInt8),ix c l≤l.length
 | []=>Nat.le_refl _
 | b::l=>by have:=ix_le c l;unfold ix;split <;> simp only [List.length_cons] <;> omega
theorem Aiq (c:UInt8):∀ (l:List UInt8) (m:Nat) (b:UInt8),m < ix c l→l[m]?=some b→b≠c
 | [],m,b,h,_=>by simp [ix] at h
 | a::l,m,b,h,hb=>by
  unfold ix at h
  split at h
  ·omega
  ·rename_i ha
   cases m with
   | zero=>simp at hb;subst hb;exact ha
   | succ m=>exact Aiq c l m b (by omega) (by simpa using hb)
theorem Air (c:UInt8):∀ (l:List UInt8),ix c l < l.length→l[ix c l]?=some c
 | [],h=>by simp at h
 | a::l,h=>by
  unfold ix at h ⊢
  split
  ·rename_i ha;subst ha;rfl
  ·rename_i ha
   rw [if_neg ha] at h
   simp only [List.length_cons] at h
   rw [List.getElem?_cons_succ]
   exact Air c l (by omega)
theorem Uu {c:UInt8}:∀ {l:List UInt8} {k:Nat},(∀ (m:Nat) (b:UInt8),m < k→l[m]?=some b→b≠c)→(l[k]?=some c∨k=l.length)→ix c l=k
 | [],k,_,h=>by
  rcases h with h | h
  ·simp at h
  ·simp [ix,h]
 | a::l,k,h,hk=>by
  unfold ix
  cases k with
  | zero =>
   rcases hk with hk | hk
   ·simp at hk;rw [if_pos hk]
   ·simp at hk
  | succ k =>
   have h0:=h 0 a (by omega) (by simp)
   rw [if_neg h0,Uu (l:=l) (k:=k) (fun m b h1 h2=>h (m+1) b (by omega) (by simpa using h2)) (by
    rcases hk with hk | hk
    ·left;simpa using hk
    ·right;simpa using hk)]
theorem J6 (c:UInt8):∀ (l:List UInt8),Lib.index l [c]=if ix c l < l.length then ((ix c l:Nat):Int) else -1
 | []=>by simp [Lib.index,ix]
 | b::l=>by
  have ih:=J6 c l
  unfold Lib.index ix
  by_cases h:b=c
  ·subst h
   simp
  ·have hp:([c].isPrefixOf (b::l))=false:=by simp [List.isPrefixOf,Ne.symm h]
   rw [if_neg (by rw [hp];simp),if_neg h]
   by_cases hl:ix c l < l.length
   ·rw [if_pos hl] at ih
    have h1:¬ (Lib.index l [c]==-1)=true:=by rw [ih,beq_iff_eq];omega
    have h2:ix c l+1 < (b::l).length:=by rw [List.length_cons];omega
    rw [if_neg h1,if_pos h2,ih]
    omega
   ·rw [if_neg hl] at ih
    have h1:(Lib.index l [c]==-1)=true:=by rw [ih];rfl
    have h2:¬ ix c l+1 < (b::l).length:=by rw [List.length_cons];omega
    rw [if_pos h1,if_neg h2]
theorem Nb (c:UInt8) (l:List UInt8):Lib.cut l [c]=if ix c l < l.length then (l.take (ix c l),l.drop (ix c l+1),true) else (l,[],false):=by
 unfold Lib.cut
 rw [J6]
 by_cases h:ix c l < l.length
 ·simp only [if_pos h]
  rw [if_pos (by omega)]
  simp
 ·simp only [if_neg h]
  rw [if_neg (by omega)]
theorem Ig (c:UInt8) (s:List UInt8):(Lib.cut s [c]).1.length≤s.length∧(Lib.cut s [c]).2.1.length≤s.length:=by
 rw [Nb]
 split
 ·simp only [List.length_take,List.length_drop];omega
 ·simp
theorem Fh (u:Nat) (h:u < 18446744073709551616):(Lib.decDigits u).length≤20:=by
 rw [Lib.decDigits_length]
 rcases Nat.eq_zero_or_pos u with h0 | h0
 ·subst h0;rw [Lib.nDigits_small (by decide)];omega
 ·have h1:=Lib.numDigits_eq u h0 h
  split at h1 <;> omega
theorem Wf {c:UInt8}:∀ {d e:List UInt8},c ∉ d→ix c (d++c::e)=d.length
 | [],e,_=>by simp [ix]
 | b::d,e,h=>by
  simp only [List.cons_append,List.length_cons]
  unfold ix
  rw [if_neg (fun hb=>h (by rw [hb];simp)),Wf (fun hd=>h (by simp [hd]))]
theorem Abj (u:Nat):Lib.decDigits u≠[]:=by
 rw [He];simp
theorem Aca {most:Nat} (hm:most≤18446744073709551615):∀ (l:List UInt8) (acc:Nat),(∀ c∈l,P4 c)→Og l acc≤most→Lib.parseUintM most acc l=.ok (Og l acc)
 | [],acc,_,_=>rfl
 | c::r,acc,hd,hv=>by
  have hc:48≤c.toNat∧c.toNat≤57:=hd c (by simp)
  simp only [Og] at hv ⊢
  have:=Vg r (10 * acc+(c.toNat - 48))
  unfold Lib.parseUintM
  rw [if_pos hc,if_neg (by omega),if_neg (by omega),Nat.mul_comm acc 10]
  exact Aca hm r _ (fun x hx=>hd x (by simp [hx])) hv
theorem V3 {B u:Nat} (hB:B≤64) (hu:u < 2 ^ B):Lib.parseUintB B (Lib.decDigits u)=.ok u:=by
 unfold Lib.parseUintB
 have h64:2 ^ B≤2 ^ 64:=Nat.pow_le_pow_right (by decide) hB
 rw [if_neg (Abj u),Aca (by omega) _ _ (Qp u) (by rw [Je];omega),Je]
theorem L7 {c:UInt8} {u:Nat} (hc:¬ P4 c):c ∉ Lib.decDigits u:=fun h=>hc (Qp u c h)
theorem Kp {c:UInt8} {d e:List UInt8} (h:c ∉ d):Lib.cut (d++c::e) [c]=(d,e,true):=by
 rw [Nb,Wf h,if_pos (by simp)]
 simp
theorem Akn {c:UInt8} {d:List UInt8} (h:c ∉ d):Lib.cut d [c]=(d,[],false):=by
 have:ix c d=d.length:=Uu (fun m b _ hb=>fun e=>h (e ▸ List.mem_of_getElem? hb)) (Or.inr rfl)
 rw [Nb,this,if_neg (by omega)]
/-! ### The line of an item -/
def Fm (ms:List (List UInt8)):List UInt8:=if ms=[] then [45] else Lib.join ms [44]
def Dj (x:ItemD):List UInt8:=Lib.decDigits x.key++[32]++Lib.decDigits x.typ++[32]++Fm x.marks++[32]++x.text
theorem I2 {s:List UInt8} (h:Da s) {c:UInt8} (hc:¬ Di c):c ∉ s:=fun hs=>hc (h.2 c hs)
theorem N4 (m:List UInt8) (y:List UInt8) (r:List (List UInt8)):Lib.join (m::y::r) [44]=m++44::Lib.join (y::r) [44]:=by
 rw [Lib.join_cons,Lib.join_cons]
 simp [Lib.joinTail]
theorem R8 {c:UInt8} (hc:¬ Di c) (h44:c≠44):∀ (ms:List (List UInt8)),(∀ s∈ms,Da s)→c ∉ Lib.join ms [44]
 | [],_=>by simp [Lib.join_nil]
 | [m],h=>by rw [Lib.join_one];exact I2 (h m (by simp)) hc
 | m::y::r,h=>by
  rw [N4]
  intro hx
  rcases List.mem_append.1 hx with hx | hx
  ·exact I2 (h m (by simp)) hc hx
  ·rcases List.mem_cons.1 hx with hx | hx
   ·exact h44 hx
   ·exact R8 hc h44 (y::r) (fun s hs=>h s (by simp [hs])) hx
theorem join_ne {m:List UInt8} {r:List (List UInt8)} (h:Da m):Lib.join (m::r) [44]≠[]:=by
 rw [Lib.join_cons]
 intro e
 have h1:=(List.append_eq_nil_iff.1 e).1
 subst h1
 exact absurd h.1.1 (by simp)
theorem O4 {m:List UInt8} {r:List (List UInt8)} (h:Da m):Lib.join (m::r) [44]≠[45]:=by
 rw [Lib.join_cons]
 intro e
 cases m with
 | nil=>exact absurd h.1.1 (by simp)
 | cons b m =>
  simp only [List.cons_append,List.cons.injEq] at e
  have h1:=h.2 b (by simp)
  rw [e.1] at h1
  exact absurd h1 (by decide)
theorem Um {ms:List (List UInt8)} (h:∀ s∈ms,Da s):(32:UInt8) ∉ Fm ms∧(10:UInt8) ∉ Fm ms:=by
 unfold Fm
 split
 ·exact ⟨by decide,by decide⟩
 ·exact ⟨R8 (by decide) (by decide) ms h,R8 (by decide) (by decide) ms h⟩
theorem Adp {s:List UInt8} (h:Str s):(10:UInt8) ∉ s:=fun hs=>absurd (h.2 10 hs) (by decide)
theorem R4 {x:ItemD} (h:ItemOk 8 x):(10:UInt8) ∉ Dj x:=by
 obtain ⟨_,_,h3,_,h5⟩:=h
 unfold Dj
 simp only [List.mem_append,List.mem_singleton,not_or]
 exact ⟨⟨⟨⟨⟨⟨L7 (by decide),by decide⟩,L7 (by decide)⟩,by decide⟩,(Um h5).2⟩,by decide⟩,Adp h3⟩
theorem line_r (x:ItemD):Dj x=Lib.decDigits x.key++32::(Lib.decDigits x.typ++32::(Fm x.marks++32::x.text)):=by
 simp [Dj]
theorem O2 (x:ItemD) (e:List UInt8):Lib.cut (Dj x++e) [32]=(Lib.decDigits x.key,Lib.decDigits x.typ++32::(Fm x.marks++32::(x.text++e)),true):=by
 rw [line_r,show Lib.decDigits x.key++32::(Lib.decDigits x.typ++32::(Fm x.marks++32::x.text))++e=Lib.decDigits x.key++32::(Lib.decDigits x.typ++32::(Fm x.marks++32::(x.text++e))) by simp]
 exact Kp (L7 (by decide))
theorem Lz (t:Nat) (r:List UInt8):Lib.cut (Lib.decDigits t++32::r) [32]=(Lib.decDigits t,r,true):=Kp (L7 (by decide))
theorem O1 {ms:List (List UInt8)} (h:∀ s∈ms,Da s) (r:List UInt8):Lib.cut (Fm ms++32::r) [32]=(Fm ms,r,true):=Kp (Um h).1
/-! ### Its length -/
theorem Acj {b:Nat}:∀ (ms:List (List UInt8)),(∀ s∈ms,s.length≤b)→Lib.lens ms≤b * ms.length
 | [],_=>by simp [Lib.lens]
 | m::r,h=>by
  have h1:=Acj r (fun s hs=>h s (by simp [hs]))
  have h2:=h m (by simp)
  simp only [Lib.lens,List.map_cons,List.sum_cons,List.length_cons,Nat.mul_succ] at h1 ⊢
  omega
theorem Aio {ms:List (List UInt8)} {b:Nat} (h:∀ s∈ms,s.length≤b):(Lib.join ms [44]).length≤(b+1) * ms.length:=by
 cases ms with
 | nil=>simp [Lib.join_nil]
 | cons m r =>
  rw [Lib.join_length]
  have h1:=Acj (m::r) h
  simp only [List.length_cons,List.length_nil,Nat.add_mul] at h1 ⊢
  omega
theorem Kj {ms:List (List UInt8)} (h8:ms.length≤8) (h:∀ s∈ms,Da s):(Lib.join ms [44]).length≤136:=by
 have h1:=Aio (b:=16) (fun s hs=>(h s hs).1.2)
 have h2:=Nat.mul_le_mul_left 17 h8
 omega
theorem Afc {ms:List (List UInt8)} (h8:ms.length≤8) (h:∀ s∈ms,Da s):(Fm ms).length≤136:=by
 unfold Fm
 split
 ·decide
 ·exact Kj h8 h
theorem Le {x:ItemD} {t:Int} (h:ItemOk t x) (hk:x.key < 18446744073709551616) (ht:x.typ < 256):(Dj x).length≤300:=by
 obtain ⟨_,_,h3,h4,h5⟩:=h
 have h6:=Afc h4 h5
 have h7:=Fh x.key hk
 have h8:=Fh x.typ (by omega)
 have h9:=h3.1
 unfold Dj
 simp only [List.length_append,List.length_cons,List.length_nil]
 omega
/-! ### Split -/
def Bx (s:List UInt8):List (List UInt8):=Lib.split s [44]
theorem Qw:∀ (k:Nat) (s:List UInt8) (p:List UInt8),p∈Lib.splitK [44] 0 k s→p.length≤s.length
 | 0,s,p,h=>by simp only [Lib.splitK,List.mem_singleton] at h;subst h;exact Nat.le_refl _
 | k+1,s,p,h=>by
  unfold Lib.splitK at h
  split at h
  ·simp only [List.mem_singleton] at h;subst h;exact Nat.le_refl _
  ·rcases List.mem_cons.1 h with rfl | h
   ·simp only [List.length_take];omega
   ·have:=Qw k _ p h;simp only [List.length_drop] at this;omega
theorem Z4 {s p:List UInt8} (h:p∈Bx s):p.length≤s.length:=Qw _ _ _ h
theorem Z3 {m r:List UInt8} (k:Nat) (h:(44:UInt8) ∉ m):Lib.splitK [44] 0 (k+1) (m++44::r)=m::Lib.splitK [44] 0 k r:=by
 have h1:Lib.index (m++44::r) [44]=((m.length:Nat):Int):=by rw [J6,Wf h,if_pos (by simp)]
 rw [Lib.splitK,h1,if_neg (by rw [beq_iff_eq];omega)]
 congr 1
 ·simp
 ·congr 1;simp
theorem Pp:∀ (m:List UInt8) (r:List (List UInt8)),(∀ s∈m::r,Da s)→Lib.splitK [44] 0 r.length (Lib.join (m::r) [44])=m::r
 | m,[],_=>by simp [Lib.join_one,Lib.splitK]
 | m,y::r,h=>by
  rw [N4,List.length_cons,Z3 _ (I2 (h m (by simp)) (by decide)),Pp y r (fun s hs=>h s (by simp [hs]))]
theorem Su:∀ (m:List UInt8) (r:List (List UInt8)),(∀ s∈m::r,Da s)→(Lib.join (m::r) [44]).count 44=r.length
 | m,[],h=>by
  rw [Lib.join_one];exact List.count_eq_zero.2 (I2 (h m (by simp)) (by decide))
 | m,y::r,h=>by
  rw [N4,List.count_append,List.count_cons_self,Su y r (fun s hs=>h s (by simp [hs])),List.count_eq_zero.2 (I2 (h m (by simp)) (by decide))]
  simp
theorem K3 {ms:List (List UInt8)} (h:∀ s∈ms,Da s) (h0:ms≠[]):Bx (Fm ms)=ms:=by
 cases ms with
 | nil=>exact absurd rfl h0
 | cons m r =>
  unfold Bx Lib.split Fm
  rw [if_neg h0,Lib.count_one,Su m r h,Pp m r h]
/-! ### What a line stands for -/
def Rd8 (s:List UInt8) (x:ItemD):Prop:=ItemOk 8 x∧x.key < 18446744073709551616∧Dj x=s
theorem Us {x y:ItemD} (hx:ItemOk 8 x) (hy:ItemOk 8 y) (hkx:x.key < 18446744073709551616) (hky:y.key < 18446744073709551616) (e:Dj x=Dj y):x=y:=by
 have a1:=O2 x []
 have b1:=O2 y []
 rw [List.append_nil,List.append_nil] at a1 b1
 rw [e,b1] at a1
 simp only [Prod.mk.injEq,and_true] at a1
 obtain ⟨h1,h2⟩:=a1
 have c1:=Lz x.typ (Fm x.marks++32::x.text)
 rw [← h2,Lz] at c1
 simp only [Prod.mk.injEq,and_true] at c1
 obtain ⟨h3,h4⟩:=c1
 have d1:=O1 hx.2.2.2.2 x.text
 rw [← h4,O1 hy.2.2.2.2] at d1
 simp only [Prod.mk.injEq,and_true] at d1
 obtain ⟨h5,h6⟩:=d1
 refine Yr ?_ ?_ h6.symm ?_
 ·rw [← Je x.key,← h1,Je]
 ·rw [← Je x.typ,← h3,Je]
 ·by_cases hm:x.marks=[]
  ·by_cases hn:y.marks=[]
   ·rw [hm,hn]
   ·obtain ⟨m,r,hmr⟩:=List.exists_cons_of_ne_nil hn
    rw [hm,hmr] at h5
    simp only [Fm,if_true,if_neg (List.cons_ne_nil m r)] at h5
    exact absurd h5 (O4 (hy.2.2.2.2 m (by rw [hmr];simp)))
  ·by_cases hn:y.marks=[]
   ·obtain ⟨m,r,hmr⟩:=List.exists_cons_of_ne_nil hm
    rw [hn,hmr] at h5
    simp only [Fm,if_true,if_neg (List.cons_ne_nil m r)] at h5
    exact absurd h5.symm (O4 (hx.2.2.2.2 m (by rw [hmr];simp)))
   ·rw [← K3 hx.2.2.2.2 hm,← h5,K3 hy.2.2.2.2 hn]
theorem Rd8.uniq {s:List UInt8} {x y:ItemD} (hx:Rd8 s x) (hy:Rd8 s y):x=y:=Us hx.1 hy.1 hx.2.1 hy.2.1 (hx.2.2.trans hy.2.2.symm)
/-! ### Whole texts -/
def Cx (l:List ItemD):List UInt8:=(l.map fun x=>Dj x++[10]).flatten
theorem Mo {l:List ItemD} {i:Nat} {x:ItemD} (h:l[i]?=some x):Cx (l.take (i+1))=Cx (l.take i)++(Dj x++[10]):=by
 unfold Cx
 rw [List.take_add_one,h]
 simp
def Ih (l:List ItemD):Prop:=∀ x∈l,ItemOk 8 x
instance (l:List ItemD):Decidable (Ih l):=by unfold Ih;infer_instance
theorem Ih.no {l:List ItemD} {i:Nat} {x:ItemD} (h:l[i]?=some x) (hn:¬ ItemOk 8 x):¬ Ih l:=fun h2=>hn (h2 x (List.mem_of_getElem? h))
def Jf (l:List ItemD):Int:=if 1024 < l.length then 3 else if Ih l then 0 else 6
def Kt (l:List ItemD):List UInt8:=if Jf l=0 then Cx l else []
theorem Jw {l:List ItemD} (h:1024 < l.length):Jf l=3∧Kt l=[]:=by
 have:Jf l=3:=by unfold Jf;rw [if_pos h]
 exact ⟨this,by unfold Kt;rw [this];rfl⟩
theorem Jy {l:List ItemD} (h:l.length≤1024) (hn:¬ Ih l):Jf l=6∧Kt l=[]:=by
 have:Jf l=6:=by unfold Jf;rw [if_neg (by omega),if_neg hn]
 exact ⟨this,by unfold Kt;rw [this];rfl⟩
theorem Qf {l:List ItemD} (h:l.length≤1024) (hn:Ih l):Jf l=0∧Kt l=Cx l:=by
 have:Jf l=0:=by unfold Jf;rw [if_neg (by omega),if_pos hn]
 exact ⟨this,by unfold Kt;rw [if_pos this]⟩
theorem Uq {x:ItemD} (h:¬ Lib.join x.marks [44]=[]):Dj x=Lib.decDigits x.key++[32]++Lib.decDigits x.typ++[32]++Lib.join x.marks [44]++[32]++x.text:=by
 unfold Dj Fm
 rw [if_neg (fun e=>h (by rw [e];rfl))]
theorem Ur {x:ItemD} (h:Lib.join x.marks [44]=[]) (hok:ItemOk 8 x):Dj x=Lib.decDigits x.key++[32]++Lib.decDigits x.typ++[32]++[45]++[32]++x.text:=by
 have:x.marks=[]:=by
  cases hm:x.marks with
  | nil=>rfl
  | cons m r=>rw [hm] at h;exact absurd h (join_ne (hok.2.2.2.2 m (by rw [hm];simp)))
 unfold Dj Fm
 rw [if_pos this]
theorem Afj {ms:List (List UInt8)} {i:Nat} {m:List UInt8} (h:ms[i]?=some m) (h0:0 < i):Lib.join (ms.take (i+1)) [44]=Lib.join (ms.take i) [44]++[44]++m:=by
 cases ms with
 | nil=>simp at h
 | cons a r =>
  cases i with
  | zero=>omega
  | succ i =>
   rw [List.take_succ_cons,List.take_succ_cons,Lib.join_cons,Lib.join_cons,Lib.joinTail_take_succ _ _ _ _ (by simpa using h)]
   simp
theorem Aip {ms:List (List UInt8)} {m:List UInt8} (h:ms[0]?=some m):Lib.join (ms.take 1) [44]=m:=by
 cases ms with
 | nil=>simp at h
 | cons a r=>simp at h;subst h;rw [List.take_succ_cons,List.take_zero,Lib.join_one]
theorem O3 {x:ItemD} (h:ItemOk 8 x) (i:Nat):(Lib.join (x.marks.take i) [44]).length≤136:=Kj (by rw [List.length_take];have:=h.2.2.2.1;omega) (fun s hs=>h.2.2.2.2 s (List.mem_of_mem_take hs))
theorem Up {x:ItemD} (h:x.marks.length=0):Dj x=Lib.decDigits x.key++[32]++Lib.decDigits x.typ++[32]++[45]++[32]++x.text:=by
 unfold Dj Fm
 rw [if_pos (List.eq_nil_of_length_eq_zero h)]
theorem Uo {x:ItemD} {i:Nat} (h:¬ x.marks.length=0) (hi:x.marks.length≤i):Dj x=Lib.decDigits x.key++[32]++Lib.decDigits x.typ++[32]++Lib.join (x.marks.take i) [44]++[32]++x.text:=by
 unfold Dj Fm
 rw [if_neg (fun e=>h (by rw [e];rfl)),List.take_of_length_le hi]
/-! ### Lines read back -/
/-- What every reader of a number owes: a number's own text is read as the number. -/
def Ald (lim:Nat) (s:List UInt8) (u:Nat) (b:Bool):Prop:=u < lim∧∀ m:Nat,m < lim→s=Lib.decDigits m→b=true∧u=m
def I7 (c:List UInt8):List (List UInt8):=if c=[45] then [] else Bx c
theorem Aif {ms:List (List UInt8)} (h:∀ s∈ms,Da s):I7 (Fm ms)=ms:=by
 unfold I7
 cases ms with
 | nil=>rfl
 | cons m r =>
  have:Fm (m::r)=Lib.join (m::r) [44]:=by unfold Fm;rw [if_neg (List.cons_ne_nil m r)]
  rw [if_neg (by rw [this];exact O4 (h m (by simp))),K3 h (List.cons_ne_nil m r)]
theorem Hb {s:List UInt8} {y:ItemD} {u1 u2 lim:Nat} {b1 b2:Bool} (h:Rd8 s y) (n1:Ald 18446744073709551616 (Lib.cut s [32]).1 u1 b1) (hl:256≤lim) (n2:Ald lim (Lib.cut (Lib.cut s [32]).2.1 [32]).1 u2 b2) :
  b1=true∧b2=true∧(⟨u1,u2,(Lib.cut (Lib.cut (Lib.cut s [32]).2.1 [32]).2.1 [32]).2.1,I7 (Lib.cut (Lib.cut (Lib.cut s [32]).2.1 [32]).2.1 [32]).1⟩:ItemD)=y:=by
 obtain ⟨hok,hk,rfl⟩:=h
 have ht:y.typ < 256:=by have:=hok.2.1;omega
 have a1:=O2 y []
 rw [List.append_nil,List.append_nil] at a1
 rw [a1] at n1 n2
 simp only [Lz] at n2
 rw [a1]
 simp only [Lz,O1 hok.2.2.2.2,Aif hok.2.2.2.2]
 obtain ⟨h1,h2⟩:=n1.2 y.key hk rfl
 obtain ⟨h3,h4⟩:=n2.2 y.typ (by omega) rfl
 exact ⟨h1,h3,by rw [h2,h4]⟩
def Rd10 (s:List UInt8) (x:ItemD):Prop:=ItemOk 8 x∧x.key < 18446744073709551616∧Dj x++[10]=s
theorem Rd10.one {s:List UInt8} {x:ItemD} (h:Rd10 (s++[10]) x):Rd8 s x:=⟨h.1,h.2.1,by have:=h.2.2;simpa using this⟩
theorem Rd8.ten {s:List UInt8} {x:ItemD} (h:Rd8 s x):Rd10 (s++[10]) x:=⟨h.1,h.2.1,by rw [h.2.2]⟩
/-- The marks that a reader of marks has taken, and what is left. -/
def MkI (y xs:List (List UInt8)) (c:List UInt8):Prop:=∃ ys,y=xs++ys∧c=Fm ys
theorem MkI.nil {y:List (List UInt8)} {c:List UInt8} (h:c=Fm y):MkI y [] c:=⟨y,rfl,h⟩
theorem MkI.step {y xs:List (List UInt8)} {c:List UInt8} (hn:∀ s∈y,Da s) (h:MkI y xs c) (hc:¬ c=[45]) :
  ((Lib.cut c [44]).2.2=true→MkI y (xs++[(Lib.cut c [44]).1]) (Lib.cut c [44]).2.1)∧(¬ (Lib.cut c [44]).2.2=true→y=xs++[(Lib.cut c [44]).1]):=by
 obtain ⟨ys,h1,h2⟩:=h
 cases ys with
 | nil=>exact absurd h2 hc
 | cons m r =>
  have hm:(44:UInt8) ∉ m:=I2 (hn m (by rw [h1];simp)) (by decide)
  have hj:Fm (m::r)=Lib.join (m::r) [44]:=by unfold Fm;rw [if_neg (List.cons_ne_nil m r)]
  cases r with
  | nil =>
   rw [hj,Lib.join_one] at h2
   subst h2
   rw [Akn hm]
   exact ⟨fun h=>(by cases h),fun _=>h1⟩
  | cons m2 r =>
   rw [hj,N4] at h2
   subst h2
   rw [Kp hm]
   refine ⟨fun _=>⟨m2::r,by rw [h1];simp,?_⟩,fun h=>absurd rfl h⟩
   unfold Fm;rw [if_neg (List.cons_ne_nil m2 r)]
theorem itmF_le {t:Int} {x:ItemD} (h:¬ 0 < Gy t x):ItemOk t x:=by
 unfold Gy at h
 split at h
 ·assumption
 ·omega
/-! ### Parsing -/
noncomputable def Sd (s:List UInt8):Option ItemD:=by
 classical exact if h:∃ x,Rd8 s x then some h.choose else none
theorem M6 {s:List UInt8} {x:ItemD} (h:Rd8 s x):Sd s=some x:=by
 have hx:∃ x,Rd8 s x:=⟨x,h⟩
 unfold Sd
 rw [dif_pos hx,Rd8.uniq hx.choose_spec h]
theorem Uw {s:List UInt8} (h:∀ y,¬ Rd8 s y):Sd s=none:=by
 unfold Sd
 rw [dif_neg (fun ⟨x,hx⟩=>h x hx)]
noncomputable def pGo:Nat→List ItemD→List UInt8→List ItemD × Nat × Int
 | 0,_,_=>([],0,0)
 | f+1,l,s=>if s=[] then (l,0,0) else if (Lib.cut s [10]).2.2=true then
   (match Sd (Lib.cut s [10]).1 with
    | some x=>if l.length=1024 then ([],l.length+1,3) else pGo f (l++[x]) (Lib.cut s [10]).2.1
    | none=>([],l.length+1,5)) else ([],l.length+1,5)
noncomputable def D8 (s:List UInt8):List ItemD × Nat × Int:=if 1048576 < s.length then ([],0,3) else pGo (s.length+1) [] s
def Pi (s0:List UInt8) (xs:List ItemD) (c:List UInt8):Prop:=∃ f,c.length < f∧D8 s0=pGo f xs c∧xs.length≤1024∧Ih xs
theorem Aep {s:List UInt8} (h:1048576 < s.length):D8 s=([],0,3):=by unfold D8;rw [if_pos h]
theorem Pi.start {s:List UInt8} (h:¬ 1048576 < s.length):Pi s [] s:=⟨s.length+1,by omega,by unfold D8;rw [if_neg h],by simp,fun x hx=>by simp at hx⟩
theorem Pi.fin {s0:List UInt8} {xs:List ItemD} (h:Pi s0 xs []):D8 s0=(xs,0,0):=by
 obtain ⟨f,h1,h2,_⟩:=h
 cases f with
 | zero=>simp at h1
 | succ f=>rw [h2];unfold pGo;rw [if_pos rfl]
theorem Ako {s:List UInt8} (h:¬ s=[]):(Lib.cut s [10]).2.1.length < s.length:=by
 have h0:=List.length_pos_iff.2 h
 rw [Nb]
 split
 ·simp only [List.length_drop];omega
 ·simpa using h0
theorem Pi.bad {s0:List UInt8} {xs:List ItemD} {c:List UInt8} (h:Pi s0 xs c) (hc:¬ c=[]) (hb:¬ (Lib.cut c [10]).2.2=true∨∀ y,¬ Rd8 (Lib.cut c [10]).1 y):D8 s0=([],xs.length+1,5):=by
 obtain ⟨f,h1,h2,_⟩:=h
 cases f with
 | zero=>omega
 | succ f =>
  rw [h2]
  unfold pGo
  rw [if_neg hc]
  by_cases hq:(Lib.cut c [10]).2.2=true
  ·rw [if_pos hq,Uw (hb.resolve_left (fun h=>h hq))]
  ·rw [if_neg hq]
theorem Pi.full {s0:List UInt8} {xs:List ItemD} {c:List UInt8} {x:ItemD} (h:Pi s0 xs c) (hc:¬ c=[]) (hq:(Lib.cut c [10]).2.2=true) (hx:Rd8 (Lib.cut c [10]).1 x) (hl:xs.length=1024):D8 s0=([],xs.length+1,3):=by
 obtain ⟨f,h1,h2,_⟩:=h
 cases f with
 | zero=>omega
 | succ f =>
  rw [h2]
  unfold pGo
  rw [if_neg hc,if_pos hq,M6 hx]
  simp only
  rw [if_pos hl]
theorem Pi.next {s0:List UInt8} {xs:List ItemD} {c:List UInt8} {x:ItemD} (h:Pi s0 xs c) (hc:¬ c=[]) (hq:(Lib.cut c [10]).2.2=true) (hx:Rd8 (Lib.cut c [10]).1 x) (hl:¬ xs.length=1024):Pi s0 (xs++[x]) (Lib.cut c [10]).2.1:=by
 obtain ⟨f,h1,h2,h3,h4⟩:=h
 cases f with
 | zero=>omega
 | succ f =>
  have h5:=Ako hc
  refine ⟨f,by omega,?_,by simp only [List.length_append,List.length_cons,List.length_nil];omega,fun y hy=>?_⟩
  ·rw [h2,pGo,if_neg hc,if_pos hq,M6 hx]
   simp only
   rw [if_neg hl]
  ·rcases List.mem_append.1 hy with hy | hy
   ·exact h4 y hy
   ·simp only [List.mem_singleton] at hy;subst hy;exact hx.1
theorem Zw (x:ItemD) (l:List ItemD):Cx (x::l)=Dj x++10::Cx l:=by unfold Cx;simp
theorem Tx {l:List ItemD} (h:Ih l) (hk:∀ x∈l,x.key < 18446744073709551616∧x.typ < 256):(Cx l).length≤301 * l.length:=by
 induction l with
 | nil=>simp [Cx]
 | cons x l ih =>
  have h1:=Le (h x (by simp)) (hk x (by simp)).1 (hk x (by simp)).2
  have h2:=ih (fun y hy=>h y (by simp [hy])) (fun y hy=>hk y (by simp [hy]))
  rw [Zw]
  simp only [List.length_append,List.length_cons]
  omega
/-! ### The examples -/
open Go Go.Y Go.Proofs
variable {w0 w:World} {G:A4} {L:List Res}
set_option linter.unusedSimpArgs false
set_option linter.unusedVariables false
theorem Zy {w:World} {x:Nat}:Calls Tryz.prog 49 #[.int .i32 (x:Int)] w (fun e w'=>e=.returned (.bool (H3 x))∧∃ q,w' = w.drewN q):=by
 refine A0 (vs:=[_]) Tryz.func49 rfl (n:=9) rfl rfl<|Ab<|Ac<|Af rfl<|Aa<|Ad<|Ab<|Ac<|Ae rfl<|C9 rfl rfl<|Ae rfl<|?_
 rcases bE (decide ((x:Int) < 32)) with h1b | h2b
 ·skip
  have h1:=dT h1b
  refine g_f rfl h1b<|g_f rfl h1b<|Bj rfl h1b rfl<|Af rfl<|Aa<|Ad<|Ak<|Aj rfl rfl<|?_
  exact ⟨by have h_:H3 x=true:=(by unfold H3;first | (simp_all;omega) | simp_all);rw [h_],0,rfl⟩
 ·skip
  have h2:=dF h2b
  refine g_t rfl h2b<|Ae rfl<|g_t rfl h2b<|Df rfl rfl<|Bh rfl h2b rfl<|Af rfl<|Aa<|Ad<|Ak<|Aj rfl rfl<|?_
  exact ⟨by have h_:H3 x=(decide (126 < (x:Int))):=(by unfold H3;first | (simp_all;omega) | simp_all);rw [h_],0,rfl⟩
theorem Aaw (M:Mem w0 G L w) {s:List UInt8}:Calls Tryz.prog 103 #[.string (str s),.func (.func 49) #[] #[]] w (Ci w0 G L fun v=>∃ z:Int,v=.int .i64 z∧(z < 0↔∀ c∈s,It c)):=by
 have hp:PredAt Tryz.prog 49 #[] encR H3 w:=fun W x _=>(Zy (x:=x))
 refine (Any.strings_IndexFunc Tryz.laysGw15 49 #[] (Go.Proofs.enters_of Tryz.func49 (by kernel_rfl) rfl) H3 (str s) w hp).mono ?_
 rintro e w' ⟨rfl,hb⟩
 exact ⟨M.below' hb,_,rfl,Wk s⟩
theorem Y6 (M:Mem w0 G L w) {s:List UInt8}:Calls Tryz.prog 48 #[.string (str s),.func (.func 49) #[] #[]] w (Ci w0 G L fun v=>∃ b:Bool,v=.bool b∧(b=true↔¬ ∀ c∈s,It c)):=by
 refine A0 (vs:=[_,_]) Tryz.func48 rfl (n:=9) rfl rfl<|Ab<|Ac<|Af rfl<|Aa<|Ad<|Ab<|Ac<|Ae rfl<|Ae rfl<|Bw Abi rfl rfl (Aaw (s:=s) M)<|?_;clear M;rintro _ w M ⟨z1,rfl,hz1⟩
 refine Kx rfl rfl<|Af rfl<|Aa<|Ad<|Ak<|Aj rfl rfl<|?_
 exact ⟨M,_,rfl,by rw [decide_eq_true_iff,← hz1];omega⟩
theorem Aaq {w:World} {x:Nat}:Calls Tryz.prog 105 #[.int .i32 (x:Int)] w (fun e w'=>e=.returned (.bool (Mc x))∧∃ q,w' = w.drewN q):=by
 refine A0 (vs:=[_]) Tryz.func105 rfl (n:=17) rfl rfl<|Ab<|Ac<|Af rfl<|Aa<|Ad<|Ab<|Ac<|Ae rfl<|C9 rfl rfl<|Ae rfl<|?_
 rcases bE (decide ((x:Int) < 97)) with h1b | h4b
 ·skip
  have h1:=dT h1b
  refine g_f rfl h1b<|g_f rfl h1b<|Bj rfl h1b rfl<|Ae rfl<|g_t rfl rfl<|Ae rfl<|g_t rfl rfl<|C9 rfl rfl<|g_t rfl rfl<|Ae rfl<|?_
  rcases bE (decide ((x:Int) < 48)) with h2b | h3b
  ·skip
   have h2:=dT h2b
   refine g_f rfl h2b<|g_f rfl h2b<|g_t rfl rfl<|Bj rfl h2b rfl<|Bj rfl rfl rfl<|Af rfl<|Aa<|Ad<|Ak<|Aj rfl rfl<|?_
   exact ⟨by have h_:Mc x=true:=(by unfold Mc;first | (simp_all;omega) | simp_all);rw [h_],0,rfl⟩
  ·skip
   have h3:=dF h3b
   refine g_t rfl h3b<|Ae rfl<|g_t rfl h3b<|Df rfl rfl<|g_t rfl rfl<|Bh rfl h3b rfl<|Bj rfl rfl rfl<|Af rfl<|Aa<|Ad<|Ak<|Aj rfl rfl<|?_
   exact ⟨by have h_:Mc x=(decide (57 < (x:Int))):=(by unfold Mc;first | (simp_all;omega) | simp_all);rw [h_],0,rfl⟩
 ·skip
  have h4:=dF h4b
  refine g_t rfl h4b<|Ae rfl<|g_t rfl h4b<|Df rfl rfl<|Bh rfl h4b rfl<|Ae rfl<|?_
  rcases bE (decide (122 < (x:Int))) with h5b | h8b
  ·skip
   have h5:=dT h5b
   refine g_t rfl h5b<|Ae rfl<|g_t rfl h5b<|C9 rfl rfl<|g_t rfl h5b<|Ae rfl<|?_
   rcases bE (decide ((x:Int) < 48)) with h6b | h7b
   ·skip
    have h6:=dT h6b
    refine g_f rfl h6b<|g_f rfl h6b<|g_t rfl h5b<|Bj rfl h6b rfl<|Bj rfl h5b rfl<|Af rfl<|Aa<|Ad<|Ak<|Aj rfl rfl<|?_
    exact ⟨by have h_:Mc x=true:=(by unfold Mc;first | (simp_all;omega) | simp_all);rw [h_],0,rfl⟩
   ·skip
    have h7:=dF h7b
    refine g_t rfl h7b<|Ae rfl<|g_t rfl h7b<|Df rfl rfl<|g_t rfl h5b<|Bh rfl h7b rfl<|Bj rfl h5b rfl<|Af rfl<|Aa<|Ad<|Ak<|Aj rfl rfl<|?_
    exact ⟨by have h_:Mc x=(decide (57 < (x:Int))):=(by unfold Mc;first | (simp_all;omega) | simp_all);rw [h_],0,rfl⟩
  ·skip
   have h8:=dF h8b
   refine g_f rfl h8b<|g_f rfl h8b<|g_f rfl h8b<|g_u rfl<|g_u rfl<|g_f rfl h8b<|Bh rfl h8b rfl<|Af rfl<|Aa<|Ad<|Ak<|Aj rfl rfl<|?_
   exact ⟨by have h_:Mc x=false:=(by unfold Mc;first | (simp_all;omega) | simp_all);rw [h_],0,rfl⟩
theorem Aax (M:Mem w0 G L w) {s:List UInt8}:Calls Tryz.prog 103 #[.string (str s),.func (.func 105) #[] #[]] w (Ci w0 G L fun v=>∃ z:Int,v=.int .i64 z∧(z < 0↔∀ c∈s,Di c)):=by
 have hp:PredAt Tryz.prog 105 #[] encR Mc w:=fun W x _=>(Aaq (x:=x))
 refine (Any.strings_IndexFunc Tryz.laysGw15 105 #[] (Go.Proofs.enters_of Tryz.func105 (by kernel_rfl) rfl) Mc (str s) w hp).mono ?_
 rintro e w' ⟨rfl,hb⟩
 exact ⟨M.below' hb,_,rfl,Aja s⟩
theorem Y7 (M:Mem w0 G L w) {s:List UInt8}:Calls Tryz.prog 48 #[.string (str s),.func (.func 105) #[] #[]] w (Ci w0 G L fun v=>∃ b:Bool,v=.bool b∧(b=true↔¬ ∀ c∈s,Di c)):=by
 refine A0 (vs:=[_,_]) Tryz.func48 rfl (n:=9) rfl rfl<|Ab<|Ac<|Af rfl<|Aa<|Ad<|Ab<|Ac<|Ae rfl<|Ae rfl<|Bw Abi rfl rfl (Aax (s:=s) M)<|?_;clear M;rintro _ w M ⟨z1,rfl,hz1⟩
 refine Kx rfl rfl<|Af rfl<|Aa<|Ad<|Ak<|Aj rfl rfl<|?_
 exact ⟨M,_,rfl,by rw [decide_eq_true_iff,← hz1];omega⟩
theorem Aet (M:Mem w0 G L w) {s:List UInt8} (hs:s.length≤9223372036854775807):Calls Tryz.prog 53 #[.string (str s)] w (Ci w0 G L fun v=>∃ b:Bool,v=.bool b∧(b=true↔Da s)):=by
 refine A0 (vs:=[_]) Tryz.func53 rfl (n:=17) rfl rfl<|Ab<|Ac<|Af rfl<|Aa<|Ad<|Ab<|Ac<|Af rfl<|Aa<|Ad<|Ab<|?_
 have hs0:s=[]↔s.length=0:=by cases s <;> simp
 refine Ac<|Ae rfl<|Jz rfl rfl<|Ae rfl<|?_
 rcases bE (!(decide (s=([]:List UInt8)))) with h1b | h5b
 ·skip
  have h1:=dF (Ah h1b)
  have h1c:(decide (s=([]:List UInt8)))=false:=(Ah h1b)
  refine g_t rfl (Al h1c)<|Ae rfl<|g_t rfl (Al h1c)<|Ar (fun a F=>Cr Bq.k (F.ev rfl)) rfl<|g_t rfl (Al h1c)<|K4 rfl rfl<|Bj rfl (Al h1c) rfl<|Ae rfl<|?_
  rcases bE (decide ((((s).length:Nat):Int)≤16)) with h2b | h4b
  ·skip
   have h2:=dT h2b
   refine g_t rfl h2b<|Ae rfl<|g_t rfl h2b<|Ae rfl<|g_t rfl h2b<|Bw ent48 rfl rfl (Y7 (s:=s) M)<|?_;clear M;rintro _ w M ⟨b3,rfl,hb3⟩
   refine g_t rfl h2b<|C5 rfl<|Bj rfl h2b rfl<|Af rfl<|Aa<|Ad<|Ak<|Aj rfl rfl<|?_
   exact ⟨M,(!(b3)),rfl,(by clear M;unfold Da;grind)⟩
  ·skip
   have h4:=dF h4b
   refine g_f rfl h4b<|g_f rfl h4b<|g_f rfl h4b<|g_f rfl h4b<|Bh rfl h4b rfl<|Af rfl<|Aa<|Ad<|Ak<|Aj rfl rfl<|?_
   exact ⟨M,false,rfl,(by clear M;unfold Da;grind)⟩
 ·skip
  have h5:=dT (Ai h5b)
  have h5c:(decide (s=([]:List UInt8)))=true:=(Ai h5b)
  refine g_f rfl (Ag h5c)<|g_f rfl (Ag h5c)<|g_f rfl (Ag h5c)<|Bh rfl (Ag h5c) rfl<|Ae rfl<|g_f rfl rfl<|g_f rfl rfl<|g_f rfl rfl<|g_f rfl rfl<|Bh rfl rfl rfl<|Af rfl<|Aa<|Ad<|Ak<|Aj rfl rfl<|?_
  exact ⟨M,false,rfl,(by clear M;unfold Da;grind)⟩
theorem Gd (M:Mem w0 G L w) {s:List UInt8} (hs:s.length≤9223372036854775807):Calls Tryz.prog 107 #[.string (str s)] w (Ci w0 G L fun v=>v=.int .i64 (if Da s then (1:Int) else 0)):=by
 refine A0 (vs:=[_]) Tryz.func107 rfl (n:=37) rfl rfl<|Ab<|Ac<|Af rfl<|Aa<|Ad<|Ab<|Ab<|Ac<|Ae rfl<|Ar (fun a F=>Cr Bq.k (F.ev rfl)) rfl<|C9 rfl rfl<|Ae rfl<|?_
 rcases bE (decide ((((s).length:Nat):Int) < 1)) with h1b | h2b
 ·skip
  have h1:=dT h1b
  refine g_f rfl h1b<|g_f rfl h1b<|g_f rfl h1b<|Bj rfl h1b rfl<|Aa<|Ad<|Bo rfl rfl<|Ab<|Ac<|Af rfl<|Aa<|Ad<|Ak<|Au<|Aj rfl rfl<|?_
  exact ⟨M,by rw [if_neg (fun h_:Da s=>by have:=h_.1;omega)]⟩
 ·skip
  have h2:=dF h2b
  refine g_t rfl h2b<|Ae rfl<|g_t rfl h2b<|Ar (fun a F=>Cr Bq.k (F.ev rfl)) rfl<|g_t rfl h2b<|Df rfl rfl<|Bh rfl h2b rfl<|Aa<|Ad<|Ax rfl ?_ ?_
  ·intro h3b
   have h3:=dT h3b
   refine Ab<|Ac<|Af rfl<|Aa<|Ad<|Ak<|Au<|Aj rfl rfl<|?_
   exact ⟨M,by rw [if_neg (fun h_:Da s=>by have:=h_.1;omega)]⟩
  ·intro h4b
   have h4:=dF h4b
   refine Aq<|Ad<|Ab<|Ab<|Ac<|Af rfl<|Aa<|Ad<|A1<|fun a F=>B2 (fun m a' w'=>∃ (i:Nat),m=s.length - i∧Fits 37 a' [(0,.string (str s)),(3,.int .i64 ((i:Nat):Int))]∧Mem w0 G (L) w'∧(i≤s.length)∧(∀ (m:Nat) (b:UInt8),m < i→s[m]?=some b→Di b)) _ ⟨0,rfl,F.to ⟨rfl,rfl,trivial⟩,M,by omega,fun m b h=>by omega⟩ ?_
   clear F M
   rintro m a w ⟨i,rfl,F,M,hi,hA⟩
   revert a
   refine Ab<|Ab<|Ac<|Ae rfl<|Ae rfl<|Ar (fun a F=>Cr Bq.k (F.ev rfl)) rfl<|C9 rfl rfl<|Aa<|Ad<|Ax rfl ?_ ?_
   ·intro h5b
    have h5:=dT h5b
    refine Aq<|Ad<|Ab<|A1<|Ab<|Ac<|Ae rfl<|Ae rfl<|?_
    obtain ⟨B6,hB6⟩:=Bc (xs:=(s)) (i:=i) (by omega)
    have lB6:=Ui B6
    refine Ar (fun a F=>Dl (i:=i) Bq.k (F.ev rfl) (F.ev rfl) hB6) rfl<|Af rfl<|Aa<|Ad<|Ab<|Ac<|Ae rfl<|Kx rfl rfl<|Ae rfl<|?_
    rcases bE (decide (97≤nb B6)) with h7b | h14b
    ·skip
     have h7:=dT h7b
     refine g_t rfl h7b<|Ae rfl<|g_t rfl h7b<|K4 rfl rfl<|Bj rfl h7b rfl<|Ae rfl<|?_
     rcases bE (decide (nb B6≤122)) with h8b | h9b
     ·skip
      have h8:=dT h8b
      refine g_f rfl h8b<|g_f rfl h8b<|g_f rfl h8b<|g_u rfl<|g_u rfl<|g_f rfl h8b<|Bj rfl h8b rfl<|C5 rfl<|Aa<|Ad<|El rfl rfl<|Aq<|C0<|Ad<|Ac<|Ae rfl<|B9 rfl rfl<|Af rfl<|Aa<|Ad<|fun a F=>?_
      exact ⟨_,by omega,i+1,rfl,F.to ⟨rfl,rfl,trivial⟩,M,by omega,E9 hA hB6 (by unfold Di;omega)⟩
     ·skip
      have h9:=dF h9b
      refine g_t rfl h9b<|Ae rfl<|g_t rfl h9b<|Kx rfl rfl<|g_t rfl h9b<|Ae rfl<|?_
      rcases bE (decide (48≤nb B6)) with h10b | h13b
      ·skip
       have h10:=dT h10b
       refine g_t rfl h10b<|Ae rfl<|g_t rfl h10b<|K4 rfl rfl<|g_t rfl h9b<|Bj rfl h10b rfl<|Bh rfl h9b rfl<|C5 rfl<|Aa<|Ad<|Ax rfl ?_ ?_
       ·intro h11b
        have h11:=dF (Ah h11b)
        refine Ab<|Ac<|Af rfl<|Aa<|Ad<|Ak<|Bk<|Au<|Au<|Bk<|Au<|Aj rfl rfl<|?_
        exact ⟨M,by rw [if_neg (fun h_:Da s=>absurd h_.2 (F9 hB6 (by unfold Di;omega)))]⟩
       ·intro h12b
        have h12:=dT (Ai h12b)
        refine Aq<|C0<|Ad<|Ac<|Ae rfl<|B9 rfl rfl<|Af rfl<|Aa<|Ad<|fun a F=>?_
        exact ⟨_,by omega,i+1,rfl,F.to ⟨rfl,rfl,trivial⟩,M,by omega,E9 hA hB6 (by unfold Di;omega)⟩
      ·skip
       have h13:=dF h13b
       refine g_f rfl h13b<|g_f rfl h13b<|g_t rfl h9b<|Bh rfl h13b rfl<|Bh rfl h9b rfl<|C5 rfl<|Aa<|Ad<|Bo rfl rfl<|Ab<|Ac<|Af rfl<|Aa<|Ad<|Ak<|Bk<|Au<|Au<|Bk<|Au<|Aj rfl rfl<|?_
       exact ⟨M,by rw [if_neg (fun h_:Da s=>absurd h_.2 (F9 hB6 (by unfold Di;omega)))]⟩
    ·skip
     have h14:=dF h14b
     refine g_f rfl h14b<|g_f rfl h14b<|Bh rfl h14b rfl<|Ae rfl<|g_t rfl rfl<|Ae rfl<|g_t rfl rfl<|Kx rfl rfl<|g_t rfl rfl<|Ae rfl<|?_
     rcases bE (decide (48≤nb B6)) with h15b | h18b
     ·skip
      have h15:=dT h15b
      refine g_t rfl h15b<|Ae rfl<|g_t rfl h15b<|K4 rfl rfl<|g_t rfl rfl<|Bj rfl h15b rfl<|Bh rfl rfl rfl<|C5 rfl<|Aa<|Ad<|Ax rfl ?_ ?_
      ·intro h16b
       have h16:=dF (Ah h16b)
       refine Ab<|Ac<|Af rfl<|Aa<|Ad<|Ak<|Bk<|Au<|Au<|Bk<|Au<|Aj rfl rfl<|?_
       exact ⟨M,by rw [if_neg (fun h_:Da s=>absurd h_.2 (F9 hB6 (by unfold Di;omega)))]⟩
      ·intro h17b
       have h17:=dT (Ai h17b)
       refine Aq<|C0<|Ad<|Ac<|Ae rfl<|B9 rfl rfl<|Af rfl<|Aa<|Ad<|fun a F=>?_
       exact ⟨_,by omega,i+1,rfl,F.to ⟨rfl,rfl,trivial⟩,M,by omega,E9 hA hB6 (by unfold Di;omega)⟩
     ·skip
      have h18:=dF h18b
      refine g_f rfl h18b<|g_f rfl h18b<|g_t rfl rfl<|Bh rfl h18b rfl<|Bh rfl rfl rfl<|C5 rfl<|Aa<|Ad<|Bo rfl rfl<|Ab<|Ac<|Af rfl<|Aa<|Ad<|Ak<|Bk<|Au<|Au<|Bk<|Au<|Aj rfl rfl<|?_
      exact ⟨M,by rw [if_neg (fun h_:Da s=>absurd h_.2 (F9 hB6 (by unfold Di;omega)))]⟩
   ·intro h19b
    have h19:=dF h19b
    refine B5<|B0<|B0<|Dr<|Ad<|Ab<|Ac<|Af rfl<|Aa<|Ad<|Ak<|Aj rfl rfl<|?_
    exact ⟨M,by rw [if_pos (show Da s from ⟨by omega,Ej hA (by omega)⟩)]⟩
theorem Xl (M:Mem w0 G L w) {s:List UInt8} (hs:s.length≤9223372036854775807):Calls Tryz.prog 106 #[.string (str s)] w (Ci w0 G L fun v=>v=.int .i64 (if Str s then (1:Int) else 0)):=by
 refine A0 (vs:=[_]) Tryz.func106 rfl (n:=23) rfl rfl<|Ab<|Ac<|Af rfl<|Aa<|Ad<|Ab<|Ab<|Ac<|Ae rfl<|Ar (fun a F=>Cr Bq.k (F.ev rfl)) rfl<|Df rfl rfl<|Aa<|Ad<|Ax rfl ?_ ?_
 ·intro h1b
  have h1:=dT h1b
  refine Ab<|Ac<|Af rfl<|Aa<|Ad<|Ak<|Au<|Aj rfl rfl<|?_
  exact ⟨M,by rw [if_neg (fun h_:Str s=>by have:=h_.1;omega)]⟩
 ·intro h2b
  have h2:=dF h2b
  refine Aq<|Ad<|Ab<|Ab<|Ac<|Af rfl<|Aa<|Ad<|A1<|fun a F=>B2 (fun m a' w'=>∃ (i:Nat),m=s.length - i∧Fits 23 a' [(0,.string (str s)),(3,.int .i64 ((i:Nat):Int))]∧Mem w0 G (L) w'∧(i≤s.length)∧(∀ (m:Nat) (b:UInt8),m < i→s[m]?=some b→It b)) _ ⟨0,rfl,F.to ⟨rfl,rfl,trivial⟩,M,by omega,fun m b h=>by omega⟩ ?_
  clear F M
  rintro m a w ⟨i,rfl,F,M,hi,hA⟩
  revert a
  refine Ab<|Ab<|Ac<|Ae rfl<|Ae rfl<|Ar (fun a F=>Cr Bq.k (F.ev rfl)) rfl<|C9 rfl rfl<|Aa<|Ad<|Ax rfl ?_ ?_
  ·intro h3b
   have h3:=dT h3b
   refine Aq<|Ad<|Ab<|A1<|Ab<|Ac<|Ae rfl<|Ae rfl<|?_
   obtain ⟨B4,hB4⟩:=Bc (xs:=(s)) (i:=i) (by omega)
   have lB4:=Ui B4
   refine Ar (fun a F=>Dl (i:=i) Bq.k (F.ev rfl) (F.ev rfl) hB4) rfl<|C9 rfl rfl<|Ae rfl<|?_
   rcases bE (decide (nb B4 < 32)) with h5b | h6b
   ·skip
    have h5:=dT h5b
    refine g_f rfl h5b<|g_f rfl h5b<|g_f rfl h5b<|g_f rfl h5b<|Bj rfl h5b rfl<|Aa<|Ad<|Bo rfl rfl<|Ab<|Ac<|Af rfl<|Aa<|Ad<|Ak<|Bk<|Au<|Au<|Bk<|Au<|Aj rfl rfl<|?_
    exact ⟨M,by rw [if_neg (fun h_:Str s=>absurd h_.2 (F9 hB4 (by unfold It;omega)))]⟩
   ·skip
    have h6:=dF h6b
    refine g_t rfl h6b<|Ae rfl<|g_t rfl h6b<|Ae rfl<|g_t rfl h6b<|Ar (fun a F=>Dl (i:=i) Bq.k (F.ev rfl) (F.ev rfl) hB4) rfl<|g_t rfl h6b<|Df rfl rfl<|Bh rfl h6b rfl<|Aa<|Ad<|Ax rfl ?_ ?_
    ·intro h7b
     have h7:=dT h7b
     refine Ab<|Ac<|Af rfl<|Aa<|Ad<|Ak<|Bk<|Au<|Au<|Bk<|Au<|Aj rfl rfl<|?_
     exact ⟨M,by rw [if_neg (fun h_:Str s=>absurd h_.2 (F9 hB4 (by unfold It;omega)))]⟩
    ·intro h8b
     have h8:=dF h8b
     refine Aq<|C0<|Ad<|Ac<|Ae rfl<|B9 rfl rfl<|Af rfl<|Aa<|Ad<|fun a F=>?_
     exact ⟨_,by omega,i+1,rfl,F.to ⟨rfl,rfl,trivial⟩,M,by omega,E9 hA hB4 (by unfold It;omega)⟩
  ·intro h9b
   have h9:=dF h9b
   refine B5<|B0<|B0<|Dr<|Ad<|Ab<|Ac<|Af rfl<|Aa<|Ad<|Ak<|Aj rfl rfl<|?_
   exact ⟨M,by rw [if_pos (show Str s from ⟨by omega,Ej hA (by omega)⟩)]⟩
open Go Go.Y Go.Proofs
variable {w0 w:World} {G:A4} {L:List Res}
set_option linter.unusedSimpArgs false
set_option linter.unusedVariables false
theorem Abn (M:Mem w0 G L w) {s:List UInt8} (hs:s.length≤9223372036854775807):Calls Tryz.prog 52 #[.string (str s)] w (Ci w0 G L fun v=>∃ b:Bool,v=.bool b∧(b=true↔¬ Da s)):=by
 refine A0 (vs:=[_]) Tryz.func52 rfl (n:=6) rfl rfl<|Ab<|Ac<|Af rfl<|Aa<|Ad<|Ab<|Ac<|Ae rfl<|Bw ent53 rfl rfl (Aet (s:=s) M (by assumption))<|?_;clear M;rintro _ w M ⟨b1,rfl,hb1⟩
 refine C5 rfl<|Af rfl<|Aa<|Ad<|Ak<|Aj rfl rfl<|?_
 exact ⟨M,(!(b1)),rfl,(by clear M;grind)⟩
theorem O6 (M:Mem w0 G L w) {ad:Option Addr} {cd:Nat} {xs:List (List UInt8)} (S:Az D4 1 G (.slice ad xs.length cd) xs):Calls Tryz.prog 104 #[.slice ad xs.length cd,.func (.func 52) #[] #[]] w (Ci w0 G L fun v=>∃ z:Int,v=.int .i64 z∧(0≤z↔¬ ∀ s∈xs,Da s)):=by
 have bS:=S.bound
 refine A0 (vs:=[_,_]) Tryz.func104 rfl (n:=19) rfl rfl<|Ab<|Ac<|Af rfl<|Aa<|Ad<|Ab<|Ab<|Ac<|Ae rfl<|B8 Ca.k rfl<|Ae rfl<|Aa<|Ad<|A1<|fun a F=>B2 (fun m a' w'=>∃ (i:Nat),m=xs.length - i∧Fits 19 a' [(0,.slice ad xs.length cd),(1,.func (.func 52) #[] #[]),(7,.int .i64 ((xs.length:Nat):Int)),(8,.int .i64 ((i:Nat):Int))]∧Mem w0 G (L) w'∧(i≤xs.length)∧(∀ (m:Nat) (s:List UInt8),m < i→xs[m]?=some s→Da s)) _ ⟨0,rfl,F.to ⟨rfl,rfl,rfl,rfl,trivial⟩,M,Nat.zero_le _,fun m d h=>by omega⟩ ?_
 clear F M
 rintro m a w ⟨i,rfl,F,M,hi,hA⟩
 revert a
 refine Ab<|Ac<|C9 rfl rfl<|Aa<|Ad<|Ab<|Ax rfl ?_ ?_
 ·intro h1b
  have h1:=dT h1b
  refine Aq<|Ad<|Ab<|A1<|Ab<|Ac<|Ae rfl<|Af rfl<|Aa<|Ad<|Ab<|Ac<|Ae rfl<|Ae rfl<|Ae rfl<|?_
  obtain ⟨Xe2,hXe2⟩:=Bc (xs:=xs) (i:=i) (by omega)
  obtain ⟨be2,oe2,_,Ie2,_,Ae2,⟨rfl,hsle2⟩⟩:=S.at hXe2
  refine Ds Ca.k Bq Ie2 rfl rfl<|C2 Bq M Ae2 0 rfl rfl (by omega) rfl<|Z6 ent52 (caps:=[]) rfl rfl rfl (Abn (s:=Xe2) M (by omega))<|?_;clear M;rintro _ w M ⟨b3,rfl,hb3⟩
  refine Aa<|Ad<|Ax rfl ?_ ?_
  ·intro h4b
   have h4:(b3)=true:=h4b
   refine Ab<|Ac<|Ae rfl<|Af rfl<|Aa<|Ad<|Ak<|Bk<|Au<|Au<|Bk<|Au<|Aj rfl rfl<|?_
   exact ⟨M,_,rfl,⟨fun _ h_=>(hb3.1 (by assumption)) (h_ _ (List.mem_of_getElem? hXe2)),fun _=>by omega⟩⟩
  ·intro h5b
   have h5:(b3)=false:=h5b
   refine Aq<|C0<|Ad<|Ac<|B9 rfl rfl<|Ae rfl<|Aa<|Ad<|fun a F=>?_
   exact ⟨_,by omega,i+1,rfl,F.to ⟨rfl,rfl,rfl,rfl,trivial⟩,M,by omega,Ov hA hXe2 (by clear F M;grind)⟩
 ·intro h6b
  have h6:=dF h6b
  refine B5<|B0<|B0<|Dr<|Ad<|Ab<|Ac<|Af rfl<|Aa<|Ad<|Ak<|Aj rfl rfl<|?_
  exact ⟨M,_,rfl,⟨fun h=>by omega,fun h=>absurd (Gn hA (by omega)) h⟩⟩
theorem Nc (M:Mem w0 G L w) {ad:Option Addr} {cd:Nat} {xs:List (List UInt8)} (S:Az D4 1 G (.slice ad xs.length cd) xs):Calls Tryz.prog 51 #[.slice ad xs.length cd,.func (.func 52) #[] #[]] w (Ci w0 G L fun v=>∃ b:Bool,v=.bool b∧(b=true↔¬ ∀ s∈xs,Da s)):=by
 refine A0 (vs:=[_,_]) Tryz.func51 rfl (n:=9) rfl rfl<|Ab<|Ac<|Af rfl<|Aa<|Ad<|Ab<|Ac<|Ae rfl<|Ae rfl<|Bw Ake rfl rfl (O6 (xs:=xs) M S)<|?_;clear M;rintro _ w M ⟨z1,rfl,hz1⟩
 refine Kx rfl rfl<|Af rfl<|Aa<|Ad<|Ak<|Aj rfl rfl<|?_
 exact ⟨M,_,rfl,decide_eq_true_iff.trans hz1⟩
theorem Afw {w0 w:World} {G:A4} {L:List Res} {b:Nat} {x:ItemD} {ma:Option Addr} {mc:Nat} (M:Mem w0 G (.blk b [.int .u64 ((x.key:Nat):Int),.int .u8 ((x.typ:Nat):Int),.string (str x.text),.slice ma x.marks.length mc] 26::L) w) (SM:Az D4 1 G (.slice ma x.marks.length mc) x.marks) :
  Calls Tryz.prog 47 #[.pointer (some ⟨b,0,none⟩)] w (Ci w0 G (.blk b [.int .u64 ((x.key:Nat):Int),.int .u8 ((x.typ:Nat):Int),.string (str x.text),.slice ma x.marks.length mc] 26::L) fun v=>∃ bb:Bool,v=.bool bb∧(bb=true↔Str x.text)):=by
 refine A0 (vs:=[_]) Tryz.func47 rfl (n:=12) rfl rfl<|Ab<|Ac<|Af rfl<|Aa<|Ad<|Ab<|Ac<|A2 Bf.k rfl rfl<|Bi Bq M 0 rfl rfl rfl rfl<|Ar (fun a F=>Cr Bq.k (F.ev rfl)) rfl<|K4 rfl rfl<|Ae rfl<|?_
 rcases bE (decide ((((x.text).length:Nat):Int)≤64)) with h1b | h3b
 ·skip
  have h1:=dT h1b
  refine g_t rfl h1b<|A2 Bf.k rfl rfl<|g_t rfl h1b<|Bi Bq M 0 rfl rfl rfl rfl<|g_t rfl h1b<|Bw ent48 rfl rfl (Y6 (s:=x.text) M)<|?_;clear M;rintro _ w M ⟨b2,rfl,hb2⟩
  refine g_t rfl h1b<|C5 rfl<|Bj rfl h1b rfl<|Af rfl<|Aa<|Ad<|Ak<|Aj rfl rfl<|?_
  exact ⟨M,(!(b2)),rfl,(by clear M;unfold Str;grind)⟩
 ·skip
  have h3:=dF h3b
  refine g_f rfl h3b<|g_f rfl h3b<|g_f rfl h3b<|g_f rfl h3b<|Bh rfl h3b rfl<|Af rfl<|Aa<|Ad<|Ak<|Aj rfl rfl<|?_
  exact ⟨M,false,rfl,(by clear M;unfold Str;grind)⟩
theorem Afv {w0 w:World} {G:A4} {L:List Res} {b:Nat} {x:ItemD} {ma:Option Addr} {mc:Nat} (M:Mem w0 G (.blk b [.int .u64 ((x.key:Nat):Int),.int .u8 ((x.typ:Nat):Int),.string (str x.text),.slice ma x.marks.length mc] 26::L) w) (SM:Az D4 1 G (.slice ma x.marks.length mc) x.marks) :
  Calls Tryz.prog 50 #[.pointer (some ⟨b,0,none⟩)] w (Ci w0 G (.blk b [.int .u64 ((x.key:Nat):Int),.int .u8 ((x.typ:Nat):Int),.string (str x.text),.slice ma x.marks.length mc] 26::L) fun v=>∃ bb:Bool,v=.bool bb∧(bb=true↔(x.marks.length≤8∧∀ s∈x.marks,Da s))):=by
 refine A0 (vs:=[_]) Tryz.func50 rfl (n:=12) rfl rfl<|Ab<|Ac<|Af rfl<|Aa<|Ad<|Ab<|Ac<|A2 Bf.k rfl rfl<|Bi Ca M 0 rfl rfl rfl rfl<|B8 Ca.k rfl<|K4 rfl rfl<|Ae rfl<|?_
 rcases bE (decide (((x.marks.length:Nat):Int)≤8)) with h1b | h3b
 ·skip
  have h1:=dT h1b
  refine g_t rfl h1b<|A2 Bf.k rfl rfl<|g_t rfl h1b<|Bi Ca M 0 rfl rfl rfl rfl<|g_t rfl h1b<|Bw ent51 rfl rfl (Nc (xs:=x.marks) M SM)<|?_;clear M;rintro _ w M ⟨b2,rfl,hb2⟩
  refine g_t rfl h1b<|C5 rfl<|Bj rfl h1b rfl<|Af rfl<|Aa<|Ad<|Ak<|Aj rfl rfl<|?_
  exact ⟨M,(!(b2)),rfl,(by clear M;grind)⟩
 ·skip
  have h3:=dF h3b
  refine g_f rfl h3b<|g_f rfl h3b<|g_f rfl h3b<|g_f rfl h3b<|Bh rfl h3b rfl<|Af rfl<|Aa<|Ad<|Ak<|Aj rfl rfl<|?_
  exact ⟨M,false,rfl,(by clear M;grind)⟩
theorem I9 (M:Mem w0 G L w) {x:ItemD} {ma:Option Addr} {mc:Nat} (hI:(x.key < 18446744073709551616∧x.typ < 256∧x.text.length≤9223372036854775807)) (SM:Az D4 1 G (.slice ma x.marks.length mc) x.marks) {t:Int}:Calls Tryz.prog 14 #[.agg #[.int .u64 ((x.key:Nat):Int),.int .u8 ((x.typ:Nat):Int),.string (str x.text),.slice ma x.marks.length mc],.int .i64 t] w (Ci w0 G L fun v=>v=.int .i64 (Gy t x)):=by
 refine A0 (vs:=[_,_]) Tryz.func14 rfl (n:=29) rfl rfl<|Ab<|?_
 obtain ⟨hI1,hI2,hI3⟩:=hI
 refine Ac<|C1 M rfl rfl rfl<|?_;clear M;intro b1 w M
 refine Af rfl<|Aa<|Ad<|Ab<|Ac<|Ar (fun a F=>De (vs:=#[.pointer (some ⟨b1,0,none⟩)]) (by simp only [List.map_toArray,List.map_cons,List.map_nil,F.ev (x:=.tmp 2) rfl])) rfl<|Af rfl<|Aa<|Ad<|Ab<|Ac<|Ar (fun a F=>De (vs:=#[.pointer (some ⟨b1,0,none⟩)]) (by simp only [List.map_toArray,List.map_cons,List.map_nil,F.ev (x:=.tmp 2) rfl])) rfl<|Af rfl<|Aa<|Ad<|Ab<|Ab<|Ac<|A2 Bf.k rfl rfl<|Bi Ew M 0 rfl rfl rfl rfl<|Dy rfl rfl<|Ae rfl<|?_
 rcases bE (decide (((x.key:Nat):Int)=0)) with h2b | h3b
 ·skip
  have h2:=dT h2b
  refine g_f rfl h2b<|g_f rfl h2b<|g_f rfl h2b<|g_f rfl h2b<|g_f rfl h2b<|Bj rfl h2b rfl<|Ae rfl<|g_f rfl rfl<|g_f rfl rfl<|g_f rfl rfl<|Bj rfl rfl rfl<|Ae rfl<|g_f rfl rfl<|g_f rfl rfl<|g_f rfl rfl<|Bj rfl rfl rfl<|Aa<|Ad<|Bo rfl rfl<|Ab<|Ac<|Af rfl<|Aa<|Ad<|?_
  refine Ak<|Au<|Aj rfl rfl<|?_
  exact ⟨M.weaken (.cons _ (sR _)),by rw [Fo (by clear M;unfold ItemOk;grind)]⟩
 ·skip
  have h3:=dF h3b
  refine g_t rfl h3b<|A2 Bf.k rfl rfl<|g_t rfl h3b<|Bi Ev M 0 rfl rfl rfl rfl<|g_t rfl h3b<|Ar (fun a F=>D0 B7.k ⟨_,by rw [Dk Ev.k]⟩ (F.ev rfl) (Cu (by omega) (by omega))) rfl<|g_t rfl h3b<|Ae rfl<|g_t rfl h3b<|Kx rfl rfl<|Bh rfl h3b rfl<|Ae rfl<|?_
  rcases bE (decide (t≤((x.typ:Nat):Int))) with h4b | h5b
  ·skip
   have h4:=dT h4b
   refine g_f rfl h4b<|g_f rfl h4b<|g_f rfl h4b<|Bj rfl h4b rfl<|Ae rfl<|g_f rfl rfl<|g_f rfl rfl<|g_f rfl rfl<|Bj rfl rfl rfl<|Aa<|Ad<|Bo rfl rfl<|Ab<|Ac<|Af rfl<|Aa<|Ad<|Ak<|Au<|Aj rfl rfl<|?_
   exact ⟨M.weaken (.cons _ (sR _)),by rw [Fo (by clear M;unfold ItemOk;grind)]⟩
  ·skip
   have h5:=dF h5b
   refine g_t rfl h5b<|Ae rfl<|g_t rfl h5b<|?_
   change Mem w0 G (_::L) _ at M
   refine Z6 ent47 (caps:=[.pointer (some ⟨b1,0,none⟩)]) rfl rfl rfl (Afw (x:=x) M SM)<|?_;clear M;rintro _ w M ⟨b6,rfl,hb6⟩
   refine g_t rfl h5b<|C5 rfl<|Bh rfl h5b rfl<|Ae rfl<|?_
   rcases bE (!(b6)) with h7b | h8b
   ·skip
    have h7:=Ah h7b
    have h7c:(b6)=false:=(Ah h7b)
    refine g_f rfl (Al h7c)<|g_f rfl (Al h7c)<|g_f rfl (Al h7c)<|Bj rfl (Al h7c) rfl<|Aa<|Ad<|Bo rfl rfl<|Ab<|Ac<|Af rfl<|Aa<|Ad<|Ak<|Au<|Aj rfl rfl<|?_
    exact ⟨M.weaken (.cons _ (sR _)),by rw [Fo (by clear M;unfold ItemOk;grind)]⟩
   ·skip
    have h8:=Ai h8b
    have h8c:(b6)=true:=(Ai h8b)
    refine g_t rfl (Ag h8c)<|Ae rfl<|g_t rfl (Ag h8c)<|?_
    change Mem w0 G (_::L) _ at M
    refine Z6 ent50 (caps:=[.pointer (some ⟨b1,0,none⟩)]) rfl rfl rfl (Afv (x:=x) M SM)<|?_;clear M;rintro _ w M ⟨b9,rfl,hb9⟩
    refine g_t rfl (Ag h8c)<|C5 rfl<|Bh rfl (Ag h8c) rfl<|Aa<|Ad<|Ax rfl ?_ ?_
    ·intro h10b
     have h10:=Ah h10b
     have h10c:(b9)=false:=(Ah h10b)
     refine Ab<|Ac<|Af rfl<|Aa<|Ad<|Ak<|Au<|Aj rfl rfl<|?_
     exact ⟨M.weaken (.cons _ (sR _)),by rw [Fo (by clear M;unfold ItemOk;grind)]⟩
    ·intro h11b
     have h11:=Ai h11b
     have h11c:(b9)=true:=(Ai h11b)
     refine Aq<|Ad<|Ab<|Ac<|Af rfl<|Aa<|Ad<|Ak<|Aj rfl rfl<|?_
     exact ⟨M.weaken (.cons _ (sR _)),by rw [Dh (by first | (clear M;unfold ItemOk;grind) | exact ⟨by omega,by omega,by clear M;grind,by omega,Gn hA (by omega)⟩)]⟩
theorem Ji {P:Prop} {l:List (List UInt8)} {i:Nat} {ok:Int} {s:List UInt8} (h0:ok=0∨ok=1) (h:ok=1↔P∧∀ (m:Nat) (s:List UInt8),m < i→l[m]?=some s→Da s) (hs:l[i]?=some s) :
  (ok * (if Da s then (1:Int) else 0)=0∨ok * (if Da s then (1:Int) else 0)=1)∧(ok * (if Da s then (1:Int) else 0)=1↔P∧∀ (m:Nat) (s:List UInt8),m < i+1→l[m]?=some s→Da s):=by
 by_cases hn:Da s
 ·rw [if_pos hn,Int.mul_one]
  refine ⟨h0,h.trans ⟨fun ⟨h1,h2⟩=>⟨h1,E9 h2 hs hn⟩,fun ⟨h1,h2⟩=>⟨h1,fun m s hm=>h2 m s (by omega)⟩⟩⟩
 ·rw [if_neg hn,Int.mul_zero]
  exact ⟨Or.inl rfl,⟨fun h=>by omega,fun ⟨_,h2⟩=>absurd (h2 i s (by omega) hs) hn⟩⟩
theorem Py (M:Mem w0 G L w) {x:ItemD} {ma:Option Addr} {mc:Nat} (hI:(x.key < 18446744073709551616∧x.typ < 256∧x.text.length≤9223372036854775807)) (SM:Az D4 1 G (.slice ma x.marks.length mc) x.marks) {t:Int}:Calls Tryz.prog 57 #[.agg #[.int .u64 ((x.key:Nat):Int),.int .u8 ((x.typ:Nat):Int),.string (str x.text),.slice ma x.marks.length mc],.int .i64 t] w (Ci w0 G L fun v=>v=.int .i64 (Gy t x)):=by
 refine A0 (vs:=[_,_]) Tryz.func57 rfl (n:=43) rfl rfl<|Ab<|?_
 obtain ⟨hI1,hI2,hI3⟩:=hI
 have bSM:=SM.bound
 refine Ac<|C1 M rfl rfl rfl<|?_;clear M;intro b1 w M
 refine Af rfl<|Aa<|Ad<|Ab<|Ac<|A2 Bf.k rfl rfl<|Bi Bq M 0 rfl rfl rfl rfl<|Bw ent106 rfl rfl (Xl (s:=x.text) M (by omega))<|?_;clear M;rintro _ w M rfl
 refine Af rfl<|Aa<|Ad<|Ab<|Ab<|Ac<|A2 Bf.k rfl rfl<|Bi Ew M 0 rfl rfl rfl rfl<|Dy rfl rfl<|Ae rfl<|?_
 rcases bE (decide (((x.key:Nat):Int)=0)) with h2b | h8b
 ·skip
  have h2:=dT h2b
  refine g_f rfl h2b<|g_f rfl h2b<|g_f rfl h2b<|g_f rfl h2b<|g_f rfl h2b<|Bj rfl h2b rfl<|Ae rfl<|g_f rfl rfl<|g_f rfl rfl<|g_f rfl rfl<|g_f rfl rfl<|Bj rfl rfl rfl<|Aa<|Ad<|Bo rfl rfl<|Ac<|Af rfl<|Aa<|Ad<|Ab<|Ab<|Ac<|Af rfl<|Aa<|?_
  refine Ad<|A1<|fun a F=>?_
  refine B2 (fun m a' w'=>∃ (i:Nat),∃ (ok:Int),m=x.marks.length - i∧Fits 43 a' [(1,.int .i64 t),(2,.pointer (some ⟨b1,0,none⟩)),(5,.int .i64 ok),(6,.int .i64 ((i:Nat):Int))]∧Mem w0 G (.blk b1 [.int .u64 ((x.key:Nat):Int),.int .u8 ((x.typ:Nat):Int),.string (str x.text),.slice ma x.marks.length mc] 26::L) w'∧(i≤x.marks.length)∧(ok=0∨ok=1)∧(ok=1↔(x.key≠0∧(x.typ:Int) < t∧Str x.text∧x.marks.length≤8)∧∀ (m:Nat) (s:List UInt8),m < i→x.marks[m]?=some s→Da s)) _ ⟨0,0,rfl,F.to ⟨rfl,rfl,rfl,rfl,trivial⟩,M,Nat.zero_le _,(by first | omega | (split <;> omega)),⟨fun h_=>⟨(by clear F M;grind),fun m s hm=>by omega⟩,fun h_=>(by clear F M;grind)⟩⟩ ?_
  clear F M
  rintro m a w ⟨i,ok,rfl,F,M,hi,hok,hA⟩
  revert a
  refine Ab<|Ab<|Ac<|Ae rfl<|A2 Bf.k rfl rfl<|Bi Ca M 0 rfl rfl rfl rfl<|B8 Ca.k rfl<|C9 rfl rfl<|Aa<|Ad<|Ax rfl ?_ ?_
  ·intro h3b
   have h3:=dT h3b
   refine Aq<|Ad<|Ab<|A1<|Ac<|Ae rfl<|A2 Bf.k rfl rfl<|Bi Ca M 0 rfl rfl rfl rfl<|Ae rfl<|?_
   obtain ⟨Xe4,hXe4⟩:=Bc (xs:=x.marks) (i:=i) (by omega)
   obtain ⟨be4,oe4,_,Ie4,_,Ae4,⟨rfl,hsle4⟩⟩:=SM.at hXe4
   refine Ds Ca.k Bq Ie4 rfl rfl<|C2 Bq M Ae4 0 rfl rfl (by omega) rfl<|Bw Wq rfl rfl (Gd (s:=Xe4) M (by omega))<|?_;clear M;rintro _ w M rfl
   refine Ar (fun a F=>Nq (F.ev rfl) (F.ev rfl) (Cu (by (rcases hok with rfl | rfl <;> split <;> omega)) (by (rcases hok with rfl | rfl <;> split <;> omega)))) rfl<|Af rfl<|Aa<|C0<|Ad<|Ac<|Ae rfl<|B9 rfl rfl<|Af rfl<|Aa<|Ad<|fun a F=>?_
   exact ⟨_,by omega,i+1,ok * ((if Da Xe4 then (1:Int) else 0)),rfl,F.to ⟨rfl,rfl,rfl,rfl,trivial⟩,M,by omega,(Ji hok hA hXe4).1,(Ji hok hA hXe4).2⟩
  ·intro h5b
   have h5:=dF h5b
   refine B5<|B0<|B0<|Dr<|Ad<|Ab<|Ab<|Ac<|Ae rfl<|Dy rfl rfl<|Aa<|Ad<|Ax rfl ?_ ?_
   ·intro h6b
    have h6:=dT h6b
    refine Ab<|Ac<|Af rfl<|Aa<|Ad<|Ak<|Au<|Aj rfl rfl<|?_
    exact ⟨M.weaken (.cons _ (sR _)),by rw [Dh (by clear M;obtain ⟨h1_,h2_⟩:=hA.1 (by omega);exact ⟨h1_.1,h1_.2.1,h1_.2.2.1,h1_.2.2.2,Gn h2_ (by omega)⟩)]⟩
   ·intro h7b
    have h7:=dF h7b
    refine Aq<|Ad<|Ab<|Ac<|Af rfl<|Aa<|Ad<|Ak<|Aj rfl rfl<|?_
    exact ⟨M.weaken (.cons _ (sR _)),by rw [Fo (by clear M;intro h_;have:=hA.2 ⟨⟨h_.1,h_.2.1,h_.2.2.1,h_.2.2.2.1⟩,fun m s _ hs=>h_.2.2.2.2 s (List.mem_of_getElem? hs)⟩;omega)]⟩
 ·skip
  have h8:=dF h8b
  refine g_t rfl h8b<|Ae rfl<|g_t rfl h8b<|A2 Bf.k rfl rfl<|g_t rfl h8b<|Bi Ev M 0 rfl rfl rfl rfl<|g_t rfl h8b<|Ar (fun a F=>D0 B7.k ⟨_,by rw [Dk Ev.k]⟩ (F.ev rfl) (Cu (by omega) (by omega))) rfl<|g_t rfl h8b<|K4 rfl rfl<|Bh rfl h8b rfl<|Ae rfl<|?_
  rcases bE (decide (t≤((x.typ:Nat):Int))) with h9b | h15b
  ·skip
   have h9:=dT h9b
   refine g_f rfl h9b<|g_f rfl h9b<|g_f rfl h9b<|g_f rfl h9b<|Bj rfl h9b rfl<|Aa<|Ad<|Bo rfl rfl<|Ac<|Af rfl<|Aa<|Ad<|Ab<|Ab<|Ac<|Af rfl<|Aa<|Ad<|A1<|fun a F=>?_
   refine B2 (fun m a' w'=>∃ (i:Nat),∃ (ok:Int),m=x.marks.length - i∧Fits 43 a' [(1,.int .i64 t),(2,.pointer (some ⟨b1,0,none⟩)),(5,.int .i64 ok),(6,.int .i64 ((i:Nat):Int))]∧Mem w0 G (.blk b1 [.int .u64 ((x.key:Nat):Int),.int .u8 ((x.typ:Nat):Int),.string (str x.text),.slice ma x.marks.length mc] 26::L) w'∧(i≤x.marks.length)∧(ok=0∨ok=1)∧(ok=1↔(x.key≠0∧(x.typ:Int) < t∧Str x.text∧x.marks.length≤8)∧∀ (m:Nat) (s:List UInt8),m < i→x.marks[m]?=some s→Da s)) _ ⟨0,0,rfl,F.to ⟨rfl,rfl,rfl,rfl,trivial⟩,M,Nat.zero_le _,(by first | omega | (split <;> omega)),⟨fun h_=>⟨(by clear F M;grind),fun m s hm=>by omega⟩,fun h_=>(by clear F M;grind)⟩⟩ ?_
   clear F M
   rintro m a w ⟨i,ok,rfl,F,M,hi,hok,hA⟩
   revert a
   refine Ab<|Ab<|Ac<|Ae rfl<|A2 Bf.k rfl rfl<|Bi Ca M 0 rfl rfl rfl rfl<|B8 Ca.k rfl<|C9 rfl rfl<|Aa<|Ad<|Ax rfl ?_ ?_
   ·intro h10b
    have h10:=dT h10b
    refine Aq<|Ad<|Ab<|A1<|Ac<|Ae rfl<|A2 Bf.k rfl rfl<|Bi Ca M 0 rfl rfl rfl rfl<|Ae rfl<|?_
    obtain ⟨Xe11,hXe11⟩:=Bc (xs:=x.marks) (i:=i) (by omega)
    obtain ⟨be11,oe11,_,Ie11,_,Ae11,⟨rfl,hsle11⟩⟩:=SM.at hXe11
    refine Ds Ca.k Bq Ie11 rfl rfl<|C2 Bq M Ae11 0 rfl rfl (by omega) rfl<|Bw Wq rfl rfl (Gd (s:=Xe11) M (by omega))<|?_;clear M;rintro _ w M rfl
    refine Ar (fun a F=>Nq (F.ev rfl) (F.ev rfl) (Cu (by (rcases hok with rfl | rfl <;> split <;> omega)) (by (rcases hok with rfl | rfl <;> split <;> omega)))) rfl<|Af rfl<|Aa<|C0<|Ad<|Ac<|Ae rfl<|B9 rfl rfl<|Af rfl<|Aa<|Ad<|fun a F=>?_
    exact ⟨_,by omega,i+1,ok * ((if Da Xe11 then (1:Int) else 0)),rfl,F.to ⟨rfl,rfl,rfl,rfl,trivial⟩,M,by omega,(Ji hok hA hXe11).1,(Ji hok hA hXe11).2⟩
   ·intro h12b
    have h12:=dF h12b
    refine B5<|B0<|B0<|Dr<|Ad<|Ab<|Ab<|Ac<|Ae rfl<|Dy rfl rfl<|Aa<|Ad<|Ax rfl ?_ ?_
    ·intro h13b
     have h13:=dT h13b
     refine Ab<|Ac<|Af rfl<|Aa<|Ad<|Ak<|Au<|Aj rfl rfl<|?_
     exact ⟨M.weaken (.cons _ (sR _)),by rw [Dh (by clear M;obtain ⟨h1_,h2_⟩:=hA.1 (by omega);exact ⟨h1_.1,h1_.2.1,h1_.2.2.1,h1_.2.2.2,Gn h2_ (by omega)⟩)]⟩
    ·intro h14b
     have h14:=dF h14b
     refine Aq<|Ad<|Ab<|Ac<|Af rfl<|Aa<|Ad<|Ak<|Aj rfl rfl<|?_
     exact ⟨M.weaken (.cons _ (sR _)),by rw [Fo (by clear M;intro h_;have:=hA.2 ⟨⟨h_.1,h_.2.1,h_.2.2.1,h_.2.2.2.1⟩,fun m s _ hs=>h_.2.2.2.2 s (List.mem_of_getElem? hs)⟩;omega)]⟩
  ·skip
   have h15:=dF h15b
   refine g_t rfl h15b<|A2 Bf.k rfl rfl<|g_t rfl h15b<|Bi Ca M 0 rfl rfl rfl rfl<|g_t rfl h15b<|B8 Ca.k rfl<|g_t rfl h15b<|Df rfl rfl<|Bh rfl h15b rfl<|Aa<|Ad<|Ax rfl ?_ ?_
   ·intro h16b
    have h16:=dT h16b
    refine Ac<|Af rfl<|Aa<|Ad<|Ab<|Ab<|Ac<|Af rfl<|Aa<|Ad<|A1<|fun a F=>?_
    refine B2 (fun m a' w'=>∃ (i:Nat),∃ (ok:Int),m=x.marks.length - i∧Fits 43 a' [(1,.int .i64 t),(2,.pointer (some ⟨b1,0,none⟩)),(5,.int .i64 ok),(6,.int .i64 ((i:Nat):Int))]∧Mem w0 G (.blk b1 [.int .u64 ((x.key:Nat):Int),.int .u8 ((x.typ:Nat):Int),.string (str x.text),.slice ma x.marks.length mc] 26::L) w'∧(i≤x.marks.length)∧(ok=0∨ok=1)∧(ok=1↔(x.key≠0∧(x.typ:Int) < t∧Str x.text∧x.marks.length≤8)∧∀ (m:Nat) (s:List UInt8),m < i→x.marks[m]?=some s→Da s)) _ ⟨0,0,rfl,F.to ⟨rfl,rfl,rfl,rfl,trivial⟩,M,Nat.zero_le _,(by first | omega | (split <;> omega)),⟨fun h_=>⟨(by clear F M;grind),fun m s hm=>by omega⟩,fun h_=>(by clear F M;grind)⟩⟩ ?_
    clear F M
    rintro m a w ⟨i,ok,rfl,F,M,hi,hok,hA⟩
    revert a
    refine Ab<|Ab<|Ac<|Ae rfl<|A2 Bf.k rfl rfl<|Bi Ca M 0 rfl rfl rfl rfl<|B8 Ca.k rfl<|C9 rfl rfl<|Aa<|Ad<|Ax rfl ?_ ?_
    ·intro h17b
     have h17:=dT h17b
     refine Aq<|Ad<|Ab<|A1<|Ac<|Ae rfl<|A2 Bf.k rfl rfl<|Bi Ca M 0 rfl rfl rfl rfl<|Ae rfl<|?_
     obtain ⟨Xe18,hXe18⟩:=Bc (xs:=x.marks) (i:=i) (by omega)
     obtain ⟨be18,oe18,_,Ie18,_,Ae18,⟨rfl,hsle18⟩⟩:=SM.at hXe18
     refine Ds Ca.k Bq Ie18 rfl rfl<|C2 Bq M Ae18 0 rfl rfl (by omega) rfl<|Bw Wq rfl rfl (Gd (s:=Xe18) M (by omega))<|?_;clear M;rintro _ w M rfl
     refine Ar (fun a F=>Nq (F.ev rfl) (F.ev rfl) (Cu (by (rcases hok with rfl | rfl <;> split <;> omega)) (by (rcases hok with rfl | rfl <;> split <;> omega)))) rfl<|Af rfl<|Aa<|C0<|Ad<|Ac<|Ae rfl<|B9 rfl rfl<|Af rfl<|Aa<|Ad<|fun a F=>?_
     exact ⟨_,by omega,i+1,ok * ((if Da Xe18 then (1:Int) else 0)),rfl,F.to ⟨rfl,rfl,rfl,rfl,trivial⟩,M,by omega,(Ji hok hA hXe18).1,(Ji hok hA hXe18).2⟩
    ·intro h19b
     have h19:=dF h19b
     refine B5<|B0<|B0<|Dr<|Ad<|Ab<|Ab<|Ac<|Ae rfl<|Dy rfl rfl<|Aa<|Ad<|Ax rfl ?_ ?_
     ·intro h20b
      have h20:=dT h20b
      refine Ab<|Ac<|Af rfl<|Aa<|Ad<|Ak<|Au<|Aj rfl rfl<|?_
      exact ⟨M.weaken (.cons _ (sR _)),by rw [Dh (by clear M;obtain ⟨h1_,h2_⟩:=hA.1 (by omega);exact ⟨h1_.1,h1_.2.1,h1_.2.2.1,h1_.2.2.2,Gn h2_ (by omega)⟩)]⟩
     ·intro h21b
      have h21:=dF h21b
      refine Aq<|Ad<|Ab<|Ac<|Af rfl<|Aa<|Ad<|Ak<|Aj rfl rfl<|?_
      exact ⟨M.weaken (.cons _ (sR _)),by rw [Fo (by clear M;intro h_;have:=hA.2 ⟨⟨h_.1,h_.2.1,h_.2.2.1,h_.2.2.2.1⟩,fun m s _ hs=>h_.2.2.2.2 s (List.mem_of_getElem? hs)⟩;omega)]⟩
   ·intro h22b
    have h22:=dF h22b
    refine Aq<|Ad<|Ab<|Ab<|Ac<|Af rfl<|Aa<|Ad<|A1<|fun a F=>?_
    refine B2 (fun m a' w'=>∃ (i:Nat),∃ (ok:Int),m=x.marks.length - i∧Fits 43 a' [(1,.int .i64 t),(2,.pointer (some ⟨b1,0,none⟩)),(5,.int .i64 ok),(6,.int .i64 ((i:Nat):Int))]∧Mem w0 G (.blk b1 [.int .u64 ((x.key:Nat):Int),.int .u8 ((x.typ:Nat):Int),.string (str x.text),.slice ma x.marks.length mc] 26::L) w'∧(i≤x.marks.length)∧(ok=0∨ok=1)∧(ok=1↔(x.key≠0∧(x.typ:Int) < t∧Str x.text∧x.marks.length≤8)∧∀ (m:Nat) (s:List UInt8),m < i→x.marks[m]?=some s→Da s)) _ ⟨0,(if Str x.text then (1:Int) else 0),rfl,F.to ⟨rfl,rfl,rfl,rfl,trivial⟩,M,Nat.zero_le _,(by first | omega | (split <;> omega)),⟨fun h_=>⟨(by clear F M;grind),fun m s hm=>by omega⟩,fun h_=>(by clear F M;grind)⟩⟩ ?_
    clear F M
    rintro m a w ⟨i,ok,rfl,F,M,hi,hok,hA⟩
    revert a
    refine Ab<|Ab<|Ac<|Ae rfl<|A2 Bf.k rfl rfl<|Bi Ca M 0 rfl rfl rfl rfl<|B8 Ca.k rfl<|C9 rfl rfl<|Aa<|Ad<|Ax rfl ?_ ?_
    ·intro h23b
     have h23:=dT h23b
     refine Aq<|Ad<|Ab<|A1<|Ac<|Ae rfl<|A2 Bf.k rfl rfl<|Bi Ca M 0 rfl rfl rfl rfl<|Ae rfl<|?_
     obtain ⟨Xe24,hXe24⟩:=Bc (xs:=x.marks) (i:=i) (by omega)
     obtain ⟨be24,oe24,_,Ie24,_,Ae24,⟨rfl,hsle24⟩⟩:=SM.at hXe24
     refine Ds Ca.k Bq Ie24 rfl rfl<|C2 Bq M Ae24 0 rfl rfl (by omega) rfl<|Bw Wq rfl rfl (Gd (s:=Xe24) M (by omega))<|?_;clear M;rintro _ w M rfl
     refine Ar (fun a F=>Nq (F.ev rfl) (F.ev rfl) (Cu (by (rcases hok with rfl | rfl <;> split <;> omega)) (by (rcases hok with rfl | rfl <;> split <;> omega)))) rfl<|Af rfl<|Aa<|C0<|Ad<|Ac<|Ae rfl<|B9 rfl rfl<|Af rfl<|Aa<|Ad<|fun a F=>?_
     exact ⟨_,by omega,i+1,ok * ((if Da Xe24 then (1:Int) else 0)),rfl,F.to ⟨rfl,rfl,rfl,rfl,trivial⟩,M,by omega,(Ji hok hA hXe24).1,(Ji hok hA hXe24).2⟩
    ·intro h25b
     have h25:=dF h25b
     refine B5<|B0<|B0<|Dr<|Ad<|Ab<|Ab<|Ac<|Ae rfl<|Dy rfl rfl<|Aa<|Ad<|Ax rfl ?_ ?_
     ·intro h26b
      have h26:=dT h26b
      refine Ab<|Ac<|Af rfl<|Aa<|Ad<|Ak<|Au<|Aj rfl rfl<|?_
      exact ⟨M.weaken (.cons _ (sR _)),by rw [Dh (by clear M;obtain ⟨h1_,h2_⟩:=hA.1 (by omega);exact ⟨h1_.1,h1_.2.1,h1_.2.2.1,h1_.2.2.2,Gn h2_ (by omega)⟩)]⟩
     ·intro h27b
      have h27:=dF h27b
      refine Aq<|Ad<|Ab<|Ac<|Af rfl<|Aa<|Ad<|Ak<|Aj rfl rfl<|?_
      exact ⟨M.weaken (.cons _ (sR _)),by rw [Fo (by clear M;intro h_;have:=hA.2 ⟨⟨h_.1,h_.2.1,h_.2.2.1,h_.2.2.2.1⟩,fun m s _ hs=>h_.2.2.2.2 s (List.mem_of_getElem? hs)⟩;omega)]⟩
open Go Go.Y Go.Proofs
variable {w0 w:World} {G:A4} {L:List Res}
set_option linter.unusedSimpArgs false
set_option linter.unusedVariables false
theorem Aad (M:Mem w0 G L w) {x:ItemD} {max:Option Addr} {mcx:Nat} (hIx:(x.key < 18446744073709551616∧x.typ < 256∧x.text.length≤9223372036854775807)) (SMx:Az D4 1 G (.slice max x.marks.length mcx) x.marks) {y:ItemD} {may:Option Addr} {mcy:Nat} (hIy:(y.key < 18446744073709551616∧y.typ < 256∧y.text.length≤9223372036854775807)) (SMy:Az D4 1 G (.slice may y.marks.length mcy) y.marks):Calls Tryz.prog 46 #[.agg #[.int .u64 ((x.key:Nat):Int),.int .u8 ((x.typ:Nat):Int),.string (str x.text),.slice max x.marks.length mcx],.agg #[.int .u64 ((y.key:Nat):Int),.int .u8 ((y.typ:Nat):Int),.string (str y.text),.slice may y.marks.length mcy]] w (Ci w0 G L fun v=>v=.int .i64 (if x=y then (1:Int) else 0)):=by
 refine A0 (vs:=[_,_]) Tryz.func46 rfl (n:=52) rfl rfl<|Ab<|Ac<|C1 M rfl rfl rfl<|?_;clear M;intro b1 w M
 refine C1 M rfl rfl rfl<|?_;clear M;intro b2 w M
 refine Af rfl<|Aa<|Ad<|Ab<|Ab<|?_
 have bSM:=SMx.bound
 refine Ac<|A2 Bf.k rfl rfl<|Bi Ew M 1 rfl rfl rfl rfl<|A2 Bf.k rfl rfl<|Bi Ew M 0 rfl rfl rfl rfl<|D9 rfl rfl<|Ae rfl<|?_
 rcases bE (!(decide (((x.key:Nat):Int)=((y.key:Nat):Int)))) with h3b | h4b
 ·skip
  have h3:=dF (Ah h3b)
  have h3c:(decide (((x.key:Nat):Int)=((y.key:Nat):Int)))=false:=(Ah h3b)
  refine g_f rfl (Al h3c)<|g_f rfl (Al h3c)<|g_f rfl (Al h3c)<|g_f rfl (Al h3c)<|g_f rfl (Al h3c)<|Bj rfl (Al h3c) rfl<|Ae rfl<|g_f rfl rfl<|g_f rfl rfl<|g_f rfl rfl<|g_f rfl rfl<|g_f rfl rfl<|Bj rfl rfl rfl<|Ae rfl<|g_f rfl rfl<|g_f rfl rfl<|g_f rfl rfl<|g_f rfl rfl<|g_f rfl rfl<|g_f rfl rfl<|g_f rfl rfl<|Bj rfl rfl rfl<|Aa<|Ad<|?_
  refine Bo rfl rfl<|Ab<|Ac<|Af rfl<|Aa<|Ad<|Ak<|Au<|Aj rfl rfl<|?_
  exact ⟨M.weaken (.cons _ (.cons _ (sR _))),by rw [if_neg (fun h_=>by subst h_;clear M;grind)]⟩
 ·skip
  have h4:=dT (Ai h4b)
  have h4c:(decide (((x.key:Nat):Int)=((y.key:Nat):Int)))=true:=(Ai h4b)
  refine g_t rfl (Ag h4c)<|A2 Bf.k rfl rfl<|g_t rfl (Ag h4c)<|Bi Ev M 1 rfl rfl rfl rfl<|g_t rfl (Ag h4c)<|A2 Bf.k rfl rfl<|g_t rfl (Ag h4c)<|Bi Ev M 0 rfl rfl rfl rfl<|g_t rfl (Ag h4c)<|D9 rfl rfl<|Bh rfl (Ag h4c) rfl<|Ae rfl<|?_
  rcases bE (!(decide (((x.typ:Nat):Int)=((y.typ:Nat):Int)))) with h5b | h6b
  ·skip
   have h5:=dF (Ah h5b)
   have h5c:(decide (((x.typ:Nat):Int)=((y.typ:Nat):Int)))=false:=(Ah h5b)
   refine g_f rfl (Al h5c)<|g_f rfl (Al h5c)<|g_f rfl (Al h5c)<|g_f rfl (Al h5c)<|g_f rfl (Al h5c)<|Bj rfl (Al h5c) rfl<|Ae rfl<|g_f rfl rfl<|g_f rfl rfl<|g_f rfl rfl<|g_f rfl rfl<|g_f rfl rfl<|g_f rfl rfl<|g_f rfl rfl<|Bj rfl rfl rfl<|Aa<|Ad<|Bo rfl rfl<|Ab<|Ac<|Af rfl<|Aa<|Ad<|Ak<|?_
   refine Au<|Aj rfl rfl<|?_
   exact ⟨M.weaken (.cons _ (.cons _ (sR _))),by rw [if_neg (fun h_=>by subst h_;clear M;grind)]⟩
  ·skip
   have h6:=dT (Ai h6b)
   have h6c:(decide (((x.typ:Nat):Int)=((y.typ:Nat):Int)))=true:=(Ai h6b)
   refine g_t rfl (Ag h6c)<|A2 Bf.k rfl rfl<|g_t rfl (Ag h6c)<|Bi Bq M 1 rfl rfl rfl rfl<|g_t rfl (Ag h6c)<|A2 Bf.k rfl rfl<|g_t rfl (Ag h6c)<|Bi Bq M 0 rfl rfl rfl rfl<|g_t rfl (Ag h6c)<|Jz rfl rfl<|Bh rfl (Ag h6c) rfl<|Ae rfl<|?_
   rcases bE (!(decide (x.text=y.text))) with h7b | h8b
   ·skip
    have h7:=dF (Ah h7b)
    have h7c:(decide (x.text=y.text))=false:=(Ah h7b)
    refine g_f rfl (Al h7c)<|g_f rfl (Al h7c)<|g_f rfl (Al h7c)<|g_f rfl (Al h7c)<|g_f rfl (Al h7c)<|g_f rfl (Al h7c)<|g_f rfl (Al h7c)<|Bj rfl (Al h7c) rfl<|Aa<|Ad<|Bo rfl rfl<|Ab<|Ac<|Af rfl<|Aa<|Ad<|Ak<|Au<|Aj rfl rfl<|?_
    exact ⟨M.weaken (.cons _ (.cons _ (sR _))),by rw [if_neg (fun h_=>by subst h_;clear M;grind)]⟩
   ·skip
    have h8:=dT (Ai h8b)
    have h8c:(decide (x.text=y.text))=true:=(Ai h8b)
    refine g_t rfl (Ag h8c)<|A2 Bf.k rfl rfl<|g_t rfl (Ag h8c)<|Bi Ca M 1 rfl rfl rfl rfl<|g_t rfl (Ag h8c)<|B8 Ca.k rfl<|g_t rfl (Ag h8c)<|A2 Bf.k rfl rfl<|g_t rfl (Ag h8c)<|Bi Ca M 0 rfl rfl rfl rfl<|g_t rfl (Ag h8c)<|B8 Ca.k rfl<|g_t rfl (Ag h8c)<|D9 rfl rfl<|Bh rfl (Ag h8c) rfl<|Aa<|Ad<|Ax rfl ?_ ?_
    ·intro h9b
     have h9:=dF (Ah h9b)
     have h9c:(decide (((x.marks.length:Nat):Int)=((y.marks.length:Nat):Int)))=false:=(Ah h9b)
     refine Ab<|Ac<|Af rfl<|Aa<|Ad<|Ak<|Au<|Aj rfl rfl<|?_
     exact ⟨M.weaken (.cons _ (.cons _ (sR _))),by rw [if_neg (fun h_=>by subst h_;clear M;grind)]⟩
    ·intro h10b
     have h10:=dT (Ai h10b)
     have h10c:(decide (((x.marks.length:Nat):Int)=((y.marks.length:Nat):Int)))=true:=(Ai h10b)
     refine Aq<|Ad<|Ab<|Ab<|Ac<|Af rfl<|Aa<|Ad<|A1<|fun a F=>B2 (fun m a' w'=>∃ (i:Nat),m=x.marks.length - i∧Fits 52 a' [(2,.pointer (some ⟨b1,0,none⟩)),(3,.pointer (some ⟨b2,0,none⟩)),(5,.int .i64 ((i:Nat):Int))]∧Mem w0 G (.blk b2 [.int .u64 ((y.key:Nat):Int),.int .u8 ((y.typ:Nat):Int),.string (str y.text),.slice may y.marks.length mcy] 26::.blk b1 [.int .u64 ((x.key:Nat):Int),.int .u8 ((x.typ:Nat):Int),.string (str x.text),.slice max x.marks.length mcx] 26::L) w'∧(i≤x.marks.length)∧(∀ m,m < i→x.marks[m]?=y.marks[m]?)) _ ⟨0,rfl,F.to ⟨rfl,rfl,rfl,trivial⟩,M,Nat.zero_le _,fun m h=>by omega⟩ ?_
     clear F M
     rintro m a w ⟨i,rfl,F,M,hi,hA⟩
     revert a
     refine Ab<|Ab<|Ac<|Ae rfl<|A2 Bf.k rfl rfl<|Bi Ca M 1 rfl rfl rfl rfl<|B8 Ca.k rfl<|C9 rfl rfl<|Aa<|Ad<|Ax rfl ?_ ?_
     ·intro h11b
      have h11:=dT h11b
      refine Aq<|Ad<|Ab<|A1<|Ab<|fun a F=>F4 [(true,0),(true,1),(true,2),(true,3),(true,4),(true,5),(true,6),(true,7),(true,8),(true,9),(true,10)] (Keep G [.blk b2 [.int .u64 ((y.key:Nat):Int),.int .u8 ((y.typ:Nat):Int),.string (str y.text),.slice may y.marks.length mcy] 26,.blk b1 [.int .u64 ((x.key:Nat):Int),.int .u8 ((x.typ:Nat):Int),.string (str x.text),.slice max x.marks.length mcx] 26]) rfl (by kernel_rfl) (fun c a d v w h=>by cases d <;> exact h) ((M.drew _).keep (Gle.refl _) (by simp)) ?_
      replace M:=M.drew (w.drawn+1)
      revert a
      refine l_r (fun a F w M=>Cm Bf.k rfl F rfl) rfl<|l_r (fun a F w M=>Ap (agf Ca rfl) (F.ev rfl) (M.cellL (k:=1) rfl rfl)) rfl<|l_r (fun a F w M=>Cg F rfl) rfl<|?_
      obtain ⟨Xe12,hXe12⟩:=Bc (xs:=x.marks) (i:=i) (by omega)
      obtain ⟨be12,oe12,_,Ie12,_,Ae12,⟨rfl,hsle12⟩⟩:=SMx.at hXe12
      refine l_r (fun a F w M=>Ce Ca.k Bq (F.ev rfl) (F.ev rfl) (by omega) Ie12) rfl<|l_r (fun a F w M=>Ap (agf Bq rfl) (F.ev rfl) (M.cellA Ae12 0 (by omega) rfl)) rfl<|l_r (fun a F w M=>Cm Bf.k rfl F rfl) rfl<|l_r (fun a F w M=>Ap (agf Ca rfl) (F.ev rfl) (M.cellL (k:=0) rfl rfl)) rfl<|l_r (fun a F w M=>Cg F rfl) rfl<|?_
      obtain ⟨Xe13,hXe13⟩:=Bc (xs:=y.marks) (i:=i) (by omega)
      obtain ⟨be13,oe13,_,Ie13,_,Ae13,⟨rfl,hsle13⟩⟩:=SMy.at hXe13
      refine l_r (fun a F w M=>Ce Ca.k Bq (F.ev rfl) (F.ev rfl) (by omega) Ie13) rfl<|l_r (fun a F w M=>Ap (agf Bq rfl) (F.ev rfl) (M.cellA Ae13 0 (by omega) rfl)) rfl<|l_r (fun a F w M=>I0 (F.ev rfl) (F.ev rfl)) rfl<|Hl<|?_
      generalize ({ w with drawn:=w.drawn+1 }:World)=w at M ⊢
      refine Ad<|Ax rfl ?_ ?_
      ·intro h14b
       have h14:=dF (Ah h14b)
       have h14c:(decide (Xe12=Xe13))=false:=(Ah h14b)
       refine Ab<|Ac<|Af rfl<|Aa<|Ad<|Ak<|Bk<|Au<|Au<|Bk<|Au<|Aj rfl rfl<|?_
       exact ⟨M.weaken (.cons _ (.cons _ (sR _))),by rw [if_neg (fun h_=>absurd (congrArg ItemD.marks h_) (Ow hXe12 hXe13 (by assumption)))]⟩
      ·intro h15b
       have h15:=dT (Ai h15b)
       have h15c:(decide (Xe12=Xe13))=true:=(Ai h15b)
       refine Aq<|C0<|Ad<|Ac<|Ae rfl<|B9 rfl rfl<|Af rfl<|Aa<|Ad<|fun a F=>?_
       exact ⟨_,by omega,i+1,rfl,F.to ⟨rfl,rfl,rfl,trivial⟩,M,by omega,Wn hA hXe12 hXe13 (by assumption)⟩
     ·intro h16b
      have h16:=dF h16b
      refine B5<|B0<|B0<|Dr<|Ad<|Ab<|Ac<|Af rfl<|Aa<|Ad<|Ak<|Aj rfl rfl<|?_
      exact ⟨M.weaken (.cons _ (.cons _ (sR _))),by rw [if_pos (Yr (by omega) (by omega) (by assumption) (Abc hA (by omega) (by omega)))]⟩
theorem Ti (M:Mem w0 G L w) {a1:Option Addr} {c1:Nat} {xs:List ItemD} (S:Az Co 4 G (.slice a1 xs.length c1) xs) {a2:Option Addr} {c2:Nat} {ys:List ItemD} (T:Az Co 4 G (.slice a2 ys.length c2) ys):Calls Tryz.prog 13 #[.slice a1 xs.length c1,.slice a2 ys.length c2] w (Ci w0 G L fun v=>v=.int .i64 (if xs=ys then (1:Int) else 0)):=by
 have bS:=S.bound
 have bT:=T.bound
 refine A0 (vs:=[_,_]) Tryz.func13 rfl (n:=27) rfl rfl<|Ab<|Ac<|Af rfl<|Aa<|Ad<|Ab<|Ab<|Ac<|Ae rfl<|B8 Bp.k rfl<|Ae rfl<|B8 Bp.k rfl<|D9 rfl rfl<|Aa<|Ad<|Ax rfl ?_ ?_
 ·intro h1b
  have h1:=dF (Ah h1b)
  refine Ab<|Ac<|Af rfl<|Aa<|Ad<|Ak<|Au<|Aj rfl rfl<|?_
  exact ⟨M,by rw [if_neg (fun h_=>absurd (congrArg List.length h_) (by omega))]⟩
 ·intro h2b
  have h2:=dT (Ai h2b)
  refine Aq<|Ad<|Ab<|Ab<|Ac<|Af rfl<|Aa<|Ad<|A1<|fun a F=>B2 (fun m a' w'=>∃ (i:Nat),m=xs.length - i∧Fits 27 a' [(0,.slice a1 xs.length c1),(1,.slice a2 ys.length c2),(5,.int .i64 ((i:Nat):Int))]∧Mem w0 G (L) w'∧(i≤xs.length)∧(∀ m,m < i→xs[m]?=ys[m]?)) _ ⟨0,rfl,F.to ⟨rfl,rfl,rfl,trivial⟩,M,Nat.zero_le _,fun m h=>by omega⟩ ?_
  clear F M
  rintro m a w ⟨i,rfl,F,M,hi,hA⟩
  revert a
  refine Ab<|Ab<|Ac<|Ae rfl<|Ae rfl<|B8 Bp.k rfl<|C9 rfl rfl<|Aa<|Ad<|Ax rfl ?_ ?_
  ·intro h3b
   have h3:=dT h3b
   refine Aq<|Ad<|Ab<|A1<|Ab<|fun a F=>F4 [(true,0),(true,1),(true,2),(true,3),(true,4),(true,5),(true,6),(true,7),(false,8),(true,9)] (Keep G []) rfl (by kernel_rfl) (fun c a d v w h=>by cases d <;> exact h) ((M.drew _).keep (Gle.refl _) (by simp)) ?_
   replace M:=M.drew (w.drawn+1)
   revert a
   refine l_r (fun a F w M=>Cg F rfl) rfl<|l_r (fun a F w M=>Cg F rfl) rfl<|?_
   obtain ⟨Xe4,hXe4⟩:=Bc (xs:=xs) (i:=i) (by omega)
   obtain ⟨be4,oe4,_,Ie4,_,Ae4,hTe4⟩:=S.at hXe4
   obtain ⟨mae4,mce4,rfl,hke4,hte4,hxe4,hne4,SMe4⟩:=hTe4
   have hIe4:(Xe4.key < 18446744073709551616∧Xe4.typ < 256∧Xe4.text.length≤9223372036854775807):=⟨hke4,hte4,hxe4⟩
   refine l_r (fun a F w M=>Ce Bp.k Bf (F.ev rfl) (F.ev rfl) (by omega) Ie4) rfl<|l_r (fun a F w M=>Ao Bf rfl (F.ev rfl) (cs:=[.int .u64 ((Xe4.key:Nat):Int),.int .u8 ((Xe4.typ:Nat):Int),.string (str Xe4.text),.slice mae4 Xe4.marks.length mce4]) rfl (M.cellsA Ae4 0 (by omega) rfl)) rfl<|l_r (fun a F w M=>Cg F rfl) rfl<|l_r (fun a F w M=>Cg F rfl) rfl<|?_
   obtain ⟨Xe5,hXe5⟩:=Bc (xs:=ys) (i:=i) (by omega)
   obtain ⟨be5,oe5,_,Ie5,_,Ae5,hTe5⟩:=T.at hXe5
   obtain ⟨mae5,mce5,rfl,hke5,hte5,hxe5,hne5,SMe5⟩:=hTe5
   have hIe5:(Xe5.key < 18446744073709551616∧Xe5.typ < 256∧Xe5.text.length≤9223372036854775807):=⟨hke5,hte5,hxe5⟩
   refine l_r (fun a F w M=>Ce Bp.k Bf (F.ev rfl) (F.ev rfl) (by omega) Ie5) rfl<|l_r (fun a F w M=>Ao Bf rfl (F.ev rfl) (cs:=[.int .u64 ((Xe5.key:Nat):Int),.int .u8 ((Xe5.typ:Nat):Int),.string (str Xe5.text),.slice mae5 Xe5.marks.length mce5]) rfl (M.cellsA Ae5 0 (by omega) rfl)) rfl<|l_a rfl<|Bw ent46 rfl rfl (Aad (x:=Xe4) (y:=Xe5) M hIe4 SMe4 hIe5 SMe5)<|?_;clear M;rintro _ w M rfl
   refine Aa<|eK (C':=Keep G []) (M.keep (Gle.refl _) (by simp)) (fun w h=>h.mono (Gle.refl _) (by simp))<|l_r (fun a F w M=>Lu (F.ev rfl) (F.ev rfl)) rfl<|Hl<|Ad<|Ax rfl ?_ ?_
   ·intro h6b
    have h6:=dT h6b
    refine Ab<|Ac<|Af rfl<|Aa<|Ad<|Ak<|Bk<|Au<|Au<|Bk<|Au<|Aj rfl rfl<|?_
    exact ⟨M,by rw [if_neg (Ow hXe4 hXe5 (fun h_=>by rw [if_pos h_] at *;omega))]⟩
   ·intro h7b
    have h7:=dF h7b
    refine Aq<|C0<|Ad<|Ac<|Ae rfl<|B9 rfl rfl<|Af rfl<|Aa<|Ad<|fun a F=>?_
    exact ⟨_,by omega,i+1,rfl,F.to ⟨rfl,rfl,rfl,trivial⟩,M,by omega,Wn hA hXe4 hXe5 (Classical.byContradiction fun h_=>by rw [if_neg h_] at *;omega)⟩
  ·intro h8b
   have h8:=dF h8b
   refine B5<|B0<|B0<|Dr<|Ad<|Ab<|Ac<|Af rfl<|Aa<|Ad<|Ak<|Aj rfl rfl<|?_
   exact ⟨M,by rw [if_pos (Abc hA (by omega) (by omega))]⟩
open Go Go.Y Go.Proofs
set_option linter.unusedSimpArgs false
set_option linter.unusedVariables false
theorem Tq {w0 w:World} {G:A4} {L:List Res} {b n c:Nat} {ad:Option Addr} (M:Mem w0 G (.blk b [.pointer none,.slice ad n c] 101::L) w) :
  Calls Tryz.prog 96 #[.pointer (some ⟨b,0,none⟩)] w (Ci w0 G (.blk b [.pointer (some ⟨b,0,none⟩),.slice ad n c] 101::L) fun v=>v=.tuple #[]):=by
 refine A0 (vs:=[_]) Tryz.func96 rfl (n:=20) rfl rfl<|Ab<|Ac<|Ae rfl<|Em rfl<|A2 Gr.k rfl rfl<|Bi Nk M 0 rfl rfl rfl rfl<|Ar (fun a F=>T4 Nk.k (F.ev rfl) (F.ev rfl)) rfl<|Aa<|Ad<|Bo rfl rfl<|Ac<|Ae rfl<|Ae rfl<|Ar (fun a F=>Vq M (k:=0) rfl (by simp) Nk.k (by kernel_rfl) Gr (by decide) (F.ev rfl)) rfl<|Ar (fun a F=>run_noEscape Tryz.func142 (by kernel_rfl) (by kernel_rfl) (by kernel_rfl) (by kernel_rfl) (F.ev rfl) (F.ev (x:=.func 142) rfl)) rfl<|Ar (fun a F=>Q7 M (k:=0) rfl (by kernel_rfl) Nk.k Gr (by kernel_rfl) (F.ev rfl)) rfl<|Em rfl<|A2 Gr.k rfl rfl<|Fp Nk M 0 rfl rfl rfl rfl rfl rfl<|?_;clear M;intro w M
 refine Aa<|fun a F=>Aje F rfl ?_
 exact ⟨M,rfl⟩
theorem Tp {w0 w:World} {G:A4} {L:List Res} {b n c:Nat} {ad:Option Addr} (M:Mem w0 G (.blk b [.pointer (some ⟨b,0,none⟩),.slice ad n c] 101::L) w) :
  Calls Tryz.prog 96 #[.pointer (some ⟨b,0,none⟩)] w (Ci w0 G (.blk b [.pointer (some ⟨b,0,none⟩),.slice ad n c] 101::L) fun v=>v=.tuple #[]):=by
 refine A0 (vs:=[_]) Tryz.func96 rfl (n:=20) rfl rfl<|Ab<|Ac<|Ae rfl<|Em rfl<|A2 Gr.k rfl rfl<|Bi Nk M 0 rfl rfl rfl rfl<|Ar (fun a F=>T4 Nk.k (F.ev rfl) (F.ev rfl)) rfl<|Aa<|Ad<|El rfl rfl<|Ab<|Ac<|Ae rfl<|Em rfl<|A2 Gr.k rfl rfl<|Bi Nk M 0 rfl rfl rfl rfl<|Ae rfl<|Ar (fun a F=>Q5 Nk.k Gr (F.ev rfl) (F.ev rfl)) rfl<|Aa<|Ad<|El rfl rfl<|Aq<|fun a F=>Aje F rfl ?_
 exact ⟨M,rfl⟩
theorem Sv {w0 w:World} {G:A4} {L:List Res} {b n c:Nat} {ad:Option Addr} {p:Value} (hp:p=.pointer none∨p=.pointer (some ⟨b,0,none⟩)) (M:Mem w0 G (.blk b [p,.slice ad n c] 101::L) w) :
  Calls Tryz.prog 96 #[.pointer (some ⟨b,0,none⟩)] w (Ci w0 G (.blk b [.pointer (some ⟨b,0,none⟩),.slice ad n c] 101::L) fun v=>v=.tuple #[]):=by
 rcases hp with rfl | rfl
 ·exact Tq M
 ·exact Tp M
theorem Lp {w0 w:World} {G:A4} {L:List Res} {b n c:Nat} {ad:Option Addr} {l:List UInt8} {p:Value} {s:List UInt8} (hp:p=.pointer none∨p=.pointer (some ⟨b,0,none⟩)) (M:Mem w0 G (.blk b [p,.slice ad n c] 101::.row (.slice ad n c) n (bc l) 5 1::L) w) (hn:n=l.length) (hnil:l=[]→ad=none) (hlen:l.length+s.length≤140737488355328) :
  Calls Tryz.prog 41 #[.pointer (some ⟨b,0,none⟩),.string (str s)] w (Jr w0 G fun L' v=>v=.tuple #[.int .i64 (s.length:Nat),.nilIface]∧∃ a' n' c',L' = (.blk b [.pointer (some ⟨b,0,none⟩),.slice a' n' c'] 101::.row (.slice a' n' c') n' (bc (l++s)) 5 1::L)∧n' = (l++s).length∧(l++s=[]→a' = none)):=by
 have hrow:ad.isNone=true→ad=none∧n=0∧c=0∧_:=fun h=>M.row_none (k:=1) rfl h
 refine A0 (vs:=[_,_]) Tryz.func41 rfl (n:=19) rfl rfl<|Ab<|Ac<|Af rfl<|Af rfl<|Aa<|Ad<|Ab<|Ac<|Ae rfl<|?_
 change Mem w0 G (_::_::L) _ at M
 refine Bw ent96 rfl rfl (Sv hp M)<|?_;clear M;rintro _ w M rfl
 refine Aa<|Ad<|Ab<|Ac<|Ae rfl<|Ae rfl<|Em rfl<|A2 Gr.k rfl rfl<|Bi Jv M 0 rfl rfl rfl rfl<|Ae rfl<|fun a F=>?_
 refine Vy F M (k:=1) rfl Jv.k Bq.k Ev rfl rfl rfl rfl rfl (by omega) rfl ?_;clear F M a;intro v1 w a M hwv1 F
 obtain ⟨av1,cv1,rfl,hlev1,hcmv1,hlv1⟩:=M.row_shape (k:=1) rfl
 rw [← Age] at M
 revert a
 refine Em rfl<|A2 Gr.k rfl rfl<|Fp Jv M 0 rfl rfl rfl rfl rfl rfl<|?_;clear M;intro w M
 refine Aa<|Ad<|Ab<|Ac<|Ae rfl<|Ar (fun a F=>Cr Bq.k (F.ev rfl)) rfl<|Af rfl<|Af rfl<|Aa<|Ad<|Ak<|Gs rfl rfl rfl<|?_
 replace M:=M.perm (Am _ 1 _ rfl)
 replace M:=M.perm (Am _ 1 _ rfl)
 change Mem w0 G (.blk b [.pointer (some ⟨b,0,none⟩),.slice av1 (n+(s).length) (cv1)] 101::_::L) _ at M
 exact ⟨_,M,rfl,_,_,_,rfl,by rw [List.length_append,hn],fun h=>by obtain ⟨h1,h2⟩:=List.append_eq_nil_iff.1 h;have h3:=hnil h1;subst h3;obtain ⟨_,h4,h5,_⟩:=hrow rfl;subst h4 h5;have h6:=hwv1.2 ⟨rfl,h2⟩;simp only [Value.slice.injEq] at h6;exact h6.1⟩
theorem Agc {w0 w:World} {G:A4} {L:List Res} {b c gb:Nat} {p:Value} {l:List UInt8} (M:Mem w0 G (.blk b [p,.slice none 0 0] 101::.row (.slice none 0 0) 0 (bc []) 5 1::L) w) :
  Calls Tryz.prog 43 #[.pointer (some ⟨b,0,none⟩)] w (Ci w0 G L fun v=>v=.string (str [])):=by
 refine A0 (vs:=[_]) Tryz.func43 rfl (n:=14) rfl rfl<|Ab<|Ac<|Af rfl<|Aa<|Ad<|Ab<|fun a F=>F4 [(true,0),(true,1),(true,2),(true,3),(true,5),(true,6),(true,7),(true,8),(true,9),(false,4),(false,10),(true,11)] (Keep G [.blk b [p,.slice none 0 0] 101]) rfl (by kernel_rfl) (fun c a d v w h=>by cases d <;> exact h) ((M.drew _).keep (Gle.refl _) (by simp)) ?_
 replace M:=M.drew (w.drawn+1)
 revert a
 refine l_r (fun a F w M=>Cg F rfl) rfl<|l_r (fun a F w M=>Dz (F.ev rfl)) rfl<|l_r (fun a F w M=>Cm Gr.k rfl F rfl) rfl<|l_r (fun a F w M=>Ap (agf Jv rfl) (F.ev rfl) (M.cellL (k:=0) rfl rfl)) rfl<|l_r (fun a F w M=>Cg F rfl) rfl<|l_r (fun a F w M=>Dz (F.ev rfl)) rfl<|l_r (fun a F w M=>Cm Gr.k rfl F rfl) rfl<|l_r (fun a F w M=>Ap (agf Jv rfl) (F.ev rfl) (M.cellL (k:=0) rfl rfl)) rfl<|l_r (fun a F w M=>Dm Jv.k (F.ev rfl)) rfl<|l_a rfl<|Ar (fun a F=>Q3 (F.ev rfl)) rfl<|Aa<|eK (C':=Keep G [.blk b [p,.slice none 0 0] 101]) (M.keep (Gle.refl _) (by simp)) (fun w h=>h.mono (Gle.refl _) (by simp))<|l_a rfl<|Ar (fun a F=>Q0 (F.ev rfl) (F.ev rfl)) rfl<|Aa<|eK (C':=Keep G [.blk b [p,.slice none 0 0] 101]) (M.keep (Gle.refl _) (by simp)) (fun w h=>h.mono (Gle.refl _) (by simp))<|l_r (fun a F w M=>Hg F rfl) rfl<|Hl<|Ad<|Ak<|Aj rfl rfl<|?_
 exact ⟨M.weaken (.cons _ (.cons _ (sR _))),rfl⟩
theorem Agb {w0 w:World} {G:A4} {L:List Res} {b c gb:Nat} {p:Value} {l:List UInt8} (M:Mem w0 G (.blk b [p,.slice (some ⟨gb,0,none⟩) (l.length) c] 101::.row (.slice (some ⟨gb,0,none⟩) (l.length) c) (l.length) (bc l) 5 1::L) w) (h0:l≠[]) (hc:l.length≤c) :
  Calls Tryz.prog 43 #[.pointer (some ⟨b,0,none⟩)] w (Ci w0 G L fun v=>v=.string (str l)):=by
 have h0':0 < l.length:=List.length_pos_iff.2 h0
 refine A0 (vs:=[_]) Tryz.func43 rfl (n:=14) rfl rfl<|Ab<|Ac<|Af rfl<|Aa<|Ad<|Ab<|fun a F=>F4 [(true,0),(true,1),(true,2),(true,3),(true,5),(true,6),(true,7),(true,8),(true,9),(false,4),(false,10),(true,11)] (Keep G [.blk b [p,.slice (some ⟨gb,0,none⟩) (l.length) (c)] 101]) rfl (by kernel_rfl) (fun c a d v w h=>by cases d <;> exact h) ((M.drew _).keep (Gle.refl _) (by simp)) ?_
 replace M:=M.drew (w.drawn+1)
 revert a
 refine l_r (fun a F w M=>Cg F rfl) rfl<|l_r (fun a F w M=>Dz (F.ev rfl)) rfl<|l_r (fun a F w M=>Cm Gr.k rfl F rfl) rfl<|l_r (fun a F w M=>Ap (agf Jv rfl) (F.ev rfl) (M.cellL (k:=0) rfl rfl)) rfl<|l_r (fun a F w M=>Cg F rfl) rfl<|l_r (fun a F w M=>Dz (F.ev rfl)) rfl<|l_r (fun a F w M=>Cm Gr.k rfl F rfl) rfl<|l_r (fun a F w M=>Ap (agf Jv rfl) (F.ev rfl) (M.cellL (k:=0) rfl rfl)) rfl<|l_r (fun a F w M=>Dm Jv.k (F.ev rfl)) rfl<|l_a rfl<|Ar (fun a F=>Ta (F.ev rfl) (by omega)) rfl<|Aa<|eK (C':=Keep G [.blk b [p,.slice (some ⟨gb,0,none⟩) (l.length) (c)] 101]) (M.keep (Gle.refl _) (by simp)) (fun w h=>h.mono (Gle.refl _) (by simp))<|l_a rfl<|fun a F=>?_
 refine Vw F M (k:=1) rfl tok174.k Ev rfl h0 rfl rfl rfl ?_;clear F M a;intro w a M F
 revert a
 refine Aa<|eK (C':=Keep G [.blk b [p,.slice (some ⟨gb,0,none⟩) (l.length) (c)] 101]) (M.keep (Gle.refl _) (by simp)) (fun w h=>h.mono (Gle.refl _) (by simp))<|l_r (fun a F w M=>Hg F rfl) rfl<|Hl<|Ad<|Ak<|Aj rfl rfl<|?_
 exact ⟨M.weaken (.cons _ (sR _)),rfl⟩
theorem Va {w0 w:World} {G:A4} {L:List Res} {b n c:Nat} {ad:Option Addr} {l:List UInt8} {p:Value} (M:Mem w0 G (.blk b [p,.slice ad n c] 101::.row (.slice ad n c) n (bc l) 5 1::L) w) (hn:n=l.length) (hnil:l=[]→ad=none) :
  Calls Tryz.prog 43 #[.pointer (some ⟨b,0,none⟩)] w (Ci w0 G L fun v=>v=.string (str l)):=by
 subst hn
 by_cases h0:l=[]
 ·have h1:=hnil h0
  subst h1 h0
  obtain ⟨_,_,h4,_⟩:=M.row_none (k:=1) rfl rfl
  subst h4
  exact Agc (gb:=0) (c:=0) (l:=[]) M
 ·have h0':0 < l.length:=List.length_pos_iff.2 h0
  obtain ⟨gb,h1⟩:=M.row_some (k:=1) rfl h0'
  subst h1
  obtain ⟨_,_,he,hle,_⟩:=M.row_shape (k:=1) rfl
  simp only [Value.slice.injEq] at he
  exact Agb M h0 (by omega)
open Go Go.Y Go.Proofs
variable {w0 w:World} {G:A4} {L:List Res}
set_option linter.unusedSimpArgs false
set_option linter.unusedVariables false
theorem Lj (M:Mem w0 G L w) (HG:Globs 0 1 2 3 G) {s sep:List UInt8} (hs:s.length < 4294967281) :
  Calls Tryz.prog 100 #[.string (str s),.string (str sep)] w (Ci w0 G L fun v=>v=.tuple #[.string (str (Lib.cut s sep).1),.string (str (Lib.cut s sep).2.1),.bool (Lib.cut s sep).2.2]):=by
 obtain ⟨m,hm⟩:=HG.max
 refine (Any.strings_Cut Tryz.lays145 (str s) (str sep) m w (by rw [Ck];exact hs) (M.cell hm)).mono ?_
 rintro e w' ⟨rfl,n,rfl⟩
 rw [E1,E1]
 exact ⟨M.drewN n,rfl⟩
theorem Aal (M:Mem w0 G L w) (HG:Globs 0 1 2 3 G) {s:List UInt8} (hs:s.length≤281474976710656) :
  Calls Tryz.prog 101 #[.string (str s),.int .i64 10,.int .i64 64] w (Ci w0 G L fun v=>∃ (u:Nat) (er:Value),v=.tuple #[.int .u64 (u:Int),er]∧u≤18446744073709551615∧(er=.nilIface∨∃ te pe,er=.iface te pe) ∧
   ((Lib.parseUintB 64 s=.ok u∧D3 er=true)∨((∀ x,Lib.parseUintB 64 s≠.ok x)∧D3 er=false))):=by
 have hd:(str s).data.toList=s:=E1 s
 cases h:Lib.parseUintB 64 s with
 | ok u =>
  refine (Any.strconv_ParseUint_10_at64_ok Tryz.laysPu14 (str s) (by rw [Ck];omega) u (by rw [hd];exact h) w).mono ?_
  rintro e w' ⟨rfl,hw⟩
  refine ⟨?_,u,_,rfl,pu64_le h,Or.inl rfl,Or.inl ⟨rfl,rfl⟩⟩
  rcases hw with rfl | rfl
  ·exact M
  ·exact M.bytesWorld _ _
 | range =>
  obtain ⟨ev,h1,h2⟩:=HG.rng
  refine (Any.strconv_ParseUint_10_at64_range Tryz.laysPu14 (str s) (by rw [Ck];omega) (by rw [hd];exact h) ev w (M.cell h1) h2).mono ?_
  rintro e w' ⟨N,rfl,_,_,hb⟩
  exact ⟨M.below' hb,18446744073709551615,_,rfl,by omega,Or.inr ⟨_,_,rfl⟩,Or.inr ⟨(fun x hx=>by cases hx),rfl⟩⟩
 | _ =>
  obtain ⟨ev,h1,h2⟩:=HG.syn
  refine (Any.strconv_ParseUint_10_at64_syntax Tryz.laysPu14 (str s) (by rw [Ck];omega) (by rw [hd];exact h) ev w (M.cell h1) h2).mono ?_
  rintro e w' ⟨N,rfl,_,_,hb⟩
  exact ⟨M.below' hb,0,_,rfl,by omega,Or.inr ⟨_,_,rfl⟩,Or.inr ⟨(fun x hx=>by cases hx),rfl⟩⟩
theorem Yv (M:Mem w0 G L w) (HG:Globs 0 1 2 3 G) {n:Int} (hn:Aw .i64 n) :
  Calls Tryz.prog 166 #[.int .i64 n,.int .i64 10] w (Ci w0 G L fun v=>v=.string (str (Lib.itoa n))):=by
 refine (Any.internal_strconv_FormatInt_10 Tryz.laysM246 n hn.1 hn.2 w (HG.tabIs M (by kernel_rfl))).mono ?_
 rintro e w' ⟨rfl,k,os,rfl⟩
 exact ⟨(M.drewN k).grew os,rfl⟩
theorem Z5 (M:Mem w0 G L w) {i:Nat} (h:i < 100):Calls Tryz.prog 170 #[.int .i64 (i:Int)] w (Ci w0 G L fun v=>v=.string (str (Lib.decDigits i))):=by
 refine (Any.internal_strconv_small Tryz.lays283 i h w).mono ?_
 rintro e w' ⟨rfl,rfl⟩
 exact ⟨M,rfl⟩
theorem Aes (M:Mem w0 G L w) (HG:Globs 0 1 2 3 G) {u:Nat} (h1:1≤u) (h2:u < 18446744073709551616):Calls Tryz.prog 171 #[.int .u64 (u:Int)] w (Ci w0 G L fun v=>v=.int .i64 ((Lib.nDigits u:Nat):Int)):=by
 refine (Any.internal_strconv_numDigits Tryz.laysM284 u h1 h2 w (HG.tabIs M (by kernel_rfl))).mono ?_
 rintro e w' ⟨rfl,rfl⟩
 exact ⟨M,rfl⟩
theorem Afq {w0 w:World} {G:A4} {L:List Res} {b u c:Nat} {l:List UInt8} (M:Mem w0 G (.blk b (bc l) 244::L) w) (hl:l.length=24) (hnd:Lib.nDigits u≤24) (h2:u < 18446744073709551616) :
  Calls Tryz.prog 172 #[.slice (some ⟨b,0,none⟩) (Lib.nDigits u) c,.int .u64 (u:Int)] w (Jr w0 G fun L' v=>v=.tuple #[]∧∃ r,L' = (.blk b (bc (Lib.decDigits u++r)) 244::L)):=by
 have hH:=M.holdsB (k:=0) rfl (Lib.nDigits u) (by omega)
 have hs:(l.take (Lib.nDigits u)).toArray.size=Lib.nDigits u:=by simp;omega
 have:=Any.internal_strconv_formatBase10 Tryz.lays285 b 0 c u (l.take (Lib.nDigits u)).toArray w hH (by rw [hs];exact Lib.lt_pow_nDigits u) h2 (by rw [hs];omega)
 rw [hs] at this
 refine this.mono ?_
 rintro e w' ⟨rfl,n,v',dk,rfl,hF⟩
 have hd:=Aay hF
 have M':=M.putRowB (k:=0) rfl dk (by rw [hF.size];omega) n
 rw [hd] at M'
 exact ⟨_,M',rfl,_,rfl⟩
theorem Aiz (M:Mem w0 G L w) (HG:Globs 0 1 2 3 G) {u:Nat} (hu:u < 18446744073709551616) :
  Calls Tryz.prog 144 #[.int .u64 (u:Int),.int .i64 10] w (Ci w0 G L fun v=>v=.string (str (Lib.decDigits u))):=by
 refine A0 (vs:=[_,_]) Tryz.func144 rfl (n:=32) rfl rfl<|Ab<|Ac<|Af rfl<|Aa<|Ad<|Ab<|Ab<|Ac<|Ae rfl<|Dy rfl rfl<|Aa<|Ad<|Bo rfl (decide_eq_true (by rfl))<|Ab<|Ab<|Ac<|Ae rfl<|C9 rfl rfl<|Aa<|Ad<|Ax rfl ?_ ?_
 ·intro h1b
  have h1:=dT h1b
  refine Ab<|Ac<|Ae rfl<|Ar (fun a F=>D0 B7.k ⟨_,by rw [Dk Ew.k]⟩ (F.ev rfl) (Cu (by omega) (by omega))) rfl<|Bw ent170 rfl rfl (Z5 (i:=u) M (by omega))<|?_;clear M;rintro _ w M rfl
  refine Af rfl<|Aa<|Ad<|Ak<|Au<|Au<|Aj rfl rfl<|?_
  exact ⟨M.weaken (sR _),rfl⟩
 ·intro h2b
  have h2:=dF h2b
  refine Aq<|Ad<|Ab<|Ac<|C6 M Zs rfl rfl<|?_;clear M;intro b3 w M
  refine Aa<|Ad<|Ab<|?_
  change Mem w0 G (_::L) _ at M
  change Mem w0 G (.blk b3 (bc (List.replicate 24 0)) 244::L) w at M
  refine Ac<|Ae rfl<|Bw ent171 rfl rfl (Aes (u:=u) M HG (by omega) (by omega))<|?_;clear M;rintro _ w M rfl
  refine Af rfl<|Aa<|Ad<|Ab<|?_
  have hnd:Lib.nDigits u≤20:=by have h1:=Lib.numDigits_eq u (by omega) hu;split at h1 <;> omega
  refine Ac<|Ae rfl<|Ar (fun a F=>Np (h:=Lib.nDigits u) Zs.k Ev (F.ev rfl) (F.ev rfl) (by omega) (by omega)) rfl<|Ae rfl<|?_
  change Mem w0 G (_::L) _ at M
  refine Oj ent172 rfl rfl (Afq (u:=u) (l:=List.replicate 24 0) M (by simp) (by omega) (by omega))<|?_;clear M;rintro _ _ w M ⟨rfl,rr,rfl⟩
  refine Aa<|Ad<|Ab<|Ac<|Ae rfl<|Ar (fun a F=>Np (h:=Lib.nDigits u) Zs.k Ev (F.ev rfl) (F.ev rfl) (by omega) (by omega)) rfl<|Ar (fun a F=>Vs M (k:=0) rfl Jv.k Ev.k Bq.k (F.ev rfl) (by rw [List.length_append,Lib.decDigits_length];omega)) rfl<|fun a F=>?_
  rw [show (Lib.decDigits u++rr).take (Lib.nDigits u)=Lib.decDigits u by rw [← Lib.decDigits_length,List.take_left]] at F
  revert a
  refine Af rfl<|Aa<|Ad<|Ak<|Au<|Aj rfl rfl<|?_
  exact ⟨M.weaken (.cons _ (sR _)),rfl⟩
theorem Acr (M:Mem w0 G L w) (HG:Globs 0 1 2 3 G) {u:Nat} (hu:u < 18446744073709551616) :
  Calls Tryz.prog 98 #[.int .u64 (u:Int),.int .i64 10] w (Ci w0 G L fun v=>v=.string (str (Lib.decDigits u))):=by
 refine A0 (vs:=[_,_]) Tryz.func98 rfl (n:=8) rfl rfl<|Ab<|Ac<|Af rfl<|Aa<|Ad<|Ab<|Ac<|Ae rfl<|Ae rfl<|Bw ent144 rfl rfl (Aiz (u:=u) M HG (by omega))<|?_;clear M;rintro _ w M rfl
 refine Af rfl<|Aa<|Ad<|Ak<|Aj rfl rfl<|?_
 exact ⟨M,rfl⟩
end Go.Proofs.YtmmhmcplegpenaaGreatDoor
