/- Items: numbers, lines, what a line stands for. · The walks, part A. · The walks, part B. · The walks, part C. · The walks, part S. · The walks, part N. · The walks, part P. · The walks, part T. -/
import Derived.Test.YtmmhmcplegpenaaGreatDoorJ3
import Derived.Test.YtmmhmcplegpenaaGreatDoorYB
import Derived.Lib.IndexMore
import Derived.Lib.SplitLaws
import Derived.Lib.ParseIntB
import Derived.Lib.Join
import Derived.Test.YtmmhmcplegpenaaGreatDoorJ1
namespace Go.Proofs.YtmmhmcplegpenaaGreatDoor
open Go Go.Y
set_option linter.unusedSimpArgs false
set_option linter.unusedVariables false
theorem dec_split (u:Nat):Lib.decDigits u=(if u / 10=0 then [] else Lib.decDigits (u / 10))++[UInt8.ofNat (48+u % 10)]:=by
 rw [Lib.decDigits]
 split
 ·rename_i h
  rw [if_pos (by omega),Nat.mod_eq_of_lt h]
  rfl
 ·rename_i h
  rw [if_neg (by omega)]
def isDig (c:UInt8):Prop:=48≤c.toNat∧c.toNat≤57
def valA:List UInt8→Nat→Nat
 | [],acc=>acc
 | c::r,acc=>valA r (10 * acc+(c.toNat - 48))
theorem valA_le:∀ (l:List UInt8) (acc:Nat),acc≤valA l acc
 | [],acc=>Nat.le_refl _
 | c::r,acc=>by have:=valA_le r (10 * acc+(c.toNat - 48));simp only [valA];omega
theorem valA_snoc (c:UInt8):∀ (l:List UInt8) (acc:Nat),valA (l++[c]) acc=10 * valA l acc+(c.toNat - 48)
 | [],acc=>rfl
 | b::r,acc=>valA_snoc c r _
instance (c:UInt8):Decidable (isDig c):=by unfold isDig;infer_instance
theorem dec_dig:∀ (u:Nat),∀ c∈Lib.decDigits u,isDig c:=by
 intro u
 induction u using Nat.strongRecOn with
 | _ u ih =>
  intro c hc
  rw [dec_split] at hc
  rcases List.mem_append.1 hc with hc | hc
  ·split at hc
   ·simp at hc
   ·exact ih (u / 10) (by omega) c hc
  ·simp only [List.mem_singleton] at hc
   subst hc
   have h1:(UInt8.ofNat (48+u % 10)).toNat=48+u % 10:=UInt8.toNat_ofNat_of_lt' (by show 48+u % 10 < 256;omega)
   unfold isDig
   omega
theorem val_dec:∀ (u:Nat),valA (Lib.decDigits u) 0=u:=by
 intro u
 induction u using Nat.strongRecOn with
 | _ u ih =>
  have h1:(UInt8.ofNat (48+u % 10)).toNat=48+u % 10:=UInt8.toNat_ofNat_of_lt' (by show 48+u % 10 < 256;omega)
  rw [dec_split,valA_snoc,h1]
  split
  ·rename_i h;simp only [valA];omega
  ·rename_i h;rw [ih (u / 10) (by omega)];omega
def ix (c:UInt8):List UInt8→Nat
 | []=>0
 | b::l=>if b=c then 0 else ix c l+1
theorem ix_le (c:UInt8):∀ (l:List UInt8),ix c l≤l.length
 | []=>Nat.le_refl _
 | b::l=>by have:=ix_le c l;unfold ix;split <;> simp only [List.length_cons] <;> omega
theorem ix_ne (c:UInt8):∀ (l:List UInt8) (m:Nat) (b:UInt8),m < ix c l→l[m]?=some b→b≠c
 | [],m,b,h,_=>by simp [ix] at h
 | a::l,m,b,h,hb=>by
  unfold ix at h
  split at h
  ·omega
  ·rename_i ha
   cases m with
   | zero=>simp at hb;subst hb;exact ha
   | succ m=>exact ix_ne c l m b (by omega) (by simpa using hb)
theorem ix_at (c:UInt8):∀ (l:List UInt8),ix c l < l.length→l[ix c l]?=some c
 | [],h=>by simp at h
 | a::l,h=>by
  unfold ix at h ⊢
  split
  ·rename_i ha;subst ha;rfl
  ·rename_i ha
   rw [if_neg ha] at h
   simp only [List.length_cons] at h
   rw [List.getElem?_cons_succ]
   exact ix_at c l (by omega)
theorem ix_unique {c:UInt8}:∀ {l:List UInt8} {k:Nat},(∀ (m:Nat) (b:UInt8),m < k→l[m]?=some b→b≠c)→(l[k]?=some c∨k=l.length)→ix c l=k
 | [],k,_,h=>by
  rcases h with h | h
  ·simp at h
  ·simp [ix,h]
 | a::l,k,h,hk=>by
  unfold ix
  cases k with
  | zero =>
   rcases hk with hk | hk
   ·simp at hk;rw [if_pos hk]
   ·simp at hk
  | succ k =>
   have h0:=h 0 a (by omega) (by simp)
   rw [if_neg h0,ix_unique (l:=l) (k:=k) (fun m b h1 h2=>h (m+1) b (by omega) (by simpa using h2)) (by
    rcases hk with hk | hk
    ·left;simpa using hk
    ·right;simpa using hk)]
theorem index_ix (c:UInt8):∀ (l:List UInt8),Lib.index l [c]=if ix c l < l.length then ((ix c l:Nat):Int) else -1
 | []=>by simp [Lib.index,ix]
 | b::l=>by
  have ih:=index_ix c l
  unfold Lib.index ix
  by_cases h:b=c
  ·subst h
   simp
  ·have hp:([c].isPrefixOf (b::l))=false:=by simp [List.isPrefixOf,Ne.symm h]
   rw [if_neg (by rw [hp];simp),if_neg h]
   by_cases hl:ix c l < l.length
   ·rw [if_pos hl] at ih
    have h1:¬ (Lib.index l [c]==-1)=true:=by rw [ih,beq_iff_eq];omega
    have h2:ix c l+1 < (b::l).length:=by rw [List.length_cons];omega
    rw [if_neg h1,if_pos h2,ih]
    omega
   ·rw [if_neg hl] at ih
    have h1:(Lib.index l [c]==-1)=true:=by rw [ih];rfl
    have h2:¬ ix c l+1 < (b::l).length:=by rw [List.length_cons];omega
    rw [if_pos h1,if_neg h2]
theorem cut_ix (c:UInt8) (l:List UInt8):Lib.cut l [c]=if ix c l < l.length then (l.take (ix c l),l.drop (ix c l+1),true) else (l,[],false):=by
 unfold Lib.cut
 rw [index_ix]
 by_cases h:ix c l < l.length
 ·simp only [if_pos h]
  rw [if_pos (by omega)]
  simp
 ·simp only [if_neg h]
  rw [if_neg (by omega)]
theorem cut_lens (c:UInt8) (s:List UInt8):(Lib.cut s [c]).1.length≤s.length∧(Lib.cut s [c]).2.1.length≤s.length:=by
 rw [cut_ix]
 split
 ·simp only [List.length_take,List.length_drop];omega
 ·simp
theorem dec_len (u:Nat) (h:u < 18446744073709551616):(Lib.decDigits u).length≤20:=by
 rw [Lib.decDigits_length]
 rcases Nat.eq_zero_or_pos u with h0 | h0
 ·subst h0;rw [Lib.nDigits_small (by decide)];omega
 ·have h1:=Lib.numDigits_eq u h0 h
  split at h1 <;> omega
theorem ix_app {c:UInt8}:∀ {d e:List UInt8},c ∉ d→ix c (d++c::e)=d.length
 | [],e,_=>by simp [ix]
 | b::d,e,h=>by
  simp only [List.cons_append,List.length_cons]
  unfold ix
  rw [if_neg (fun hb=>h (by rw [hb];simp)),ix_app (fun hd=>h (by simp [hd]))]
theorem dec_ne (u:Nat):Lib.decDigits u≠[]:=by
 rw [dec_split];simp
theorem pum_dec {most:Nat} (hm:most≤18446744073709551615):∀ (l:List UInt8) (acc:Nat),(∀ c∈l,isDig c)→valA l acc≤most→Lib.parseUintM most acc l=.ok (valA l acc)
 | [],acc,_,_=>rfl
 | c::r,acc,hd,hv=>by
  have hc:48≤c.toNat∧c.toNat≤57:=hd c (by simp)
  simp only [valA] at hv ⊢
  have:=valA_le r (10 * acc+(c.toNat - 48))
  unfold Lib.parseUintM
  rw [if_pos hc,if_neg (by omega),if_neg (by omega),Nat.mul_comm acc 10]
  exact pum_dec hm r _ (fun x hx=>hd x (by simp [hx])) hv
theorem pub_dec {B u:Nat} (hB:B≤64) (hu:u < 2 ^ B):Lib.parseUintB B (Lib.decDigits u)=.ok u:=by
 unfold Lib.parseUintB
 have h64:2 ^ B≤2 ^ 64:=Nat.pow_le_pow_right (by decide) hB
 rw [if_neg (dec_ne u),pum_dec (by omega) _ _ (dec_dig u) (by rw [val_dec];omega),val_dec]
theorem dig_not {c:UInt8} {u:Nat} (hc:¬ isDig c):c ∉ Lib.decDigits u:=fun h=>hc (dec_dig u c h)
theorem cut_app {c:UInt8} {d e:List UInt8} (h:c ∉ d):Lib.cut (d++c::e) [c]=(d,e,true):=by
 rw [cut_ix,ix_app h,if_pos (by simp)]
 simp
theorem cut_miss {c:UInt8} {d:List UInt8} (h:c ∉ d):Lib.cut d [c]=(d,[],false):=by
 have:ix c d=d.length:=ix_unique (fun m b _ hb=>fun e=>h (e ▸ List.mem_of_getElem? hb)) (Or.inr rfl)
 rw [cut_ix,this,if_neg (by omega)]
/-! ### The line of an item -/
def markS (ms:List (List UInt8)):List UInt8:=if ms=[] then [45] else Lib.join ms [44]
def lineF (x:ItemD):List UInt8:=Lib.decDigits x.key++[32]++Lib.decDigits x.typ++[32]++markS x.marks++[32]++x.text
theorem name_byte {s:List UInt8} (h:Name s) {c:UInt8} (hc:¬ NameB c):c ∉ s:=fun hs=>hc (h.2 c hs)
theorem join_two (m:List UInt8) (y:List UInt8) (r:List (List UInt8)):Lib.join (m::y::r) [44]=m++44::Lib.join (y::r) [44]:=by
 rw [Lib.join_cons,Lib.join_cons]
 simp [Lib.joinTail]
theorem join_mem {c:UInt8} (hc:¬ NameB c) (h44:c≠44):∀ (ms:List (List UInt8)),(∀ s∈ms,Name s)→c ∉ Lib.join ms [44]
 | [],_=>by simp [Lib.join_nil]
 | [m],h=>by rw [Lib.join_one];exact name_byte (h m (by simp)) hc
 | m::y::r,h=>by
  rw [join_two]
  intro hx
  rcases List.mem_append.1 hx with hx | hx
  ·exact name_byte (h m (by simp)) hc hx
  ·rcases List.mem_cons.1 hx with hx | hx
   ·exact h44 hx
   ·exact join_mem hc h44 (y::r) (fun s hs=>h s (by simp [hs])) hx
theorem join_ne {m:List UInt8} {r:List (List UInt8)} (h:Name m):Lib.join (m::r) [44]≠[]:=by
 rw [Lib.join_cons]
 intro e
 have h1:=(List.append_eq_nil_iff.1 e).1
 subst h1
 exact absurd h.1.1 (by simp)
theorem join_ne45 {m:List UInt8} {r:List (List UInt8)} (h:Name m):Lib.join (m::r) [44]≠[45]:=by
 rw [Lib.join_cons]
 intro e
 cases m with
 | nil=>exact absurd h.1.1 (by simp)
 | cons b m =>
  simp only [List.cons_append,List.cons.injEq] at e
  have h1:=h.2 b (by simp)
  rw [e.1] at h1
  exact absurd h1 (by decide)
theorem markS_mem {ms:List (List UInt8)} (h:∀ s∈ms,Name s):(32:UInt8) ∉ markS ms∧(10:UInt8) ∉ markS ms:=by
 unfold markS
 split
 ·exact ⟨by decide,by decide⟩
 ·exact ⟨join_mem (by decide) (by decide) ms h,join_mem (by decide) (by decide) ms h⟩
theorem str_not10 {s:List UInt8} (h:Str s):(10:UInt8) ∉ s:=fun hs=>absurd (h.2 10 hs) (by decide)
theorem line_not10 {x:ItemD} (h:ItemOk 8 x):(10:UInt8) ∉ lineF x:=by
 obtain ⟨_,_,h3,_,h5⟩:=h
 unfold lineF
 simp only [List.mem_append,List.mem_singleton,not_or]
 exact ⟨⟨⟨⟨⟨⟨dig_not (by decide),by decide⟩,dig_not (by decide)⟩,by decide⟩,(markS_mem h5).2⟩,by decide⟩,str_not10 h3⟩
theorem line_r (x:ItemD):lineF x=Lib.decDigits x.key++32::(Lib.decDigits x.typ++32::(markS x.marks++32::x.text)):=by
 simp [lineF]
theorem line_cut1 (x:ItemD) (e:List UInt8):Lib.cut (lineF x++e) [32]=(Lib.decDigits x.key,Lib.decDigits x.typ++32::(markS x.marks++32::(x.text++e)),true):=by
 rw [line_r,show Lib.decDigits x.key++32::(Lib.decDigits x.typ++32::(markS x.marks++32::x.text))++e=Lib.decDigits x.key++32::(Lib.decDigits x.typ++32::(markS x.marks++32::(x.text++e))) by simp]
 exact cut_app (dig_not (by decide))
theorem line_cut2 (t:Nat) (r:List UInt8):Lib.cut (Lib.decDigits t++32::r) [32]=(Lib.decDigits t,r,true):=cut_app (dig_not (by decide))
theorem line_cut3 {ms:List (List UInt8)} (h:∀ s∈ms,Name s) (r:List UInt8):Lib.cut (markS ms++32::r) [32]=(markS ms,r,true):=cut_app (markS_mem h).1
/-! ### Its length -/
theorem lens_le {b:Nat}:∀ (ms:List (List UInt8)),(∀ s∈ms,s.length≤b)→Lib.lens ms≤b * ms.length
 | [],_=>by simp [Lib.lens]
 | m::r,h=>by
  have h1:=lens_le r (fun s hs=>h s (by simp [hs]))
  have h2:=h m (by simp)
  simp only [Lib.lens,List.map_cons,List.sum_cons,List.length_cons,Nat.mul_succ] at h1 ⊢
  omega
theorem join_len {ms:List (List UInt8)} {b:Nat} (h:∀ s∈ms,s.length≤b):(Lib.join ms [44]).length≤(b+1) * ms.length:=by
 cases ms with
 | nil=>simp [Lib.join_nil]
 | cons m r =>
  rw [Lib.join_length]
  have h1:=lens_le (m::r) h
  simp only [List.length_cons,List.length_nil,Nat.add_mul] at h1 ⊢
  omega
theorem join_len16 {ms:List (List UInt8)} (h8:ms.length≤8) (h:∀ s∈ms,Name s):(Lib.join ms [44]).length≤136:=by
 have h1:=join_len (b:=16) (fun s hs=>(h s hs).1.2)
 have h2:=Nat.mul_le_mul_left 17 h8
 omega
theorem markS_len {ms:List (List UInt8)} (h8:ms.length≤8) (h:∀ s∈ms,Name s):(markS ms).length≤136:=by
 unfold markS
 split
 ·decide
 ·exact join_len16 h8 h
theorem line_len {x:ItemD} {t:Int} (h:ItemOk t x) (hk:x.key < 18446744073709551616) (ht:x.typ < 256):(lineF x).length≤300:=by
 obtain ⟨_,_,h3,h4,h5⟩:=h
 have h6:=markS_len h4 h5
 have h7:=dec_len x.key hk
 have h8:=dec_len x.typ (by omega)
 have h9:=h3.1
 unfold lineF
 simp only [List.length_append,List.length_cons,List.length_nil]
 omega
/-! ### Split -/
def splitF (s:List UInt8):List (List UInt8):=Lib.split s [44]
theorem splitK_len:∀ (k:Nat) (s:List UInt8) (p:List UInt8),p∈Lib.splitK [44] 0 k s→p.length≤s.length
 | 0,s,p,h=>by simp only [Lib.splitK,List.mem_singleton] at h;subst h;exact Nat.le_refl _
 | k+1,s,p,h=>by
  unfold Lib.splitK at h
  split at h
  ·simp only [List.mem_singleton] at h;subst h;exact Nat.le_refl _
  ·rcases List.mem_cons.1 h with rfl | h
   ·simp only [List.length_take];omega
   ·have:=splitK_len k _ p h;simp only [List.length_drop] at this;omega
theorem splitF_len {s p:List UInt8} (h:p∈splitF s):p.length≤s.length:=splitK_len _ _ _ h
theorem splitK_hit {m r:List UInt8} (k:Nat) (h:(44:UInt8) ∉ m):Lib.splitK [44] 0 (k+1) (m++44::r)=m::Lib.splitK [44] 0 k r:=by
 have h1:Lib.index (m++44::r) [44]=((m.length:Nat):Int):=by rw [index_ix,ix_app h,if_pos (by simp)]
 rw [Lib.splitK,h1,if_neg (by rw [beq_iff_eq];omega)]
 congr 1
 ·simp
 ·congr 1;simp
theorem splitK_join:∀ (m:List UInt8) (r:List (List UInt8)),(∀ s∈m::r,Name s)→Lib.splitK [44] 0 r.length (Lib.join (m::r) [44])=m::r
 | m,[],_=>by simp [Lib.join_one,Lib.splitK]
 | m,y::r,h=>by
  rw [join_two,List.length_cons,splitK_hit _ (name_byte (h m (by simp)) (by decide)),splitK_join y r (fun s hs=>h s (by simp [hs]))]
theorem count_join:∀ (m:List UInt8) (r:List (List UInt8)),(∀ s∈m::r,Name s)→(Lib.join (m::r) [44]).count 44=r.length
 | m,[],h=>by
  rw [Lib.join_one];exact List.count_eq_zero.2 (name_byte (h m (by simp)) (by decide))
 | m,y::r,h=>by
  rw [join_two,List.count_append,List.count_cons_self,count_join y r (fun s hs=>h s (by simp [hs])),List.count_eq_zero.2 (name_byte (h m (by simp)) (by decide))]
  simp
theorem splitF_join {ms:List (List UInt8)} (h:∀ s∈ms,Name s) (h0:ms≠[]):splitF (markS ms)=ms:=by
 cases ms with
 | nil=>exact absurd rfl h0
 | cons m r =>
  unfold splitF Lib.split markS
  rw [if_neg h0,Lib.count_one,count_join m r h,splitK_join m r h]
/-! ### What a line stands for -/
def Rd8 (s:List UInt8) (x:ItemD):Prop:=ItemOk 8 x∧x.key < 18446744073709551616∧lineF x=s
theorem lineF_inj {x y:ItemD} (hx:ItemOk 8 x) (hy:ItemOk 8 y) (hkx:x.key < 18446744073709551616) (hky:y.key < 18446744073709551616) (e:lineF x=lineF y):x=y:=by
 have a1:=line_cut1 x []
 have b1:=line_cut1 y []
 rw [List.append_nil,List.append_nil] at a1 b1
 rw [e,b1] at a1
 simp only [Prod.mk.injEq,and_true] at a1
 obtain ⟨h1,h2⟩:=a1
 have c1:=line_cut2 x.typ (markS x.marks++32::x.text)
 rw [← h2,line_cut2] at c1
 simp only [Prod.mk.injEq,and_true] at c1
 obtain ⟨h3,h4⟩:=c1
 have d1:=line_cut3 hx.2.2.2.2 x.text
 rw [← h4,line_cut3 hy.2.2.2.2] at d1
 simp only [Prod.mk.injEq,and_true] at d1
 obtain ⟨h5,h6⟩:=d1
 refine item_ext ?_ ?_ h6.symm ?_
 ·rw [← val_dec x.key,← h1,val_dec]
 ·rw [← val_dec x.typ,← h3,val_dec]
 ·by_cases hm:x.marks=[]
  ·by_cases hn:y.marks=[]
   ·rw [hm,hn]
   ·obtain ⟨m,r,hmr⟩:=List.exists_cons_of_ne_nil hn
    rw [hm,hmr] at h5
    simp only [markS,if_true,if_neg (List.cons_ne_nil m r)] at h5
    exact absurd h5 (join_ne45 (hy.2.2.2.2 m (by rw [hmr];simp)))
  ·by_cases hn:y.marks=[]
   ·obtain ⟨m,r,hmr⟩:=List.exists_cons_of_ne_nil hm
    rw [hn,hmr] at h5
    simp only [markS,if_true,if_neg (List.cons_ne_nil m r)] at h5
    exact absurd h5.symm (join_ne45 (hx.2.2.2.2 m (by rw [hmr];simp)))
   ·rw [← splitF_join hx.2.2.2.2 hm,← h5,splitF_join hy.2.2.2.2 hn]
theorem Rd8.uniq {s:List UInt8} {x y:ItemD} (hx:Rd8 s x) (hy:Rd8 s y):x=y:=lineF_inj hx.1 hy.1 hx.2.1 hy.2.1 (hx.2.2.trans hy.2.2.symm)
/-! ### Whole texts -/
def textF (l:List ItemD):List UInt8:=(l.map fun x=>lineF x++[10]).flatten
theorem textF_snoc {l:List ItemD} {i:Nat} {x:ItemD} (h:l[i]?=some x):textF (l.take (i+1))=textF (l.take i)++(lineF x++[10]):=by
 unfold textF
 rw [List.take_add_one,h]
 simp
def AllOk (l:List ItemD):Prop:=∀ x∈l,ItemOk 8 x
instance (l:List ItemD):Decidable (AllOk l):=by unfold AllOk;infer_instance
theorem AllOk.no {l:List ItemD} {i:Nat} {x:ItemD} (h:l[i]?=some x) (hn:¬ ItemOk 8 x):¬ AllOk l:=fun h2=>hn (h2 x (List.mem_of_getElem? h))
def textE (l:List ItemD):Int:=if 1024 < l.length then 3 else if AllOk l then 0 else 6
def textR (l:List ItemD):List UInt8:=if textE l=0 then textF l else []
theorem text_big {l:List ItemD} (h:1024 < l.length):textE l=3∧textR l=[]:=by
 have:textE l=3:=by unfold textE;rw [if_pos h]
 exact ⟨this,by unfold textR;rw [this];rfl⟩
theorem text_bad {l:List ItemD} (h:l.length≤1024) (hn:¬ AllOk l):textE l=6∧textR l=[]:=by
 have:textE l=6:=by unfold textE;rw [if_neg (by omega),if_neg hn]
 exact ⟨this,by unfold textR;rw [this];rfl⟩
theorem text_ok {l:List ItemD} (h:l.length≤1024) (hn:AllOk l):textE l=0∧textR l=textF l:=by
 have:textE l=0:=by unfold textE;rw [if_neg (by omega),if_pos hn]
 exact ⟨this,by unfold textR;rw [if_pos this]⟩
theorem line_join {x:ItemD} (h:¬ Lib.join x.marks [44]=[]):lineF x=Lib.decDigits x.key++[32]++Lib.decDigits x.typ++[32]++Lib.join x.marks [44]++[32]++x.text:=by
 unfold lineF markS
 rw [if_neg (fun e=>h (by rw [e];rfl))]
theorem line_dash {x:ItemD} (h:Lib.join x.marks [44]=[]) (hok:ItemOk 8 x):lineF x=Lib.decDigits x.key++[32]++Lib.decDigits x.typ++[32]++[45]++[32]++x.text:=by
 have:x.marks=[]:=by
  cases hm:x.marks with
  | nil=>rfl
  | cons m r=>rw [hm] at h;exact absurd h (join_ne (hok.2.2.2.2 m (by rw [hm];simp)))
 unfold lineF markS
 rw [if_pos this]
/-! ### Lines read back -/
/-- What every reader of a number owes: a number's own text is read as the number. -/
def NumR (lim:Nat) (s:List UInt8) (u:Nat) (b:Bool):Prop:=u < lim∧∀ m:Nat,m < lim→s=Lib.decDigits m→b=true∧u=m
def marksG (c:List UInt8):List (List UInt8):=if c=[45] then [] else splitF c
theorem marksG_S {ms:List (List UInt8)} (h:∀ s∈ms,Name s):marksG (markS ms)=ms:=by
 unfold marksG
 cases ms with
 | nil=>rfl
 | cons m r =>
  have:markS (m::r)=Lib.join (m::r) [44]:=by unfold markS;rw [if_neg (List.cons_ne_nil m r)]
  rw [if_neg (by rw [this];exact join_ne45 (h m (by simp))),splitF_join h (List.cons_ne_nil m r)]
theorem item_back {s:List UInt8} {y:ItemD} {u1 u2 lim:Nat} {b1 b2:Bool} (h:Rd8 s y) (n1:NumR 18446744073709551616 (Lib.cut s [32]).1 u1 b1) (hl:256≤lim) (n2:NumR lim (Lib.cut (Lib.cut s [32]).2.1 [32]).1 u2 b2) :
  b1=true∧b2=true∧(⟨u1,u2,(Lib.cut (Lib.cut (Lib.cut s [32]).2.1 [32]).2.1 [32]).2.1,marksG (Lib.cut (Lib.cut (Lib.cut s [32]).2.1 [32]).2.1 [32]).1⟩:ItemD)=y:=by
 obtain ⟨hok,hk,rfl⟩:=h
 have ht:y.typ < 256:=by have:=hok.2.1;omega
 have a1:=line_cut1 y []
 rw [List.append_nil,List.append_nil] at a1
 rw [a1] at n1 n2
 simp only [line_cut2] at n2
 rw [a1]
 simp only [line_cut2,line_cut3 hok.2.2.2.2,marksG_S hok.2.2.2.2]
 obtain ⟨h1,h2⟩:=n1.2 y.key hk rfl
 obtain ⟨h3,h4⟩:=n2.2 y.typ (by omega) rfl
 exact ⟨h1,h3,by rw [h2,h4]⟩
def Rd10 (s:List UInt8) (x:ItemD):Prop:=ItemOk 8 x∧x.key < 18446744073709551616∧lineF x++[10]=s
theorem Rd10.one {s:List UInt8} {x:ItemD} (h:Rd10 (s++[10]) x):Rd8 s x:=⟨h.1,h.2.1,by have:=h.2.2;simpa using this⟩
theorem Rd8.ten {s:List UInt8} {x:ItemD} (h:Rd8 s x):Rd10 (s++[10]) x:=⟨h.1,h.2.1,by rw [h.2.2]⟩
/-- The marks that a reader of marks has taken, and what is left. -/
def MkI (y xs:List (List UInt8)) (c:List UInt8):Prop:=∃ ys,y=xs++ys∧c=markS ys
theorem MkI.nil {y:List (List UInt8)} {c:List UInt8} (h:c=markS y):MkI y [] c:=⟨y,rfl,h⟩
theorem MkI.step {y xs:List (List UInt8)} {c:List UInt8} (hn:∀ s∈y,Name s) (h:MkI y xs c) (hc:¬ c=[45]) :
  ((Lib.cut c [44]).2.2=true→MkI y (xs++[(Lib.cut c [44]).1]) (Lib.cut c [44]).2.1)∧(¬ (Lib.cut c [44]).2.2=true→y=xs++[(Lib.cut c [44]).1]):=by
 obtain ⟨ys,h1,h2⟩:=h
 cases ys with
 | nil=>exact absurd h2 hc
 | cons m r =>
  have hm:(44:UInt8) ∉ m:=name_byte (hn m (by rw [h1];simp)) (by decide)
  have hj:markS (m::r)=Lib.join (m::r) [44]:=by unfold markS;rw [if_neg (List.cons_ne_nil m r)]
  cases r with
  | nil =>
   rw [hj,Lib.join_one] at h2
   subst h2
   rw [cut_miss hm]
   exact ⟨fun h=>(by cases h),fun _=>h1⟩
  | cons m2 r =>
   rw [hj,join_two] at h2
   subst h2
   rw [cut_app hm]
   refine ⟨fun _=>⟨m2::r,by rw [h1];simp,?_⟩,fun h=>absurd rfl h⟩
   unfold markS;rw [if_neg (List.cons_ne_nil m2 r)]
/-! ### Parsing -/
noncomputable def itemOf (s:List UInt8):Option ItemD:=by
 classical exact if h:∃ x,Rd8 s x then some h.choose else none
theorem itemOf_yes {s:List UInt8} {x:ItemD} (h:Rd8 s x):itemOf s=some x:=by
 have hx:∃ x,Rd8 s x:=⟨x,h⟩
 unfold itemOf
 rw [dif_pos hx,Rd8.uniq hx.choose_spec h]
theorem itemOf_no {s:List UInt8} (h:∀ y,¬ Rd8 s y):itemOf s=none:=by
 unfold itemOf
 rw [dif_neg (fun ⟨x,hx⟩=>h x hx)]
noncomputable def pGo:Nat→List ItemD→List UInt8→List ItemD × Nat × Int
 | 0,_,_=>([],0,0)
 | f+1,l,s=>if s=[] then (l,0,0) else if (Lib.cut s [10]).2.2=true then
   (match itemOf (Lib.cut s [10]).1 with
    | some x=>if l.length=1024 then ([],l.length+1,3) else pGo f (l++[x]) (Lib.cut s [10]).2.1
    | none=>([],l.length+1,5)) else ([],l.length+1,5)
noncomputable def parseF (s:List UInt8):List ItemD × Nat × Int:=if 1048576 < s.length then ([],0,3) else pGo (s.length+1) [] s
def PInv (s0:List UInt8) (xs:List ItemD) (c:List UInt8):Prop:=∃ f,c.length < f∧parseF s0=pGo f xs c∧xs.length≤1024∧AllOk xs
theorem parse_big {s:List UInt8} (h:1048576 < s.length):parseF s=([],0,3):=by unfold parseF;rw [if_pos h]
theorem PInv.start {s:List UInt8} (h:¬ 1048576 < s.length):PInv s [] s:=⟨s.length+1,by omega,by unfold parseF;rw [if_neg h],by simp,fun x hx=>by simp at hx⟩
theorem PInv.fin {s0:List UInt8} {xs:List ItemD} (h:PInv s0 xs []):parseF s0=(xs,0,0):=by
 obtain ⟨f,h1,h2,_⟩:=h
 cases f with
 | zero=>simp at h1
 | succ f=>rw [h2];unfold pGo;rw [if_pos rfl]
theorem cut_lt10 {s:List UInt8} (h:¬ s=[]):(Lib.cut s [10]).2.1.length < s.length:=by
 have h0:=List.length_pos_iff.2 h
 rw [cut_ix]
 split
 ·simp only [List.length_drop];omega
 ·simpa using h0
theorem PInv.bad {s0:List UInt8} {xs:List ItemD} {c:List UInt8} (h:PInv s0 xs c) (hc:¬ c=[]) (hb:¬ (Lib.cut c [10]).2.2=true∨∀ y,¬ Rd8 (Lib.cut c [10]).1 y):parseF s0=([],xs.length+1,5):=by
 obtain ⟨f,h1,h2,_⟩:=h
 cases f with
 | zero=>omega
 | succ f =>
  rw [h2]
  unfold pGo
  rw [if_neg hc]
  by_cases hq:(Lib.cut c [10]).2.2=true
  ·rw [if_pos hq,itemOf_no (hb.resolve_left (fun h=>h hq))]
  ·rw [if_neg hq]
theorem PInv.full {s0:List UInt8} {xs:List ItemD} {c:List UInt8} {x:ItemD} (h:PInv s0 xs c) (hc:¬ c=[]) (hq:(Lib.cut c [10]).2.2=true) (hx:Rd8 (Lib.cut c [10]).1 x) (hl:xs.length=1024):parseF s0=([],xs.length+1,3):=by
 obtain ⟨f,h1,h2,_⟩:=h
 cases f with
 | zero=>omega
 | succ f =>
  rw [h2]
  unfold pGo
  rw [if_neg hc,if_pos hq,itemOf_yes hx]
  simp only
  rw [if_pos hl]
theorem PInv.next {s0:List UInt8} {xs:List ItemD} {c:List UInt8} {x:ItemD} (h:PInv s0 xs c) (hc:¬ c=[]) (hq:(Lib.cut c [10]).2.2=true) (hx:Rd8 (Lib.cut c [10]).1 x) (hl:¬ xs.length=1024):PInv s0 (xs++[x]) (Lib.cut c [10]).2.1:=by
 obtain ⟨f,h1,h2,h3,h4⟩:=h
 cases f with
 | zero=>omega
 | succ f =>
  have h5:=cut_lt10 hc
  refine ⟨f,by omega,?_,by simp only [List.length_append,List.length_cons,List.length_nil];omega,fun y hy=>?_⟩
  ·rw [h2,pGo,if_neg hc,if_pos hq,itemOf_yes hx]
   simp only
   rw [if_neg hl]
  ·rcases List.mem_append.1 hy with hy | hy
   ·exact h4 y hy
   ·simp only [List.mem_singleton] at hy;subst hy;exact hx.1
theorem textF_cons (x:ItemD) (l:List ItemD):textF (x::l)=lineF x++10::textF l:=by unfold textF;simp
theorem textF_len {l:List ItemD} (h:AllOk l) (hk:∀ x∈l,x.key < 18446744073709551616∧x.typ < 256):(textF l).length≤301 * l.length:=by
 induction l with
 | nil=>simp [textF]
 | cons x l ih =>
  have h1:=line_len (h x (by simp)) (hk x (by simp)).1 (hk x (by simp)).2
  have h2:=ih (fun y hy=>h y (by simp [hy])) (fun y hy=>hk y (by simp [hy]))
  rw [textF_cons]
  simp only [List.length_append,List.length_cons]
  omega
/-! ### The examples -/
open Go Go.Y Go.Proofs
set_option linter.unusedSimpArgs false
set_option linter.unusedVariables false
theorem text1_spec {w:World} {x:Nat}:Calls Tryz.prog 49 #[.int .i32 (x:Int)] w (fun e w'=>e=.returned (.bool (badR x))∧∃ q,w' = w.drewN q):=by
 refine e_start (vs:=[_]) Tryz.func49 rfl (n:=9) rfl rfl<|e_seq<|e_reg<|s_as rfl<|e_nil<|e_tn<|e_seq<|e_reg<|s_mv rfl<|s_lt rfl rfl<|s_mv rfl<|?_
 rcases Bool.eq_false_or_eq_true (decide ((x:Int) < 32)) with hc | hc
 ·skip
  have h1b:=hc;clear hc
  have h1:(x:Int) < 32:=of_decide_eq_true h1b
  refine g_f rfl h1b<|g_f rfl h1b<|s_pt rfl h1b rfl<|s_as rfl<|e_nil<|e_tn<|e_ret<|e_fin1 rfl rfl<|?_
  exact ⟨by have h_:badR x=true:=(by unfold badR;first | (simp_all;omega) | simp_all);rw [h_],0,rfl⟩
 ·skip
  have h2b:=hc;clear hc
  have h2:¬ ((x:Int) < 32):=of_decide_eq_false h2b
  refine g_t rfl h2b<|s_mv rfl<|g_t rfl h2b<|s_gt rfl rfl<|s_pf rfl h2b rfl<|s_as rfl<|e_nil<|e_tn<|e_ret<|e_fin1 rfl rfl<|?_
  exact ⟨by have h_:badR x=(decide (126 < (x:Int))):=(by unfold badR;first | (simp_all;omega) | simp_all);rw [h_],0,rfl⟩
theorem idxf_text1 {w0 w:World} {G:Ghost} {L:List Res} (M:Mem w0 G L w) {s:List UInt8}:Calls Tryz.prog 103 #[.string (str s),.func (.func 49) #[] #[]] w (RetS w0 G L fun v=>∃ z:Int,v=.int .i64 z∧(z < 0↔∀ c∈s,StrB c)):=by
 have hp:PredAt Tryz.prog 49 #[] encR badR w:=fun W x _=>(text1_spec (x:=x))
 refine (Any.strings_IndexFunc Tryz.laysGw15 49 #[] (Go.Proofs.enters_of Tryz.func49 (by kernel_rfl) rfl) badR (str s) w hp).mono ?_
 rintro e w' ⟨rfl,hb⟩
 exact ⟨M.below' hb,_,rfl,idx_str s⟩
theorem contf_text1 {w0 w:World} {G:Ghost} {L:List Res} (M:Mem w0 G L w) {s:List UInt8}:Calls Tryz.prog 48 #[.string (str s),.func (.func 49) #[] #[]] w (RetS w0 G L fun v=>∃ b:Bool,v=.bool b∧(b=true↔¬ ∀ c∈s,StrB c)):=by
 refine e_start (vs:=[_,_]) Tryz.func48 rfl (n:=9) rfl rfl<|e_seq<|e_reg<|s_as rfl<|e_nil<|e_tn<|e_seq<|e_reg<|s_mv rfl<|s_mv rfl<|s_cS ent103 rfl rfl (idxf_text1 (s:=s) M)<|?_;clear M;rintro _ w M ⟨z1,rfl,hz1⟩
 refine s_gq rfl rfl<|s_as rfl<|e_nil<|e_tn<|e_ret<|e_fin1 rfl rfl<|?_
 exact ⟨M,_,rfl,by rw [decide_eq_true_iff,← hz1];omega⟩
theorem name1_spec {w:World} {x:Nat}:Calls Tryz.prog 105 #[.int .i32 (x:Int)] w (fun e w'=>e=.returned (.bool (badN x))∧∃ q,w' = w.drewN q):=by
 refine e_start (vs:=[_]) Tryz.func105 rfl (n:=17) rfl rfl<|e_seq<|e_reg<|s_as rfl<|e_nil<|e_tn<|e_seq<|e_reg<|s_mv rfl<|s_lt rfl rfl<|s_mv rfl<|?_
 rcases Bool.eq_false_or_eq_true (decide ((x:Int) < 97)) with hc | hc
 ·skip
  have h1b:=hc;clear hc
  have h1:(x:Int) < 97:=of_decide_eq_true h1b
  refine g_f rfl h1b<|g_f rfl h1b<|s_pt rfl h1b rfl<|s_mv rfl<|g_t rfl rfl<|s_mv rfl<|g_t rfl rfl<|s_lt rfl rfl<|g_t rfl rfl<|s_mv rfl<|?_
  rcases Bool.eq_false_or_eq_true (decide ((x:Int) < 48)) with hc | hc
  ·skip
   have h2b:=hc;clear hc
   have h2:(x:Int) < 48:=of_decide_eq_true h2b
   refine g_f rfl h2b<|g_f rfl h2b<|g_t rfl rfl<|s_pt rfl h2b rfl<|s_pt rfl rfl rfl<|s_as rfl<|e_nil<|e_tn<|e_ret<|e_fin1 rfl rfl<|?_
   exact ⟨by have h_:badN x=true:=(by unfold badN;first | (simp_all;omega) | simp_all);rw [h_],0,rfl⟩
  ·skip
   have h3b:=hc;clear hc
   have h3:¬ ((x:Int) < 48):=of_decide_eq_false h3b
   refine g_t rfl h3b<|s_mv rfl<|g_t rfl h3b<|s_gt rfl rfl<|g_t rfl rfl<|s_pf rfl h3b rfl<|s_pt rfl rfl rfl<|s_as rfl<|e_nil<|e_tn<|e_ret<|e_fin1 rfl rfl<|?_
   exact ⟨by have h_:badN x=(decide (57 < (x:Int))):=(by unfold badN;first | (simp_all;omega) | simp_all);rw [h_],0,rfl⟩
 ·skip
  have h4b:=hc;clear hc
  have h4:¬ ((x:Int) < 97):=of_decide_eq_false h4b
  refine g_t rfl h4b<|s_mv rfl<|g_t rfl h4b<|s_gt rfl rfl<|s_pf rfl h4b rfl<|s_mv rfl<|?_
  rcases Bool.eq_false_or_eq_true (decide (122 < (x:Int))) with hc | hc
  ·skip
   have h5b:=hc;clear hc
   have h5:122 < (x:Int):=of_decide_eq_true h5b
   refine g_t rfl h5b<|s_mv rfl<|g_t rfl h5b<|s_lt rfl rfl<|g_t rfl h5b<|s_mv rfl<|?_
   rcases Bool.eq_false_or_eq_true (decide ((x:Int) < 48)) with hc | hc
   ·skip
    have h6b:=hc;clear hc
    have h6:(x:Int) < 48:=of_decide_eq_true h6b
    refine g_f rfl h6b<|g_f rfl h6b<|g_t rfl h5b<|s_pt rfl h6b rfl<|s_pt rfl h5b rfl<|s_as rfl<|e_nil<|e_tn<|e_ret<|e_fin1 rfl rfl<|?_
    exact ⟨by have h_:badN x=true:=(by unfold badN;first | (simp_all;omega) | simp_all);rw [h_],0,rfl⟩
   ·skip
    have h7b:=hc;clear hc
    have h7:¬ ((x:Int) < 48):=of_decide_eq_false h7b
    refine g_t rfl h7b<|s_mv rfl<|g_t rfl h7b<|s_gt rfl rfl<|g_t rfl h5b<|s_pf rfl h7b rfl<|s_pt rfl h5b rfl<|s_as rfl<|e_nil<|e_tn<|e_ret<|e_fin1 rfl rfl<|?_
    exact ⟨by have h_:badN x=(decide (57 < (x:Int))):=(by unfold badN;first | (simp_all;omega) | simp_all);rw [h_],0,rfl⟩
  ·skip
   have h8b:=hc;clear hc
   have h8:¬ (122 < (x:Int)):=of_decide_eq_false h8b
   refine g_f rfl h8b<|g_f rfl h8b<|g_f rfl h8b<|g_u rfl<|g_u rfl<|g_f rfl h8b<|s_pf rfl h8b rfl<|s_as rfl<|e_nil<|e_tn<|e_ret<|e_fin1 rfl rfl<|?_
   exact ⟨by have h_:badN x=false:=(by unfold badN;first | (simp_all;omega) | simp_all);rw [h_],0,rfl⟩
theorem idxf_name1 {w0 w:World} {G:Ghost} {L:List Res} (M:Mem w0 G L w) {s:List UInt8}:Calls Tryz.prog 103 #[.string (str s),.func (.func 105) #[] #[]] w (RetS w0 G L fun v=>∃ z:Int,v=.int .i64 z∧(z < 0↔∀ c∈s,NameB c)):=by
 have hp:PredAt Tryz.prog 105 #[] encR badN w:=fun W x _=>(name1_spec (x:=x))
 refine (Any.strings_IndexFunc Tryz.laysGw15 105 #[] (Go.Proofs.enters_of Tryz.func105 (by kernel_rfl) rfl) badN (str s) w hp).mono ?_
 rintro e w' ⟨rfl,hb⟩
 exact ⟨M.below' hb,_,rfl,idx_name s⟩
theorem contf_name1 {w0 w:World} {G:Ghost} {L:List Res} (M:Mem w0 G L w) {s:List UInt8}:Calls Tryz.prog 48 #[.string (str s),.func (.func 105) #[] #[]] w (RetS w0 G L fun v=>∃ b:Bool,v=.bool b∧(b=true↔¬ ∀ c∈s,NameB c)):=by
 refine e_start (vs:=[_,_]) Tryz.func48 rfl (n:=9) rfl rfl<|e_seq<|e_reg<|s_as rfl<|e_nil<|e_tn<|e_seq<|e_reg<|s_mv rfl<|s_mv rfl<|s_cS ent103 rfl rfl (idxf_name1 (s:=s) M)<|?_;clear M;rintro _ w M ⟨z1,rfl,hz1⟩
 refine s_gq rfl rfl<|s_as rfl<|e_nil<|e_tn<|e_ret<|e_fin1 rfl rfl<|?_
 exact ⟨M,_,rfl,by rw [decide_eq_true_iff,← hz1];omega⟩
theorem name_spec {w0 w:World} {G:Ghost} {L:List Res} (M:Mem w0 G L w) {s:List UInt8} (hs:s.length≤9223372036854775807):Calls Tryz.prog 53 #[.string (str s)] w (RetS w0 G L fun v=>∃ b:Bool,v=.bool b∧(b=true↔Name s)):=by
 refine e_start (vs:=[_]) Tryz.func53 rfl (n:=17) rfl rfl<|e_seq<|e_reg<|s_as rfl<|e_nil<|e_tn<|e_seq<|e_reg<|s_as rfl<|e_nil<|e_tn<|e_seq<|?_
 have hs0:s=[]↔s.length=0:=by cases s <;> simp
 refine e_reg<|s_mv rfl<|s_sne rfl rfl<|s_mv rfl<|?_
 rcases Bool.eq_false_or_eq_true (!(decide (s=([]:List UInt8)))) with hc | hc
 ·skip
  have h1b:=hc;clear hc
  have h1:¬ (s=([]:List UInt8)):=of_decide_eq_false (of_not_t h1b)
  have h1c:(decide (s=([]:List UInt8)))=false:=(of_not_t h1b)
  refine g_t rfl (not_t h1c)<|s_mv rfl<|g_t rfl (not_t h1c)<|e_run (fun a F=>run_lenStr tok9.k (F.ev rfl)) rfl<|g_t rfl (not_t h1c)<|s_lq rfl rfl<|s_pt rfl (not_t h1c) rfl<|s_mv rfl<|?_
  rcases Bool.eq_false_or_eq_true (decide ((((s).length:Nat):Int)≤16)) with hc | hc
  ·skip
   have h2b:=hc;clear hc
   have h2:(((s).length:Nat):Int)≤16:=of_decide_eq_true h2b
   refine g_t rfl h2b<|s_mv rfl<|g_t rfl h2b<|s_mv rfl<|g_t rfl h2b<|s_cS ent48 rfl rfl (contf_name1 (s:=s) M)<|?_;clear M;rintro _ w M ⟨b3,rfl,hb3⟩
   refine g_t rfl h2b<|s_not rfl<|s_pt rfl h2b rfl<|s_as rfl<|e_nil<|e_tn<|e_ret<|e_fin1 rfl rfl<|?_
   exact ⟨M,(!(b3)),rfl,(by clear M;unfold Name;grind)⟩
  ·skip
   have h4b:=hc;clear hc
   have h4:¬ ((((s).length:Nat):Int)≤16):=of_decide_eq_false h4b
   refine g_f rfl h4b<|g_f rfl h4b<|g_f rfl h4b<|g_f rfl h4b<|s_pf rfl h4b rfl<|s_as rfl<|e_nil<|e_tn<|e_ret<|e_fin1 rfl rfl<|?_
   exact ⟨M,false,rfl,(by clear M;unfold Name;grind)⟩
 ·skip
  have h5b:=hc;clear hc
  have h5:s=([]:List UInt8):=of_decide_eq_true (of_not_f h5b)
  have h5c:(decide (s=([]:List UInt8)))=true:=(of_not_f h5b)
  refine g_f rfl (not_f h5c)<|g_f rfl (not_f h5c)<|g_f rfl (not_f h5c)<|s_pf rfl (not_f h5c) rfl<|s_mv rfl<|g_f rfl rfl<|g_f rfl rfl<|g_f rfl rfl<|g_f rfl rfl<|s_pf rfl rfl rfl<|s_as rfl<|e_nil<|e_tn<|e_ret<|e_fin1 rfl rfl<|?_
  exact ⟨M,false,rfl,(by clear M;unfold Name;grind)⟩
open Go Go.Y Go.Proofs
set_option linter.unusedSimpArgs false
set_option linter.unusedVariables false
theorem chk21_spec {w0 w:World} {G:Ghost} {L:List Res} (M:Mem w0 G L w) {s:List UInt8} (hs:s.length≤9223372036854775807):Calls Tryz.prog 52 #[.string (str s)] w (RetS w0 G L fun v=>∃ b:Bool,v=.bool b∧(b=true↔¬ Name s)):=by
 refine e_start (vs:=[_]) Tryz.func52 rfl (n:=6) rfl rfl<|e_seq<|e_reg<|s_as rfl<|e_nil<|e_tn<|e_seq<|e_reg<|s_mv rfl<|s_cS ent53 rfl rfl (name_spec (s:=s) M (by assumption))<|?_;clear M;rintro _ w M ⟨b1,rfl,hb1⟩
 refine s_not rfl<|s_as rfl<|e_nil<|e_tn<|e_ret<|e_fin1 rfl rfl<|?_
 exact ⟨M,(!(b1)),rfl,(by clear M;grind)⟩
theorem idxs_spec {w0 w:World} {G:Ghost} {L:List Res} (M:Mem w0 G L w) {ad:Option Addr} {cd:Nat} {xs:List (List UInt8)} (S:RdSl rdStr 1 G (.slice ad xs.length cd) xs):Calls Tryz.prog 104 #[.slice ad xs.length cd,.func (.func 52) #[] #[]] w (RetS w0 G L fun v=>∃ z:Int,v=.int .i64 z∧(0≤z↔¬ ∀ s∈xs,Name s)):=by
 have bS:=S.bound
 refine e_start (vs:=[_,_]) Tryz.func104 rfl (n:=19) rfl rfl<|e_seq<|e_reg<|s_as rfl<|e_nil<|e_tn<|e_seq<|e_seq<|e_reg<|s_mv rfl<|s_ls tok24.k rfl<|s_mv rfl<|e_nil<|e_tn<|e_block<|fun a F=>w_loopN (fun m a' w'=>∃ (i:Nat),m=xs.length - i∧Fits 19 a' [(0,.slice (ad) (xs.length) (cd)),(1,.func (.func 52) #[] #[]),(7,.int .i64 (((xs.length:Nat):Int))),(8,.int .i64 (((i:Nat):Int)))]∧Mem w0 G (L) w'∧(i≤xs.length)∧(∀ (m:Nat) (s:List UInt8),m < i→xs[m]?=some s→Name s)) _ ⟨0,rfl,F.to ⟨rfl,rfl,rfl,rfl,trivial⟩,M,Nat.zero_le _,fun m d h=>by omega⟩ ?_
 clear F M
 rintro m a w ⟨i,rfl,F,M,hi,hA⟩
 revert a
 refine e_seq<|e_reg<|s_lt rfl rfl<|e_nil<|e_tn<|e_seq<|e_cond rfl ?_ ?_
 ·intro hc
  have h1b:=hc;clear hc
  have h1:((i:Nat):Int) < ((xs.length:Nat):Int):=of_decide_eq_true h1b
  refine e_skip<|e_tn<|e_seq<|e_block<|e_seq<|e_reg<|s_mv rfl<|s_as rfl<|e_nil<|e_tn<|e_seq<|e_reg<|s_mv rfl<|s_mv rfl<|s_mv rfl<|?_
  obtain ⟨Xe2,hXe2⟩:=get_of_lt (xs:=xs) (i:=i) (by omega)
  obtain ⟨be2,oe2,_,Ie2,_,Ae2,⟨rfl,hsle2⟩⟩:=S.at hXe2
  refine s_ix tok24.k tok9 Ie2 rfl rfl<|s_la tok9 M Ae2 0 rfl rfl (by omega) rfl<|s_vS ent52 (caps:=[]) rfl rfl rfl (chk21_spec (s:=Xe2) M (by omega))<|?_;clear M;rintro _ w M ⟨b3,rfl,hb3⟩
  refine e_nil<|e_tn<|e_cond rfl ?_ ?_
  ·intro hc
   have h4b:=hc;clear hc
   have h4:(b3)=true:=h4b
   refine e_seq<|e_reg<|s_mv rfl<|s_as rfl<|e_nil<|e_tn<|e_ret<|e_br<|e_tr<|e_tr<|e_br<|e_tr<|e_fin1 rfl rfl<|?_
   exact ⟨M,_,rfl,⟨fun _ h_=>(hb3.1 (by assumption)) (h_ _ (List.mem_of_getElem? hXe2)),fun _=>by omega⟩⟩
  ·intro hc
   have h5b:=hc;clear hc
   have h5:(b3)=false:=h5b
   refine e_skip<|e_bn<|e_tn<|e_reg<|s_add rfl rfl<|s_mv rfl<|e_nil<|e_tn<|fun a F=>?_
   exact ⟨_,by omega,i+1,rfl,F.to ⟨rfl,rfl,rfl,rfl,trivial⟩,M,by omega,none_snoc hA hXe2 (by clear F M;grind)⟩
 ·intro hc
  have h6b:=hc;clear hc
  have h6:¬ (((i:Nat):Int) < ((xs.length:Nat):Int)):=of_decide_eq_false h6b
  refine e_exit<|e_te<|e_te<|e_bh<|e_tn<|e_seq<|e_reg<|s_as rfl<|e_nil<|e_tn<|e_ret<|e_fin1 rfl rfl<|?_
  exact ⟨M,_,rfl,⟨fun h=>by omega,fun h=>absurd (marks_all hA (by omega)) h⟩⟩
theorem conts_spec {w0 w:World} {G:Ghost} {L:List Res} (M:Mem w0 G L w) {ad:Option Addr} {cd:Nat} {xs:List (List UInt8)} (S:RdSl rdStr 1 G (.slice ad xs.length cd) xs):Calls Tryz.prog 51 #[.slice ad xs.length cd,.func (.func 52) #[] #[]] w (RetS w0 G L fun v=>∃ b:Bool,v=.bool b∧(b=true↔¬ ∀ s∈xs,Name s)):=by
 refine e_start (vs:=[_,_]) Tryz.func51 rfl (n:=9) rfl rfl<|e_seq<|e_reg<|s_as rfl<|e_nil<|e_tn<|e_seq<|e_reg<|s_mv rfl<|s_mv rfl<|s_cS ent104 rfl rfl (idxs_spec (xs:=xs) M S)<|?_;clear M;rintro _ w M ⟨z1,rfl,hz1⟩
 refine s_gq rfl rfl<|s_as rfl<|e_nil<|e_tn<|e_ret<|e_fin1 rfl rfl<|?_
 exact ⟨M,_,rfl,decide_eq_true_iff.trans hz1⟩
theorem chk1_spec {w0 w:World} {G:Ghost} {L:List Res} {b:Nat} {x:ItemD} {ma:Option Addr} {mc:Nat} (M:Mem w0 G (.blk b [.int .u64 (((x.key:Nat):Int)),.int .u8 (((x.typ:Nat):Int)),.string (str (x.text)),.slice (ma) (x.marks.length) (mc)] 26::L) w) (SM:RdSl rdStr 1 G (.slice ma x.marks.length mc) x.marks) :
  Calls Tryz.prog 47 #[.pointer (some ⟨b,0,none⟩)] w (RetS w0 G (.blk b [.int .u64 (((x.key:Nat):Int)),.int .u8 (((x.typ:Nat):Int)),.string (str (x.text)),.slice (ma) (x.marks.length) (mc)] 26::L) fun v=>∃ bb:Bool,v=.bool bb∧(bb=true↔Str x.text)):=by
 refine e_start (vs:=[_]) Tryz.func47 rfl (n:=12) rfl rfl<|e_seq<|e_reg<|s_as rfl<|e_nil<|e_tn<|e_seq<|e_reg<|s_fa tok26.k rfl rfl<|s_ld tok9 M 0 rfl rfl rfl rfl<|e_run (fun a F=>run_lenStr tok9.k (F.ev rfl)) rfl<|s_lq rfl rfl<|s_mv rfl<|?_
 rcases Bool.eq_false_or_eq_true (decide ((((x.text).length:Nat):Int)≤64)) with hc | hc
 ·skip
  have h1b:=hc;clear hc
  have h1:(((x.text).length:Nat):Int)≤64:=of_decide_eq_true h1b
  refine g_t rfl h1b<|s_fa tok26.k rfl rfl<|g_t rfl h1b<|s_ld tok9 M 0 rfl rfl rfl rfl<|g_t rfl h1b<|s_cS ent48 rfl rfl (contf_text1 (s:=x.text) M)<|?_;clear M;rintro _ w M ⟨b2,rfl,hb2⟩
  refine g_t rfl h1b<|s_not rfl<|s_pt rfl h1b rfl<|s_as rfl<|e_nil<|e_tn<|e_ret<|e_fin1 rfl rfl<|?_
  exact ⟨M,(!(b2)),rfl,(by clear M;unfold Str;grind)⟩
 ·skip
  have h3b:=hc;clear hc
  have h3:¬ ((((x.text).length:Nat):Int)≤64):=of_decide_eq_false h3b
  refine g_f rfl h3b<|g_f rfl h3b<|g_f rfl h3b<|g_f rfl h3b<|s_pf rfl h3b rfl<|s_as rfl<|e_nil<|e_tn<|e_ret<|e_fin1 rfl rfl<|?_
  exact ⟨M,false,rfl,(by clear M;unfold Str;grind)⟩
theorem chk2_spec {w0 w:World} {G:Ghost} {L:List Res} {b:Nat} {x:ItemD} {ma:Option Addr} {mc:Nat} (M:Mem w0 G (.blk b [.int .u64 (((x.key:Nat):Int)),.int .u8 (((x.typ:Nat):Int)),.string (str (x.text)),.slice (ma) (x.marks.length) (mc)] 26::L) w) (SM:RdSl rdStr 1 G (.slice ma x.marks.length mc) x.marks) :
  Calls Tryz.prog 50 #[.pointer (some ⟨b,0,none⟩)] w (RetS w0 G (.blk b [.int .u64 (((x.key:Nat):Int)),.int .u8 (((x.typ:Nat):Int)),.string (str (x.text)),.slice (ma) (x.marks.length) (mc)] 26::L) fun v=>∃ bb:Bool,v=.bool bb∧(bb=true↔(x.marks.length≤8∧∀ s∈x.marks,Name s))):=by
 refine e_start (vs:=[_]) Tryz.func50 rfl (n:=12) rfl rfl<|e_seq<|e_reg<|s_as rfl<|e_nil<|e_tn<|e_seq<|e_reg<|s_fa tok26.k rfl rfl<|s_ld tok24 M 0 rfl rfl rfl rfl<|s_ls tok24.k rfl<|s_lq rfl rfl<|s_mv rfl<|?_
 rcases Bool.eq_false_or_eq_true (decide (((x.marks.length:Nat):Int)≤8)) with hc | hc
 ·skip
  have h1b:=hc;clear hc
  have h1:((x.marks.length:Nat):Int)≤8:=of_decide_eq_true h1b
  refine g_t rfl h1b<|s_fa tok26.k rfl rfl<|g_t rfl h1b<|s_ld tok24 M 0 rfl rfl rfl rfl<|g_t rfl h1b<|s_cS ent51 rfl rfl (conts_spec (xs:=x.marks) M SM)<|?_;clear M;rintro _ w M ⟨b2,rfl,hb2⟩
  refine g_t rfl h1b<|s_not rfl<|s_pt rfl h1b rfl<|s_as rfl<|e_nil<|e_tn<|e_ret<|e_fin1 rfl rfl<|?_
  exact ⟨M,(!(b2)),rfl,(by clear M;grind)⟩
 ·skip
  have h3b:=hc;clear hc
  have h3:¬ (((x.marks.length:Nat):Int)≤8):=of_decide_eq_false h3b
  refine g_f rfl h3b<|g_f rfl h3b<|g_f rfl h3b<|g_f rfl h3b<|s_pf rfl h3b rfl<|s_as rfl<|e_nil<|e_tn<|e_ret<|e_fin1 rfl rfl<|?_
  exact ⟨M,false,rfl,(by clear M;grind)⟩
theorem check_spec {w0 w:World} {G:Ghost} {L:List Res} (M:Mem w0 G L w) {x:ItemD} {ma:Option Addr} {mc:Nat} (hI:(x.key < 18446744073709551616∧x.typ < 256∧x.text.length≤9223372036854775807)) (SM:RdSl rdStr 1 G (.slice ma x.marks.length mc) x.marks) {t:Int}:Calls Tryz.prog 14 #[.agg #[.int .u64 (((x.key:Nat):Int)),.int .u8 (((x.typ:Nat):Int)),.string (str (x.text)),.slice (ma) (x.marks.length) (mc)],.int .i64 t] w (RetS w0 G L fun v=>v=.int .i64 (itmF t x)):=by
 refine e_start (vs:=[_,_]) Tryz.func14 rfl (n:=29) rfl rfl<|e_seq<|?_
 obtain ⟨hI1,hI2,hI3⟩:=hI
 refine e_reg<|s_bx M rfl rfl rfl<|?_;clear M;intro b1 w M
 refine s_as rfl<|e_nil<|e_tn<|e_seq<|e_reg<|e_run (fun a F=>run_makeFunc (vs:=#[.pointer (some ⟨b1,0,none⟩)]) (by simp only [List.map_toArray,List.map_cons,List.map_nil,F.ev (x:=.tmp 2) rfl])) rfl<|s_as rfl<|e_nil<|e_tn<|e_seq<|e_reg<|e_run (fun a F=>run_makeFunc (vs:=#[.pointer (some ⟨b1,0,none⟩)]) (by simp only [List.map_toArray,List.map_cons,List.map_nil,F.ev (x:=.tmp 2) rfl])) rfl<|s_as rfl<|e_nil<|e_tn<|e_seq<|e_seq<|e_reg<|s_fa tok26.k rfl rfl<|s_ld tok23 M 0 rfl rfl rfl rfl<|s_eq rfl rfl<|s_mv rfl<|?_
 rcases Bool.eq_false_or_eq_true (decide (((x.key:Nat):Int)=0)) with hc | hc
 ·skip
  have h2b:=hc;clear hc
  have h2:((x.key:Nat):Int)=0:=of_decide_eq_true h2b
  refine g_f rfl h2b<|g_f rfl h2b<|g_f rfl h2b<|g_f rfl h2b<|g_f rfl h2b<|s_pt rfl h2b rfl<|s_mv rfl<|g_f rfl rfl<|g_f rfl rfl<|g_f rfl rfl<|s_pt rfl rfl rfl<|s_mv rfl<|g_f rfl rfl<|g_f rfl rfl<|g_f rfl rfl<|s_pt rfl rfl rfl<|e_nil<|e_tn<|e_cond_t rfl rfl<|e_seq<|e_reg<|s_as rfl<|e_nil<|e_tn<|?_
  refine e_ret<|e_tr<|e_fin1 rfl rfl<|?_
  exact ⟨M.weaken (.cons _ (List.Sublist.refl _)),by rw [itmF_no (by clear M;unfold ItemOk;grind)]⟩
 ·skip
  have h3b:=hc;clear hc
  have h3:¬ (((x.key:Nat):Int)=0):=of_decide_eq_false h3b
  refine g_t rfl h3b<|s_fa tok26.k rfl rfl<|g_t rfl h3b<|s_ld tok5 M 0 rfl rfl rfl rfl<|g_t rfl h3b<|e_run (fun a F=>run_conv_int tok3.k ⟨_,by rw [under_int tok5.k]⟩ (F.ev rfl) (in_i64 (by omega) (by omega))) rfl<|g_t rfl h3b<|s_mv rfl<|g_t rfl h3b<|s_gq rfl rfl<|s_pf rfl h3b rfl<|s_mv rfl<|?_
  rcases Bool.eq_false_or_eq_true (decide (t≤((x.typ:Nat):Int))) with hc | hc
  ·skip
   have h4b:=hc;clear hc
   have h4:t≤((x.typ:Nat):Int):=of_decide_eq_true h4b
   refine g_f rfl h4b<|g_f rfl h4b<|g_f rfl h4b<|s_pt rfl h4b rfl<|s_mv rfl<|g_f rfl rfl<|g_f rfl rfl<|g_f rfl rfl<|s_pt rfl rfl rfl<|e_nil<|e_tn<|e_cond_t rfl rfl<|e_seq<|e_reg<|s_as rfl<|e_nil<|e_tn<|e_ret<|e_tr<|e_fin1 rfl rfl<|?_
   exact ⟨M.weaken (.cons _ (List.Sublist.refl _)),by rw [itmF_no (by clear M;unfold ItemOk;grind)]⟩
  ·skip
   have h5b:=hc;clear hc
   have h5:¬ (t≤((x.typ:Nat):Int)):=of_decide_eq_false h5b
   refine g_t rfl h5b<|s_mv rfl<|g_t rfl h5b<|?_
   change Mem w0 G (_::L) _ at M
   refine s_vS ent47 (caps:=[.pointer (some ⟨b1,0,none⟩)]) rfl rfl rfl (chk1_spec (x:=x) M SM)<|?_;clear M;rintro _ w M ⟨b6,rfl,hb6⟩
   refine g_t rfl h5b<|s_not rfl<|s_pf rfl h5b rfl<|s_mv rfl<|?_
   rcases Bool.eq_false_or_eq_true (!(b6)) with hc | hc
   ·skip
    have h7b:=hc;clear hc
    have h7:(b6)=false:=(of_not_t h7b)
    have h7c:(b6)=false:=(of_not_t h7b)
    refine g_f rfl (not_t h7c)<|g_f rfl (not_t h7c)<|g_f rfl (not_t h7c)<|s_pt rfl (not_t h7c) rfl<|e_nil<|e_tn<|e_cond_t rfl rfl<|e_seq<|e_reg<|s_as rfl<|e_nil<|e_tn<|e_ret<|e_tr<|e_fin1 rfl rfl<|?_
    exact ⟨M.weaken (.cons _ (List.Sublist.refl _)),by rw [itmF_no (by clear M;unfold ItemOk;grind)]⟩
   ·skip
    have h8b:=hc;clear hc
    have h8:(b6)=true:=(of_not_f h8b)
    have h8c:(b6)=true:=(of_not_f h8b)
    refine g_t rfl (not_f h8c)<|s_mv rfl<|g_t rfl (not_f h8c)<|?_
    change Mem w0 G (_::L) _ at M
    refine s_vS ent50 (caps:=[.pointer (some ⟨b1,0,none⟩)]) rfl rfl rfl (chk2_spec (x:=x) M SM)<|?_;clear M;rintro _ w M ⟨b9,rfl,hb9⟩
    refine g_t rfl (not_f h8c)<|s_not rfl<|s_pf rfl (not_f h8c) rfl<|e_nil<|e_tn<|e_cond rfl ?_ ?_
    ·intro hc
     have h10b:=hc;clear hc
     have h10:(b9)=false:=(of_not_t h10b)
     have h10c:(b9)=false:=(of_not_t h10b)
     refine e_seq<|e_reg<|s_as rfl<|e_nil<|e_tn<|e_ret<|e_tr<|e_fin1 rfl rfl<|?_
     exact ⟨M.weaken (.cons _ (List.Sublist.refl _)),by rw [itmF_no (by clear M;unfold ItemOk;grind)]⟩
    ·intro hc
     have h11b:=hc;clear hc
     have h11:(b9)=true:=(of_not_f h11b)
     have h11c:(b9)=true:=(of_not_f h11b)
     refine e_skip<|e_tn<|e_seq<|e_reg<|s_as rfl<|e_nil<|e_tn<|e_ret<|e_fin1 rfl rfl<|?_
     exact ⟨M.weaken (.cons _ (List.Sublist.refl _)),by rw [itmF_yes (by first | (clear M;unfold ItemOk;grind) | exact ⟨by omega,by omega,by clear M;grind,by omega,marks_all hA (by omega)⟩)]⟩
open Go Go.Y Go.Proofs
set_option linter.unusedSimpArgs false
set_option linter.unusedVariables false
theorem eqs_spec {w0 w:World} {G:Ghost} {L:List Res} (M:Mem w0 G L w) {a1 a2:Option Addr} {c1 c2:Nat} {xs ys:List (List UInt8)} (S:RdSl rdStr 1 G (.slice a1 xs.length c1) xs) (T:RdSl rdStr 1 G (.slice a2 ys.length c2) ys):Calls Tryz.prog 141 #[.slice a1 xs.length c1,.slice a2 ys.length c2] w (RetS w0 G L fun v=>∃ b:Bool,v=.bool b∧(b=true↔xs=ys)):=by
 have bS:=S.bound
 have bT:=T.bound
 refine e_start (vs:=[_,_]) Tryz.func141 rfl (n:=26) rfl rfl<|e_seq<|e_reg<|s_as rfl<|e_nil<|e_tn<|e_seq<|e_seq<|e_reg<|s_mv rfl<|s_ls tok24.k rfl<|s_mv rfl<|s_ls tok24.k rfl<|s_ne rfl rfl<|e_nil<|e_tn<|e_cond rfl ?_ ?_
 ·intro hc
  have h1b:=hc;clear hc
  have h1:¬ (((xs.length:Nat):Int)=((ys.length:Nat):Int)):=of_decide_eq_false (of_not_t h1b)
  have h1c:(decide (((xs.length:Nat):Int)=((ys.length:Nat):Int)))=false:=(of_not_t h1b)
  refine e_seq<|e_reg<|s_as rfl<|e_nil<|e_tn<|e_ret<|e_tr<|e_fin1 rfl rfl<|?_
  exact ⟨M,false,rfl,⟨fun h_=>(by cases h_),fun h_=>absurd (congrArg List.length h_) (by omega)⟩⟩
 ·intro hc
  have h2b:=hc;clear hc
  have h2:((xs.length:Nat):Int)=((ys.length:Nat):Int):=of_decide_eq_true (of_not_f h2b)
  have h2c:(decide (((xs.length:Nat):Int)=((ys.length:Nat):Int)))=true:=(of_not_f h2b)
  refine e_skip<|e_tn<|e_seq<|e_seq<|e_reg<|s_mv rfl<|s_ls tok24.k rfl<|s_mv rfl<|e_nil<|e_tn<|e_block<|fun a F=>w_loopN (fun m a' w'=>∃ (i:Nat),m=xs.length - i∧Fits 26 a' [(0,.slice (a1) (xs.length) (c1)),(1,.slice (a2) (ys.length) (c2)),(12,.int .i64 (((xs.length:Nat):Int))),(13,.int .i64 (((i:Nat):Int)))]∧Mem w0 G (L) w'∧(i≤xs.length)∧(∀ m,m < i→xs[m]?=ys[m]?)) _ ⟨0,rfl,F.to ⟨rfl,rfl,rfl,rfl,trivial⟩,M,Nat.zero_le _,fun m h=>by omega⟩ ?_
  clear F M
  rintro m a w ⟨i,rfl,F,M,hi,hA⟩
  revert a
  refine e_seq<|e_reg<|s_lt rfl rfl<|e_nil<|e_tn<|e_seq<|e_cond rfl ?_ ?_
  ·intro hc
   have h3b:=hc;clear hc
   have h3:((i:Nat):Int) < ((xs.length:Nat):Int):=of_decide_eq_true h3b
   refine e_skip<|e_tn<|e_seq<|e_block<|e_seq<|e_reg<|s_mv rfl<|s_as rfl<|e_nil<|e_tn<|e_seq<|fun a F=>w_plan [(true,0),(true,1),(true,2),(true,3),(true,4),(true,5),(true,6),(true,7),(true,8)] (Keep G []) rfl (by kernel_rfl) (fun c a d v w h=>by cases d <;> exact h) ((M.drew _).keep (Gle.refl _) (by simp)) ?_
   replace M:=M.drew (w.drawn+1)
   revert a
   refine l_r (fun a F w M=>x_mv F rfl) rfl<|l_r (fun a F w M=>x_mv F rfl) rfl<|?_
   obtain ⟨Xe4,hXe4⟩:=get_of_lt (xs:=xs) (i:=i) (by omega)
   obtain ⟨be4,oe4,_,Ie4,_,Ae4,⟨rfl,hsle4⟩⟩:=S.at hXe4
   refine l_r (fun a F w M=>run_indexI tok24.k tok9 (F.ev rfl) (F.ev rfl) (by omega) Ie4) rfl<|l_r (fun a F w M=>run_load1 (agf tok9 rfl) (F.ev rfl) (M.cellA Ae4 0 (by omega) rfl)) rfl<|l_r (fun a F w M=>x_mv F rfl) rfl<|l_r (fun a F w M=>x_mv F rfl) rfl<|?_
   obtain ⟨Xe5,hXe5⟩:=get_of_lt (xs:=ys) (i:=i) (by omega)
   obtain ⟨be5,oe5,_,Ie5,_,Ae5,⟨rfl,hsle5⟩⟩:=T.at hXe5
   refine l_r (fun a F w M=>run_indexI tok24.k tok9 (F.ev rfl) (F.ev rfl) (by omega) Ie5) rfl<|l_r (fun a F w M=>run_load1 (agf tok9 rfl) (F.ev rfl) (M.cellA Ae5 0 (by omega) rfl)) rfl<|l_r (fun a F w M=>run_strNe (F.ev rfl) (F.ev rfl)) rfl<|l_nil<|?_
   generalize ({ w with drawn:=w.drawn+1 }:World)=w at M ⊢
   refine e_tn<|e_cond rfl ?_ ?_
   ·intro hc
    have h6b:=hc;clear hc
    have h6:¬ (Xe4=Xe5):=of_decide_eq_false (of_not_t h6b)
    have h6c:(decide (Xe4=Xe5))=false:=(of_not_t h6b)
    refine e_seq<|e_reg<|s_as rfl<|e_nil<|e_tn<|e_ret<|e_br<|e_tr<|e_tr<|e_br<|e_tr<|e_fin1 rfl rfl<|?_
    exact ⟨M,false,rfl,⟨fun h_=>(by cases h_),fun h_=>absurd h_ (ne_of_get hXe4 hXe5 (by assumption))⟩⟩
   ·intro hc
    have h7b:=hc;clear hc
    have h7:Xe4=Xe5:=of_decide_eq_true (of_not_f h7b)
    have h7c:(decide (Xe4=Xe5))=true:=(of_not_f h7b)
    refine e_skip<|e_bn<|e_tn<|e_reg<|s_add rfl rfl<|s_mv rfl<|e_nil<|e_tn<|fun a F=>?_
    exact ⟨_,by omega,i+1,rfl,F.to ⟨rfl,rfl,rfl,rfl,trivial⟩,M,by omega,eq_step hA hXe4 hXe5 (by assumption)⟩
  ·intro hc
   have h8b:=hc;clear hc
   have h8:¬ (((i:Nat):Int) < ((xs.length:Nat):Int)):=of_decide_eq_false h8b
   refine e_exit<|e_te<|e_te<|e_bh<|e_tn<|e_seq<|e_reg<|s_as rfl<|e_nil<|e_tn<|e_ret<|e_fin1 rfl rfl<|?_
   exact ⟨M,true,rfl,⟨fun _=>eq_end hA (by omega) (by omega),fun _=>rfl⟩⟩
theorem same_spec {w0 w:World} {G:Ghost} {L:List Res} (M:Mem w0 G L w) {x:ItemD} {max:Option Addr} {mcx:Nat} (hIx:(x.key < 18446744073709551616∧x.typ < 256∧x.text.length≤9223372036854775807)) (SMx:RdSl rdStr 1 G (.slice max x.marks.length mcx) x.marks) {y:ItemD} {may:Option Addr} {mcy:Nat} (hIy:(y.key < 18446744073709551616∧y.typ < 256∧y.text.length≤9223372036854775807)) (SMy:RdSl rdStr 1 G (.slice may y.marks.length mcy) y.marks):Calls Tryz.prog 95 #[.agg #[.int .u64 (((x.key:Nat):Int)),.int .u8 (((x.typ:Nat):Int)),.string (str (x.text)),.slice (max) (x.marks.length) (mcx)],.agg #[.int .u64 (((y.key:Nat):Int)),.int .u8 (((y.typ:Nat):Int)),.string (str (y.text)),.slice (may) (y.marks.length) (mcy)]] w (RetS w0 G L fun v=>∃ b:Bool,v=.bool b∧(b=true↔x=y)):=by
 refine e_start (vs:=[_,_]) Tryz.func95 rfl (n:=31) rfl rfl<|e_seq<|e_reg<|s_bx M rfl rfl rfl<|?_;clear M;intro b1 w M
 refine s_bx M rfl rfl rfl<|?_;clear M;intro b2 w M
 refine s_as rfl<|e_nil<|e_tn<|e_seq<|e_reg<|s_fa tok26.k rfl rfl<|s_ld tok23 M 1 rfl rfl rfl rfl<|s_fa tok26.k rfl rfl<|s_ld tok23 M 0 rfl rfl rfl rfl<|s_eq rfl rfl<|s_mv rfl<|?_
 rcases Bool.eq_false_or_eq_true (decide (((x.key:Nat):Int)=((y.key:Nat):Int))) with hc | hc
 ·skip
  have h3b:=hc;clear hc
  have h3:((x.key:Nat):Int)=((y.key:Nat):Int):=of_decide_eq_true h3b
  refine g_t rfl h3b<|s_fa tok26.k rfl rfl<|g_t rfl h3b<|s_ld tok5 M 1 rfl rfl rfl rfl<|g_t rfl h3b<|s_fa tok26.k rfl rfl<|g_t rfl h3b<|s_ld tok5 M 0 rfl rfl rfl rfl<|g_t rfl h3b<|s_eq rfl rfl<|s_pt rfl h3b rfl<|s_mv rfl<|?_
  rcases Bool.eq_false_or_eq_true (decide (((x.typ:Nat):Int)=((y.typ:Nat):Int))) with hc | hc
  ·skip
   have h4b:=hc;clear hc
   have h4:((x.typ:Nat):Int)=((y.typ:Nat):Int):=of_decide_eq_true h4b
   refine g_t rfl h4b<|s_fa tok26.k rfl rfl<|g_t rfl h4b<|s_ld tok9 M 1 rfl rfl rfl rfl<|g_t rfl h4b<|s_fa tok26.k rfl rfl<|g_t rfl h4b<|s_ld tok9 M 0 rfl rfl rfl rfl<|g_t rfl h4b<|s_seq rfl rfl<|s_pt rfl h4b rfl<|s_mv rfl<|?_
   rcases Bool.eq_false_or_eq_true (decide (x.text=y.text)) with hc | hc
   ·skip
    have h5b:=hc;clear hc
    have h5:x.text=y.text:=of_decide_eq_true h5b
    refine g_t rfl h5b<|s_fa tok26.k rfl rfl<|g_t rfl h5b<|s_ld tok24 M 1 rfl rfl rfl rfl<|g_t rfl h5b<|s_fa tok26.k rfl rfl<|g_t rfl h5b<|s_ld tok24 M 0 rfl rfl rfl rfl<|g_t rfl h5b<|s_cS ent141 rfl rfl (eqs_spec (xs:=x.marks) (ys:=y.marks) M SMx SMy)<|?_;clear M;rintro _ w M ⟨b6,rfl,hb6⟩
    refine s_pt rfl h5b rfl<|s_as rfl<|e_nil<|e_tn<|e_ret<|e_fin1 rfl rfl<|?_
    exact ⟨M.weaken (.cons _ (.cons _ (List.Sublist.refl _))),(b6),rfl,⟨fun h_=>(by first | (cases h_;done) | exact item_ext (by omega) (by omega) (by assumption) (hb6.1 h_)),fun h_=>(by subst h_;clear M;grind)⟩⟩
   ·skip
    have h7b:=hc;clear hc
    have h7:¬ (x.text=y.text):=of_decide_eq_false h7b
    refine g_f rfl h7b<|g_f rfl h7b<|g_f rfl h7b<|g_f rfl h7b<|g_f rfl h7b<|s_pf rfl h7b rfl<|s_as rfl<|e_nil<|e_tn<|e_ret<|e_fin1 rfl rfl<|?_
    exact ⟨M.weaken (.cons _ (.cons _ (List.Sublist.refl _))),false,rfl,⟨fun h_=>(by first | (cases h_;done) | exact item_ext (by omega) (by omega) (by assumption) (h0.1 h_)),fun h_=>(by subst h_;clear M;grind)⟩⟩
  ·skip
   have h8b:=hc;clear hc
   have h8:¬ (((x.typ:Nat):Int)=((y.typ:Nat):Int)):=of_decide_eq_false h8b
   refine g_f rfl h8b<|g_f rfl h8b<|g_f rfl h8b<|g_f rfl h8b<|g_f rfl h8b<|s_pf rfl h8b rfl<|s_mv rfl<|g_f rfl rfl<|g_f rfl rfl<|g_f rfl rfl<|g_f rfl rfl<|g_f rfl rfl<|s_pf rfl rfl rfl<|s_as rfl<|e_nil<|e_tn<|e_ret<|e_fin1 rfl rfl<|?_
   exact ⟨M.weaken (.cons _ (.cons _ (List.Sublist.refl _))),false,rfl,⟨fun h_=>(by first | (cases h_;done) | exact item_ext (by omega) (by omega) (by assumption) (h0.1 h_)),fun h_=>(by subst h_;clear M;grind)⟩⟩
 ·skip
  have h9b:=hc;clear hc
  have h9:¬ (((x.key:Nat):Int)=((y.key:Nat):Int)):=of_decide_eq_false h9b
  refine g_f rfl h9b<|g_f rfl h9b<|g_f rfl h9b<|g_f rfl h9b<|g_f rfl h9b<|s_pf rfl h9b rfl<|s_mv rfl<|g_f rfl rfl<|g_f rfl rfl<|g_f rfl rfl<|g_f rfl rfl<|g_f rfl rfl<|s_pf rfl rfl rfl<|s_mv rfl<|g_f rfl rfl<|g_f rfl rfl<|g_f rfl rfl<|g_f rfl rfl<|g_f rfl rfl<|s_pf rfl rfl rfl<|s_as rfl<|e_nil<|e_tn<|e_ret<|?_
  refine e_fin1 rfl rfl<|?_
  exact ⟨M.weaken (.cons _ (.cons _ (List.Sublist.refl _))),false,rfl,⟨fun h_=>(by first | (cases h_;done) | exact item_ext (by omega) (by omega) (by assumption) (h0.1 h_)),fun h_=>(by subst h_;clear M;grind)⟩⟩
theorem rsame_spec {w0 w:World} {G:Ghost} {L:List Res} (M:Mem w0 G L w) {x:ItemD} {max:Option Addr} {mcx:Nat} (hIx:(x.key < 18446744073709551616∧x.typ < 256∧x.text.length≤9223372036854775807)) (SMx:RdSl rdStr 1 G (.slice max x.marks.length mcx) x.marks) {y:ItemD} {may:Option Addr} {mcy:Nat} (hIy:(y.key < 18446744073709551616∧y.typ < 256∧y.text.length≤9223372036854775807)) (SMy:RdSl rdStr 1 G (.slice may y.marks.length mcy) y.marks):Calls Tryz.prog 46 #[.agg #[.int .u64 (((x.key:Nat):Int)),.int .u8 (((x.typ:Nat):Int)),.string (str (x.text)),.slice (max) (x.marks.length) (mcx)],.agg #[.int .u64 (((y.key:Nat):Int)),.int .u8 (((y.typ:Nat):Int)),.string (str (y.text)),.slice (may) (y.marks.length) (mcy)]] w (RetS w0 G L fun v=>v=.int .i64 (if x=y then (1:Int) else 0)):=by
 refine e_start (vs:=[_,_]) Tryz.func46 rfl (n:=52) rfl rfl<|e_seq<|e_reg<|s_bx M rfl rfl rfl<|?_;clear M;intro b1 w M
 refine s_bx M rfl rfl rfl<|?_;clear M;intro b2 w M
 refine s_as rfl<|e_nil<|e_tn<|e_seq<|e_seq<|?_
 have bSM:=SMx.bound
 refine e_reg<|s_fa tok26.k rfl rfl<|s_ld tok23 M 1 rfl rfl rfl rfl<|s_fa tok26.k rfl rfl<|s_ld tok23 M 0 rfl rfl rfl rfl<|s_ne rfl rfl<|s_mv rfl<|?_
 rcases Bool.eq_false_or_eq_true (!(decide (((x.key:Nat):Int)=((y.key:Nat):Int)))) with hc | hc
 ·skip
  have h3b:=hc;clear hc
  have h3:¬ (((x.key:Nat):Int)=((y.key:Nat):Int)):=of_decide_eq_false (of_not_t h3b)
  have h3c:(decide (((x.key:Nat):Int)=((y.key:Nat):Int)))=false:=(of_not_t h3b)
  refine g_f rfl (not_t h3c)<|g_f rfl (not_t h3c)<|g_f rfl (not_t h3c)<|g_f rfl (not_t h3c)<|g_f rfl (not_t h3c)<|s_pt rfl (not_t h3c) rfl<|s_mv rfl<|g_f rfl rfl<|g_f rfl rfl<|g_f rfl rfl<|g_f rfl rfl<|g_f rfl rfl<|s_pt rfl rfl rfl<|s_mv rfl<|g_f rfl rfl<|g_f rfl rfl<|g_f rfl rfl<|g_f rfl rfl<|g_f rfl rfl<|g_f rfl rfl<|g_f rfl rfl<|s_pt rfl rfl rfl<|e_nil<|e_tn<|?_
  refine e_cond_t rfl rfl<|e_seq<|e_reg<|s_as rfl<|e_nil<|e_tn<|e_ret<|e_tr<|e_fin1 rfl rfl<|?_
  exact ⟨M.weaken (.cons _ (.cons _ (List.Sublist.refl _))),by rw [if_neg (fun h_=>by subst h_;clear M;grind)]⟩
 ·skip
  have h4b:=hc;clear hc
  have h4:((x.key:Nat):Int)=((y.key:Nat):Int):=of_decide_eq_true (of_not_f h4b)
  have h4c:(decide (((x.key:Nat):Int)=((y.key:Nat):Int)))=true:=(of_not_f h4b)
  refine g_t rfl (not_f h4c)<|s_fa tok26.k rfl rfl<|g_t rfl (not_f h4c)<|s_ld tok5 M 1 rfl rfl rfl rfl<|g_t rfl (not_f h4c)<|s_fa tok26.k rfl rfl<|g_t rfl (not_f h4c)<|s_ld tok5 M 0 rfl rfl rfl rfl<|g_t rfl (not_f h4c)<|s_ne rfl rfl<|s_pf rfl (not_f h4c) rfl<|s_mv rfl<|?_
  rcases Bool.eq_false_or_eq_true (!(decide (((x.typ:Nat):Int)=((y.typ:Nat):Int)))) with hc | hc
  ·skip
   have h5b:=hc;clear hc
   have h5:¬ (((x.typ:Nat):Int)=((y.typ:Nat):Int)):=of_decide_eq_false (of_not_t h5b)
   have h5c:(decide (((x.typ:Nat):Int)=((y.typ:Nat):Int)))=false:=(of_not_t h5b)
   refine g_f rfl (not_t h5c)<|g_f rfl (not_t h5c)<|g_f rfl (not_t h5c)<|g_f rfl (not_t h5c)<|g_f rfl (not_t h5c)<|s_pt rfl (not_t h5c) rfl<|s_mv rfl<|g_f rfl rfl<|g_f rfl rfl<|g_f rfl rfl<|g_f rfl rfl<|g_f rfl rfl<|g_f rfl rfl<|g_f rfl rfl<|s_pt rfl rfl rfl<|e_nil<|e_tn<|e_cond_t rfl rfl<|e_seq<|e_reg<|s_as rfl<|e_nil<|e_tn<|e_ret<|?_
   refine e_tr<|e_fin1 rfl rfl<|?_
   exact ⟨M.weaken (.cons _ (.cons _ (List.Sublist.refl _))),by rw [if_neg (fun h_=>by subst h_;clear M;grind)]⟩
  ·skip
   have h6b:=hc;clear hc
   have h6:((x.typ:Nat):Int)=((y.typ:Nat):Int):=of_decide_eq_true (of_not_f h6b)
   have h6c:(decide (((x.typ:Nat):Int)=((y.typ:Nat):Int)))=true:=(of_not_f h6b)
   refine g_t rfl (not_f h6c)<|s_fa tok26.k rfl rfl<|g_t rfl (not_f h6c)<|s_ld tok9 M 1 rfl rfl rfl rfl<|g_t rfl (not_f h6c)<|s_fa tok26.k rfl rfl<|g_t rfl (not_f h6c)<|s_ld tok9 M 0 rfl rfl rfl rfl<|g_t rfl (not_f h6c)<|s_sne rfl rfl<|s_pf rfl (not_f h6c) rfl<|s_mv rfl<|?_
   rcases Bool.eq_false_or_eq_true (!(decide (x.text=y.text))) with hc | hc
   ·skip
    have h7b:=hc;clear hc
    have h7:¬ (x.text=y.text):=of_decide_eq_false (of_not_t h7b)
    have h7c:(decide (x.text=y.text))=false:=(of_not_t h7b)
    refine g_f rfl (not_t h7c)<|g_f rfl (not_t h7c)<|g_f rfl (not_t h7c)<|g_f rfl (not_t h7c)<|g_f rfl (not_t h7c)<|g_f rfl (not_t h7c)<|g_f rfl (not_t h7c)<|s_pt rfl (not_t h7c) rfl<|e_nil<|e_tn<|e_cond_t rfl rfl<|e_seq<|e_reg<|s_as rfl<|e_nil<|e_tn<|e_ret<|e_tr<|e_fin1 rfl rfl<|?_
    exact ⟨M.weaken (.cons _ (.cons _ (List.Sublist.refl _))),by rw [if_neg (fun h_=>by subst h_;clear M;grind)]⟩
   ·skip
    have h8b:=hc;clear hc
    have h8:x.text=y.text:=of_decide_eq_true (of_not_f h8b)
    have h8c:(decide (x.text=y.text))=true:=(of_not_f h8b)
    refine g_t rfl (not_f h8c)<|s_fa tok26.k rfl rfl<|g_t rfl (not_f h8c)<|s_ld tok24 M 1 rfl rfl rfl rfl<|g_t rfl (not_f h8c)<|s_ls tok24.k rfl<|g_t rfl (not_f h8c)<|s_fa tok26.k rfl rfl<|g_t rfl (not_f h8c)<|s_ld tok24 M 0 rfl rfl rfl rfl<|g_t rfl (not_f h8c)<|s_ls tok24.k rfl<|g_t rfl (not_f h8c)<|s_ne rfl rfl<|s_pf rfl (not_f h8c) rfl<|e_nil<|e_tn<|e_cond rfl ?_ ?_
    ·intro hc
     have h9b:=hc;clear hc
     have h9:¬ (((x.marks.length:Nat):Int)=((y.marks.length:Nat):Int)):=of_decide_eq_false (of_not_t h9b)
     have h9c:(decide (((x.marks.length:Nat):Int)=((y.marks.length:Nat):Int)))=false:=(of_not_t h9b)
     refine e_seq<|e_reg<|s_as rfl<|e_nil<|e_tn<|e_ret<|e_tr<|e_fin1 rfl rfl<|?_
     exact ⟨M.weaken (.cons _ (.cons _ (List.Sublist.refl _))),by rw [if_neg (fun h_=>by subst h_;clear M;grind)]⟩
    ·intro hc
     have h10b:=hc;clear hc
     have h10:((x.marks.length:Nat):Int)=((y.marks.length:Nat):Int):=of_decide_eq_true (of_not_f h10b)
     have h10c:(decide (((x.marks.length:Nat):Int)=((y.marks.length:Nat):Int)))=true:=(of_not_f h10b)
     refine e_skip<|e_tn<|e_seq<|e_seq<|e_reg<|s_as rfl<|e_nil<|e_tn<|e_block<|fun a F=>w_loopN (fun m a' w'=>∃ (i:Nat),m=x.marks.length - i∧Fits 52 a' [(2,.pointer (some ⟨b1,0,none⟩)),(3,.pointer (some ⟨b2,0,none⟩)),(5,.int .i64 (((i:Nat):Int)))]∧Mem w0 G (.blk b2 [.int .u64 (((y.key:Nat):Int)),.int .u8 (((y.typ:Nat):Int)),.string (str (y.text)),.slice (may) (y.marks.length) (mcy)] 26::.blk b1 [.int .u64 (((x.key:Nat):Int)),.int .u8 (((x.typ:Nat):Int)),.string (str (x.text)),.slice (max) (x.marks.length) (mcx)] 26::L) w'∧(i≤x.marks.length)∧(∀ m,m < i→x.marks[m]?=y.marks[m]?)) _ ⟨0,rfl,F.to ⟨rfl,rfl,rfl,trivial⟩,M,Nat.zero_le _,fun m h=>by omega⟩ ?_
     clear F M
     rintro m a w ⟨i,rfl,F,M,hi,hA⟩
     revert a
     refine e_seq<|e_seq<|e_reg<|s_mv rfl<|s_fa tok26.k rfl rfl<|s_ld tok24 M 1 rfl rfl rfl rfl<|s_ls tok24.k rfl<|s_lt rfl rfl<|e_nil<|e_tn<|e_cond rfl ?_ ?_
     ·intro hc
      have h11b:=hc;clear hc
      have h11:((i:Nat):Int) < ((x.marks.length:Nat):Int):=of_decide_eq_true h11b
      refine e_skip<|e_tn<|e_seq<|e_block<|e_seq<|fun a F=>w_plan [(true,0),(true,1),(true,2),(true,3),(true,4),(true,5),(true,6),(true,7),(true,8),(true,9),(true,10)] (Keep G [.blk b2 [.int .u64 (((y.key:Nat):Int)),.int .u8 (((y.typ:Nat):Int)),.string (str (y.text)),.slice (may) (y.marks.length) (mcy)] 26,.blk b1 [.int .u64 (((x.key:Nat):Int)),.int .u8 (((x.typ:Nat):Int)),.string (str (x.text)),.slice (max) (x.marks.length) (mcx)] 26]) rfl (by kernel_rfl) (fun c a d v w h=>by cases d <;> exact h) ((M.drew _).keep (Gle.refl _) (by simp)) ?_
      replace M:=M.drew (w.drawn+1)
      revert a
      refine l_r (fun a F w M=>x_fa tok26.k rfl F rfl) rfl<|l_r (fun a F w M=>run_load1 (agf tok24 rfl) (F.ev rfl) (M.cellL (k:=1) rfl rfl)) rfl<|l_r (fun a F w M=>x_mv F rfl) rfl<|?_
      obtain ⟨Xe12,hXe12⟩:=get_of_lt (xs:=x.marks) (i:=i) (by omega)
      obtain ⟨be12,oe12,_,Ie12,_,Ae12,⟨rfl,hsle12⟩⟩:=SMx.at hXe12
      refine l_r (fun a F w M=>run_indexI tok24.k tok9 (F.ev rfl) (F.ev rfl) (by omega) Ie12) rfl<|l_r (fun a F w M=>run_load1 (agf tok9 rfl) (F.ev rfl) (M.cellA Ae12 0 (by omega) rfl)) rfl<|l_r (fun a F w M=>x_fa tok26.k rfl F rfl) rfl<|l_r (fun a F w M=>run_load1 (agf tok24 rfl) (F.ev rfl) (M.cellL (k:=0) rfl rfl)) rfl<|l_r (fun a F w M=>x_mv F rfl) rfl<|?_
      obtain ⟨Xe13,hXe13⟩:=get_of_lt (xs:=y.marks) (i:=i) (by omega)
      obtain ⟨be13,oe13,_,Ie13,_,Ae13,⟨rfl,hsle13⟩⟩:=SMy.at hXe13
      refine l_r (fun a F w M=>run_indexI tok24.k tok9 (F.ev rfl) (F.ev rfl) (by omega) Ie13) rfl<|l_r (fun a F w M=>run_load1 (agf tok9 rfl) (F.ev rfl) (M.cellA Ae13 0 (by omega) rfl)) rfl<|l_r (fun a F w M=>run_strNe (F.ev rfl) (F.ev rfl)) rfl<|l_nil<|?_
      generalize ({ w with drawn:=w.drawn+1 }:World)=w at M ⊢
      refine e_tn<|e_cond rfl ?_ ?_
      ·intro hc
       have h14b:=hc;clear hc
       have h14:¬ (Xe12=Xe13):=of_decide_eq_false (of_not_t h14b)
       have h14c:(decide (Xe12=Xe13))=false:=(of_not_t h14b)
       refine e_seq<|e_reg<|s_as rfl<|e_nil<|e_tn<|e_ret<|e_br<|e_tr<|e_tr<|e_br<|e_tr<|e_fin1 rfl rfl<|?_
       exact ⟨M.weaken (.cons _ (.cons _ (List.Sublist.refl _))),by rw [if_neg (fun h_=>absurd (congrArg ItemD.marks h_) (ne_of_get hXe12 hXe13 (by assumption)))]⟩
      ·intro hc
       have h15b:=hc;clear hc
       have h15:Xe12=Xe13:=of_decide_eq_true (of_not_f h15b)
       have h15c:(decide (Xe12=Xe13))=true:=(of_not_f h15b)
       refine e_skip<|e_bn<|e_tn<|e_reg<|s_mv rfl<|s_add rfl rfl<|s_as rfl<|e_nil<|e_tn<|fun a F=>?_
       exact ⟨_,by omega,i+1,rfl,F.to ⟨rfl,rfl,rfl,trivial⟩,M,by omega,eq_step hA hXe12 hXe13 (by assumption)⟩
     ·intro hc
      have h16b:=hc;clear hc
      have h16:¬ (((i:Nat):Int) < ((x.marks.length:Nat):Int)):=of_decide_eq_false h16b
      refine e_exit<|e_te<|e_te<|e_bh<|e_tn<|e_seq<|e_reg<|s_as rfl<|e_nil<|e_tn<|e_ret<|e_fin1 rfl rfl<|?_
      exact ⟨M.weaken (.cons _ (.cons _ (List.Sublist.refl _))),by rw [if_pos (item_ext (by omega) (by omega) (by assumption) (eq_end hA (by omega) (by omega)))]⟩
theorem rsameall_spec {w0 w:World} {G:Ghost} {L:List Res} (M:Mem w0 G L w) {a1:Option Addr} {c1:Nat} {xs:List ItemD} (S:RdSl rdItem 4 G (.slice a1 xs.length c1) xs) {a2:Option Addr} {c2:Nat} {ys:List ItemD} (T:RdSl rdItem 4 G (.slice a2 ys.length c2) ys):Calls Tryz.prog 13 #[.slice a1 xs.length c1,.slice a2 ys.length c2] w (RetS w0 G L fun v=>v=.int .i64 (if xs=ys then (1:Int) else 0)):=by
 have bS:=S.bound
 have bT:=T.bound
 refine e_start (vs:=[_,_]) Tryz.func13 rfl (n:=27) rfl rfl<|e_seq<|e_reg<|s_as rfl<|e_nil<|e_tn<|e_seq<|e_seq<|e_reg<|s_mv rfl<|s_ls tok22.k rfl<|s_mv rfl<|s_ls tok22.k rfl<|s_ne rfl rfl<|e_nil<|e_tn<|e_cond rfl ?_ ?_
 ·intro hc
  have h1b:=hc;clear hc
  have h1:¬ (((xs.length:Nat):Int)=((ys.length:Nat):Int)):=of_decide_eq_false (of_not_t h1b)
  have h1c:(decide (((xs.length:Nat):Int)=((ys.length:Nat):Int)))=false:=(of_not_t h1b)
  refine e_seq<|e_reg<|s_as rfl<|e_nil<|e_tn<|e_ret<|e_tr<|e_fin1 rfl rfl<|?_
  exact ⟨M,by rw [if_neg (fun h_=>absurd (congrArg List.length h_) (by omega))]⟩
 ·intro hc
  have h2b:=hc;clear hc
  have h2:((xs.length:Nat):Int)=((ys.length:Nat):Int):=of_decide_eq_true (of_not_f h2b)
  have h2c:(decide (((xs.length:Nat):Int)=((ys.length:Nat):Int)))=true:=(of_not_f h2b)
  refine e_skip<|e_tn<|e_seq<|e_seq<|e_reg<|s_as rfl<|e_nil<|e_tn<|e_block<|fun a F=>w_loopN (fun m a' w'=>∃ (i:Nat),m=xs.length - i∧Fits 27 a' [(0,.slice (a1) (xs.length) (c1)),(1,.slice (a2) (ys.length) (c2)),(5,.int .i64 (((i:Nat):Int)))]∧Mem w0 G (L) w'∧(i≤xs.length)∧(∀ m,m < i→xs[m]?=ys[m]?)) _ ⟨0,rfl,F.to ⟨rfl,rfl,rfl,trivial⟩,M,Nat.zero_le _,fun m h=>by omega⟩ ?_
  clear F M
  rintro m a w ⟨i,rfl,F,M,hi,hA⟩
  revert a
  refine e_seq<|e_seq<|e_reg<|s_mv rfl<|s_mv rfl<|s_ls tok22.k rfl<|s_lt rfl rfl<|e_nil<|e_tn<|e_cond rfl ?_ ?_
  ·intro hc
   have h3b:=hc;clear hc
   have h3:((i:Nat):Int) < ((xs.length:Nat):Int):=of_decide_eq_true h3b
   refine e_skip<|e_tn<|e_seq<|e_block<|e_seq<|fun a F=>w_plan [(true,0),(true,1),(true,2),(true,3),(true,4),(true,5),(true,6),(true,7),(false,8),(true,9)] (Keep G []) rfl (by kernel_rfl) (fun c a d v w h=>by cases d <;> exact h) ((M.drew _).keep (Gle.refl _) (by simp)) ?_
   replace M:=M.drew (w.drawn+1)
   revert a
   refine l_r (fun a F w M=>x_mv F rfl) rfl<|l_r (fun a F w M=>x_mv F rfl) rfl<|?_
   obtain ⟨Xe4,hXe4⟩:=get_of_lt (xs:=xs) (i:=i) (by omega)
   obtain ⟨be4,oe4,_,Ie4,_,Ae4,hTe4⟩:=S.at hXe4
   obtain ⟨mae4,mce4,rfl,hke4,hte4,hxe4,hne4,SMe4⟩:=hTe4
   have hIe4:(Xe4.key < 18446744073709551616∧Xe4.typ < 256∧Xe4.text.length≤9223372036854775807):=⟨hke4,hte4,hxe4⟩
   refine l_r (fun a F w M=>run_indexI tok22.k tok26 (F.ev rfl) (F.ev rfl) (by omega) Ie4) rfl<|l_r (fun a F w M=>run_loadA tok26 rfl (F.ev rfl) (cs:=[.int .u64 (((Xe4.key:Nat):Int)),.int .u8 (((Xe4.typ:Nat):Int)),.string (str (Xe4.text)),.slice (mae4) (Xe4.marks.length) (mce4)]) rfl (M.cellsA Ae4 0 (by omega) rfl)) rfl<|l_r (fun a F w M=>x_mv F rfl) rfl<|l_r (fun a F w M=>x_mv F rfl) rfl<|?_
   obtain ⟨Xe5,hXe5⟩:=get_of_lt (xs:=ys) (i:=i) (by omega)
   obtain ⟨be5,oe5,_,Ie5,_,Ae5,hTe5⟩:=T.at hXe5
   obtain ⟨mae5,mce5,rfl,hke5,hte5,hxe5,hne5,SMe5⟩:=hTe5
   have hIe5:(Xe5.key < 18446744073709551616∧Xe5.typ < 256∧Xe5.text.length≤9223372036854775807):=⟨hke5,hte5,hxe5⟩
   refine l_r (fun a F w M=>run_indexI tok22.k tok26 (F.ev rfl) (F.ev rfl) (by omega) Ie5) rfl<|l_r (fun a F w M=>run_loadA tok26 rfl (F.ev rfl) (cs:=[.int .u64 (((Xe5.key:Nat):Int)),.int .u8 (((Xe5.typ:Nat):Int)),.string (str (Xe5.text)),.slice (mae5) (Xe5.marks.length) (mce5)]) rfl (M.cellsA Ae5 0 (by omega) rfl)) rfl<|l_a rfl<|s_cS ent46 rfl rfl (rsame_spec (x:=Xe4) (y:=Xe5) M hIe4 SMe4 hIe5 SMe5)<|?_;clear M;rintro _ w M rfl
   refine e_nil<|eK (C':=Keep G []) (M.keep (Gle.refl _) (by simp)) (fun w h=>h.mono (Gle.refl _) (by simp))<|l_r (fun a F w M=>run_eqi (F.ev rfl) (F.ev rfl)) rfl<|l_nil<|e_tn<|e_cond rfl ?_ ?_
   ·intro hc
    have h6b:=hc;clear hc
    have h6:(if Xe4=Xe5 then (1:Int) else 0)=0:=of_decide_eq_true h6b
    refine e_seq<|e_reg<|s_as rfl<|e_nil<|e_tn<|e_ret<|e_br<|e_tr<|e_tr<|e_br<|e_tr<|e_fin1 rfl rfl<|?_
    exact ⟨M,by rw [if_neg (ne_of_get hXe4 hXe5 (fun h_=>by rw [if_pos h_] at *;omega))]⟩
   ·intro hc
    have h7b:=hc;clear hc
    have h7:¬ ((if Xe4=Xe5 then (1:Int) else 0)=0):=of_decide_eq_false h7b
    refine e_skip<|e_bn<|e_tn<|e_reg<|s_mv rfl<|s_add rfl rfl<|s_as rfl<|e_nil<|e_tn<|fun a F=>?_
    exact ⟨_,by omega,i+1,rfl,F.to ⟨rfl,rfl,rfl,trivial⟩,M,by omega,eq_step hA hXe4 hXe5 (Classical.byContradiction fun h_=>by rw [if_neg h_] at *;omega)⟩
  ·intro hc
   have h8b:=hc;clear hc
   have h8:¬ (((i:Nat):Int) < ((xs.length:Nat):Int)):=of_decide_eq_false h8b
   refine e_exit<|e_te<|e_te<|e_bh<|e_tn<|e_seq<|e_reg<|s_as rfl<|e_nil<|e_tn<|e_ret<|e_fin1 rfl rfl<|?_
   exact ⟨M,by rw [if_pos (eq_end hA (by omega) (by omega))]⟩
open Go Go.Y Go.Proofs
set_option linter.unusedSimpArgs false
set_option linter.unusedVariables false
theorem copyCheck_new {w0 w:World} {G:Ghost} {L:List Res} {b n c:Nat} {ad:Option Addr} (M:Mem w0 G (.blk b [.pointer none,.slice ad n c] 101::L) w) :
  Calls Tryz.prog 96 #[.pointer (some ⟨b,0,none⟩)] w (RetS w0 G (.blk b [.pointer (some ⟨b,0,none⟩),.slice ad n c] 101::L) fun v=>v=.tuple #[]):=by
 refine e_start (vs:=[_]) Tryz.func96 rfl (n:=20) rfl rfl<|e_seq<|e_reg<|s_mv rfl<|s_nc rfl<|s_fa tok101.k rfl rfl<|s_ld tok99 M 0 rfl rfl rfl rfl<|e_run (fun a F=>run_eqnil tok99.k (F.ev rfl) (F.ev rfl)) rfl<|e_nil<|e_tn<|e_cond_t rfl rfl<|e_reg<|s_mv rfl<|s_mv rfl<|e_run (fun a F=>run_toUnsafe M (k:=0) rfl (by simp) tok99.k (by kernel_rfl) tok101 (by decide) (F.ev rfl)) rfl<|e_run (fun a F=>run_noEscape Tryz.func142 (by kernel_rfl) (by kernel_rfl) (by kernel_rfl) (by kernel_rfl) (F.ev rfl) (F.ev (x:=.func 142) rfl)) rfl<|e_run (fun a F=>run_fromUnsafe M (k:=0) rfl (by kernel_rfl) tok99.k tok101 (by kernel_rfl) (F.ev rfl)) rfl<|s_nc rfl<|s_fa tok101.k rfl rfl<|s_st tok99 M 0 rfl rfl rfl rfl rfl rfl<|?_;clear M;intro w M
 refine e_nil<|fun a F=>fin0n F rfl ?_
 exact ⟨M,rfl⟩
theorem copyCheck_old {w0 w:World} {G:Ghost} {L:List Res} {b n c:Nat} {ad:Option Addr} (M:Mem w0 G (.blk b [.pointer (some ⟨b,0,none⟩),.slice ad n c] 101::L) w) :
  Calls Tryz.prog 96 #[.pointer (some ⟨b,0,none⟩)] w (RetS w0 G (.blk b [.pointer (some ⟨b,0,none⟩),.slice ad n c] 101::L) fun v=>v=.tuple #[]):=by
 refine e_start (vs:=[_]) Tryz.func96 rfl (n:=20) rfl rfl<|e_seq<|e_reg<|s_mv rfl<|s_nc rfl<|s_fa tok101.k rfl rfl<|s_ld tok99 M 0 rfl rfl rfl rfl<|e_run (fun a F=>run_eqnil tok99.k (F.ev rfl) (F.ev rfl)) rfl<|e_nil<|e_tn<|e_cond_f rfl rfl<|e_seq<|e_reg<|s_mv rfl<|s_nc rfl<|s_fa tok101.k rfl rfl<|s_ld tok99 M 0 rfl rfl rfl rfl<|s_mv rfl<|e_run (fun a F=>run_nePtr_same tok99.k tok101 (F.ev rfl) (F.ev rfl)) rfl<|e_nil<|e_tn<|e_cond_f rfl rfl<|e_skip<|fun a F=>fin0n F rfl ?_
 exact ⟨M,rfl⟩
theorem copyCheck_spec {w0 w:World} {G:Ghost} {L:List Res} {b n c:Nat} {ad:Option Addr} {p:Value} (hp:p=.pointer none∨p=.pointer (some ⟨b,0,none⟩)) (M:Mem w0 G (.blk b [p,.slice ad n c] 101::L) w) :
  Calls Tryz.prog 96 #[.pointer (some ⟨b,0,none⟩)] w (RetS w0 G (.blk b [.pointer (some ⟨b,0,none⟩),.slice ad n c] 101::L) fun v=>v=.tuple #[]):=by
 rcases hp with rfl | rfl
 ·exact copyCheck_new M
 ·exact copyCheck_old M
theorem wstr_spec {w0 w:World} {G:Ghost} {L:List Res} {b n c:Nat} {ad:Option Addr} {l:List UInt8} {p:Value} {s:List UInt8} (hp:p=.pointer none∨p=.pointer (some ⟨b,0,none⟩)) (M:Mem w0 G (.blk b [p,.slice ad n c] 101::.row (.slice ad n c) n (bc l) 5 1::L) w) (hn:n=l.length) (hnil:l=[]→ad=none) (hlen:l.length+s.length≤140737488355328) :
  Calls Tryz.prog 41 #[.pointer (some ⟨b,0,none⟩),.string (str s)] w (RetL w0 G fun L' v=>v=.tuple #[.int .i64 (s.length:Nat),.nilIface]∧∃ a' n' c',L' = (.blk b [.pointer (some ⟨b,0,none⟩),.slice a' n' c'] 101::.row (.slice a' n' c') n' (bc (l++s)) 5 1::L)∧n' = (l++s).length∧(l++s=[]→a' = none)):=by
 have hrow:ad.isNone=true→ad=none∧n=0∧c=0∧_:=fun h=>M.row_none (k:=1) rfl h
 refine e_start (vs:=[_,_]) Tryz.func41 rfl (n:=19) rfl rfl<|e_seq<|e_reg<|s_as rfl<|s_as rfl<|e_nil<|e_tn<|e_seq<|e_reg<|s_mv rfl<|?_
 change Mem w0 G (_::_::L) _ at M
 refine s_cS ent96 rfl rfl (copyCheck_spec hp M)<|?_;clear M;rintro _ w M rfl
 refine e_nil<|e_tn<|e_seq<|e_reg<|s_mv rfl<|s_mv rfl<|s_nc rfl<|s_fa tok101.k rfl rfl<|s_ld tok32 M 0 rfl rfl rfl rfl<|s_mv rfl<|fun a F=>?_
 refine rl_appendStr F M (k:=1) rfl tok32.k tok9.k tok5 rfl rfl rfl rfl rfl (by omega) rfl ?_;clear F M a;intro v1 w a M hwv1 F
 obtain ⟨av1,cv1,rfl,hlev1,hcmv1,hlv1⟩:=M.row_shape (k:=1) rfl
 rw [← bc_append] at M
 revert a
 refine s_nc rfl<|s_fa tok101.k rfl rfl<|s_st tok32 M 0 rfl rfl rfl rfl rfl rfl<|?_;clear M;intro w M
 refine e_nil<|e_tn<|e_seq<|e_reg<|s_mv rfl<|e_run (fun a F=>run_lenStr tok9.k (F.ev rfl)) rfl<|s_as rfl<|s_as rfl<|e_nil<|e_tn<|e_ret<|e_fin2 rfl rfl rfl<|?_
 replace M:=M.perm (perm_front _ 1 _ rfl)
 replace M:=M.perm (perm_front _ 1 _ rfl)
 change Mem w0 G (.blk b [.pointer (some ⟨b,0,none⟩),.slice (av1) (n+(s).length) (cv1)] 101::_::L) _ at M
 exact ⟨_,M,rfl,_,_,_,rfl,by rw [List.length_append,hn],fun h=>by obtain ⟨h1,h2⟩:=List.append_eq_nil_iff.1 h;have h3:=hnil h1;subst h3;obtain ⟨_,h4,h5,_⟩:=hrow rfl;subst h4 h5;have h6:=hwv1.2 ⟨rfl,h2⟩;simp only [Value.slice.injEq] at h6;exact h6.1⟩
theorem bstr_none {w0 w:World} {G:Ghost} {L:List Res} {b c gb:Nat} {p:Value} {l:List UInt8} (M:Mem w0 G (.blk b [p,.slice none 0 0] 101::.row (.slice none 0 0) 0 (bc []) 5 1::L) w) :
  Calls Tryz.prog 43 #[.pointer (some ⟨b,0,none⟩)] w (RetS w0 G L fun v=>v=.string (str [])):=by
 refine e_start (vs:=[_]) Tryz.func43 rfl (n:=14) rfl rfl<|e_seq<|e_reg<|s_as rfl<|e_nil<|e_tn<|e_seq<|fun a F=>w_plan [(true,0),(true,1),(true,2),(true,3),(true,5),(true,6),(true,7),(true,8),(true,9),(false,4),(false,10),(true,11)] (Keep G [.blk b [p,.slice none 0 0] 101]) rfl (by kernel_rfl) (fun c a d v w h=>by cases d <;> exact h) ((M.drew _).keep (Gle.refl _) (by simp)) ?_
 replace M:=M.drew (w.drawn+1)
 revert a
 refine l_r (fun a F w M=>x_mv F rfl) rfl<|l_r (fun a F w M=>run_nilCheck (F.ev rfl)) rfl<|l_r (fun a F w M=>x_fa tok101.k rfl F rfl) rfl<|l_r (fun a F w M=>run_load1 (agf tok32 rfl) (F.ev rfl) (M.cellL (k:=0) rfl rfl)) rfl<|l_r (fun a F w M=>x_mv F rfl) rfl<|l_r (fun a F w M=>run_nilCheck (F.ev rfl)) rfl<|l_r (fun a F w M=>x_fa tok101.k rfl F rfl) rfl<|l_r (fun a F w M=>run_load1 (agf tok32 rfl) (F.ev rfl) (M.cellL (k:=0) rfl rfl)) rfl<|l_r (fun a F w M=>run_lenSl tok32.k (F.ev rfl)) rfl<|l_a rfl<|e_run (fun a F=>run_sliceData0 (F.ev rfl)) rfl<|e_nil<|eK (C':=Keep G [.blk b [p,.slice none 0 0] 101]) (M.keep (Gle.refl _) (by simp)) (fun w h=>h.mono (Gle.refl _) (by simp))<|l_a rfl<|e_run (fun a F=>run_unsafeStr0 (F.ev rfl) (F.ev rfl)) rfl<|e_nil<|eK (C':=Keep G [.blk b [p,.slice none 0 0] 101]) (M.keep (Gle.refl _) (by simp)) (fun w h=>h.mono (Gle.refl _) (by simp))<|l_r (fun a F w M=>x_as F rfl) rfl<|l_nil<|e_tn<|e_ret<|e_fin1 rfl rfl<|?_
 exact ⟨M.weaken (.cons _ (.cons _ (List.Sublist.refl _))),rfl⟩
theorem bstr_some {w0 w:World} {G:Ghost} {L:List Res} {b c gb:Nat} {p:Value} {l:List UInt8} (M:Mem w0 G (.blk b [p,.slice (some ⟨gb,0,none⟩) (l.length) c] 101::.row (.slice (some ⟨gb,0,none⟩) (l.length) c) (l.length) (bc l) 5 1::L) w) (h0:l≠[]) (hc:l.length≤c) :
  Calls Tryz.prog 43 #[.pointer (some ⟨b,0,none⟩)] w (RetS w0 G L fun v=>v=.string (str l)):=by
 have h0':0 < l.length:=List.length_pos_iff.2 h0
 refine e_start (vs:=[_]) Tryz.func43 rfl (n:=14) rfl rfl<|e_seq<|e_reg<|s_as rfl<|e_nil<|e_tn<|e_seq<|fun a F=>w_plan [(true,0),(true,1),(true,2),(true,3),(true,5),(true,6),(true,7),(true,8),(true,9),(false,4),(false,10),(true,11)] (Keep G [.blk b [p,.slice (some ⟨gb,0,none⟩) (l.length) (c)] 101]) rfl (by kernel_rfl) (fun c a d v w h=>by cases d <;> exact h) ((M.drew _).keep (Gle.refl _) (by simp)) ?_
 replace M:=M.drew (w.drawn+1)
 revert a
 refine l_r (fun a F w M=>x_mv F rfl) rfl<|l_r (fun a F w M=>run_nilCheck (F.ev rfl)) rfl<|l_r (fun a F w M=>x_fa tok101.k rfl F rfl) rfl<|l_r (fun a F w M=>run_load1 (agf tok32 rfl) (F.ev rfl) (M.cellL (k:=0) rfl rfl)) rfl<|l_r (fun a F w M=>x_mv F rfl) rfl<|l_r (fun a F w M=>run_nilCheck (F.ev rfl)) rfl<|l_r (fun a F w M=>x_fa tok101.k rfl F rfl) rfl<|l_r (fun a F w M=>run_load1 (agf tok32 rfl) (F.ev rfl) (M.cellL (k:=0) rfl rfl)) rfl<|l_r (fun a F w M=>run_lenSl tok32.k (F.ev rfl)) rfl<|l_a rfl<|e_run (fun a F=>run_sliceData (F.ev rfl) (by omega)) rfl<|e_nil<|eK (C':=Keep G [.blk b [p,.slice (some ⟨gb,0,none⟩) (l.length) (c)] 101]) (M.keep (Gle.refl _) (by simp)) (fun w h=>h.mono (Gle.refl _) (by simp))<|l_a rfl<|fun a F=>?_
 refine rl_unsafeStr F M (k:=1) rfl tok174.k tok5 rfl h0 rfl rfl rfl ?_;clear F M a;intro w a M F
 revert a
 refine e_nil<|eK (C':=Keep G [.blk b [p,.slice (some ⟨gb,0,none⟩) (l.length) (c)] 101]) (M.keep (Gle.refl _) (by simp)) (fun w h=>h.mono (Gle.refl _) (by simp))<|l_r (fun a F w M=>x_as F rfl) rfl<|l_nil<|e_tn<|e_ret<|e_fin1 rfl rfl<|?_
 exact ⟨M.weaken (.cons _ (List.Sublist.refl _)),rfl⟩
theorem bstr_spec {w0 w:World} {G:Ghost} {L:List Res} {b n c:Nat} {ad:Option Addr} {l:List UInt8} {p:Value} (M:Mem w0 G (.blk b [p,.slice ad n c] 101::.row (.slice ad n c) n (bc l) 5 1::L) w) (hn:n=l.length) (hnil:l=[]→ad=none) :
  Calls Tryz.prog 43 #[.pointer (some ⟨b,0,none⟩)] w (RetS w0 G L fun v=>v=.string (str l)):=by
 subst hn
 by_cases h0:l=[]
 ·have h1:=hnil h0
  subst h1 h0
  obtain ⟨_,_,h4,_⟩:=M.row_none (k:=1) rfl rfl
  subst h4
  exact bstr_none (gb:=0) (c:=0) (l:=[]) M
 ·have h0':0 < l.length:=List.length_pos_iff.2 h0
  obtain ⟨gb,h1⟩:=M.row_some (k:=1) rfl h0'
  subst h1
  obtain ⟨_,_,he,hle,_⟩:=M.row_shape (k:=1) rfl
  simp only [Value.slice.injEq] at he
  exact bstr_some M h0 (by omega)
open Go Go.Y Go.Proofs
set_option linter.unusedSimpArgs false
set_option linter.unusedVariables false
theorem cut_spec {w0 w:World} {G:Ghost} {L:List Res} (M:Mem w0 G L w) (HG:Globs 0 1 2 3 G) {s sep:List UInt8} (hs:s.length < 4294967281) :
  Calls Tryz.prog 100 #[.string (str s),.string (str sep)] w (RetS w0 G L fun v=>v=.tuple #[.string (str (Lib.cut s sep).1),.string (str (Lib.cut s sep).2.1),.bool (Lib.cut s sep).2.2]):=by
 obtain ⟨m,hm⟩:=HG.max
 refine (Any.strings_Cut Tryz.lays145 (str s) (str sep) m w (by rw [str_size];exact hs) (M.cell hm)).mono ?_
 rintro e w' ⟨rfl,n,rfl⟩
 rw [str_data,str_data]
 exact ⟨M.drewN n,rfl⟩
theorem puint_spec {w0 w:World} {G:Ghost} {L:List Res} (M:Mem w0 G L w) (HG:Globs 0 1 2 3 G) {s:List UInt8} (hs:s.length≤281474976710656) :
  Calls Tryz.prog 101 #[.string (str s),.int .i64 10,.int .i64 64] w (RetS w0 G L fun v=>∃ (u:Nat) (er:Value),v=.tuple #[.int .u64 (u:Int),er]∧u≤18446744073709551615∧(er=.nilIface∨∃ te pe,er=.iface te pe) ∧
   ((Lib.parseUintB 64 s=.ok u∧isNilI er=true)∨((∀ x,Lib.parseUintB 64 s≠.ok x)∧isNilI er=false))):=by
 have hd:(str s).data.toList=s:=str_data s
 cases h:Lib.parseUintB 64 s with
 | ok u =>
  refine (Any.strconv_ParseUint_10_at64_ok Tryz.laysPu14 (str s) (by rw [str_size];omega) u (by rw [hd];exact h) w).mono ?_
  rintro e w' ⟨rfl,hw⟩
  refine ⟨?_,u,_,rfl,pu64_le h,Or.inl rfl,Or.inl ⟨rfl,rfl⟩⟩
  rcases hw with rfl | rfl
  ·exact M
  ·exact M.bytesWorld _ _
 | range =>
  obtain ⟨ev,h1,h2⟩:=HG.rng
  refine (Any.strconv_ParseUint_10_at64_range Tryz.laysPu14 (str s) (by rw [str_size];omega) (by rw [hd];exact h) ev w (M.cell h1) h2).mono ?_
  rintro e w' ⟨N,rfl,_,_,hb⟩
  exact ⟨M.below' hb,18446744073709551615,_,rfl,by omega,Or.inr ⟨_,_,rfl⟩,Or.inr ⟨(fun x hx=>by cases hx),rfl⟩⟩
 | _ =>
  obtain ⟨ev,h1,h2⟩:=HG.syn
  refine (Any.strconv_ParseUint_10_at64_syntax Tryz.laysPu14 (str s) (by rw [str_size];omega) (by rw [hd];exact h) ev w (M.cell h1) h2).mono ?_
  rintro e w' ⟨N,rfl,_,_,hb⟩
  exact ⟨M.below' hb,0,_,rfl,by omega,Or.inr ⟨_,_,rfl⟩,Or.inr ⟨(fun x hx=>by cases hx),rfl⟩⟩
theorem ifi_spec {w0 w:World} {G:Ghost} {L:List Res} (M:Mem w0 G L w) (HG:Globs 0 1 2 3 G) {n:Int} (hn:inKind .i64 n) :
  Calls Tryz.prog 166 #[.int .i64 n,.int .i64 10] w (RetS w0 G L fun v=>v=.string (str (Lib.itoa n))):=by
 refine (Any.internal_strconv_FormatInt_10 Tryz.laysM246 n hn.1 hn.2 w (HG.tabIs M (by kernel_rfl))).mono ?_
 rintro e w' ⟨rfl,k,os,rfl⟩
 exact ⟨(M.drewN k).grew os,rfl⟩
theorem small_spec {w0 w:World} {G:Ghost} {L:List Res} (M:Mem w0 G L w) {i:Nat} (h:i < 100):Calls Tryz.prog 170 #[.int .i64 (i:Int)] w (RetS w0 G L fun v=>v=.string (str (Lib.decDigits i))):=by
 refine (Any.internal_strconv_small Tryz.lays283 i h w).mono ?_
 rintro e w' ⟨rfl,rfl⟩
 exact ⟨M,rfl⟩
theorem ndig_spec {w0 w:World} {G:Ghost} {L:List Res} (M:Mem w0 G L w) (HG:Globs 0 1 2 3 G) {u:Nat} (h1:1≤u) (h2:u < 18446744073709551616):Calls Tryz.prog 171 #[.int .u64 (u:Int)] w (RetS w0 G L fun v=>v=.int .i64 ((Lib.nDigits u:Nat):Int)):=by
 refine (Any.internal_strconv_numDigits Tryz.laysM284 u h1 h2 w (HG.tabIs M (by kernel_rfl))).mono ?_
 rintro e w' ⟨rfl,rfl⟩
 exact ⟨M,rfl⟩
theorem fb10_spec {w0 w:World} {G:Ghost} {L:List Res} {b u c:Nat} {l:List UInt8} (M:Mem w0 G (.blk b (bc l) 244::L) w) (hl:l.length=24) (hnd:Lib.nDigits u≤24) (h2:u < 18446744073709551616) :
  Calls Tryz.prog 172 #[.slice (some ⟨b,0,none⟩) (Lib.nDigits u) c,.int .u64 (u:Int)] w (RetL w0 G fun L' v=>v=.tuple #[]∧∃ r,L' = (.blk b (bc (Lib.decDigits u++r)) 244::L)):=by
 have hH:=M.holdsB (k:=0) rfl (Lib.nDigits u) (by omega)
 have hs:(l.take (Lib.nDigits u)).toArray.size=Lib.nDigits u:=by simp;omega
 have:=Any.internal_strconv_formatBase10 Tryz.lays285 b 0 c u (l.take (Lib.nDigits u)).toArray w hH (by rw [hs];exact Lib.lt_pow_nDigits u) h2 (by rw [hs];omega)
 rw [hs] at this
 refine this.mono ?_
 rintro e w' ⟨rfl,n,v',dk,rfl,hF⟩
 have hd:=fmt_digits hF
 have M':=M.putRowB (k:=0) rfl dk (by rw [hF.size];omega) n
 rw [hd] at M'
 exact ⟨_,M',rfl,_,rfl⟩
theorem ifu_spec {w0 w:World} {G:Ghost} {L:List Res} (M:Mem w0 G L w) (HG:Globs 0 1 2 3 G) {u:Nat} (hu:u < 18446744073709551616) :
  Calls Tryz.prog 144 #[.int .u64 (u:Int),.int .i64 10] w (RetS w0 G L fun v=>v=.string (str (Lib.decDigits u))):=by
 refine e_start (vs:=[_,_]) Tryz.func144 rfl (n:=32) rfl rfl<|e_seq<|e_reg<|s_as rfl<|e_nil<|e_tn<|e_seq<|e_seq<|e_reg<|s_mv rfl<|s_eq rfl rfl<|e_nil<|e_tn<|e_cond_t rfl (decide_eq_true (by rfl))<|e_seq<|e_seq<|e_reg<|s_mv rfl<|s_lt rfl rfl<|e_nil<|e_tn<|e_cond rfl ?_ ?_
 ·intro hc
  have h1b:=hc;clear hc
  have h1:(u:Int) < 100:=of_decide_eq_true h1b
  refine e_seq<|e_reg<|s_mv rfl<|e_run (fun a F=>run_conv_int tok3.k ⟨_,by rw [under_int tok23.k]⟩ (F.ev rfl) (in_i64 (by omega) (by omega))) rfl<|s_cS ent170 rfl rfl (small_spec (i:=u) M (by omega))<|?_;clear M;rintro _ w M rfl
  refine s_as rfl<|e_nil<|e_tn<|e_ret<|e_tr<|e_tr<|e_fin1 rfl rfl<|?_
  exact ⟨M.weaken (List.Sublist.refl _),rfl⟩
 ·intro hc
  have h2b:=hc;clear hc
  have h2:¬ ((u:Int) < 100):=of_decide_eq_false h2b
  refine e_skip<|e_tn<|e_seq<|e_reg<|s_al M tok244 rfl rfl<|?_;clear M;intro b3 w M
  refine e_nil<|e_tn<|e_seq<|?_
  change Mem w0 G (_::L) _ at M
  change Mem w0 G (.blk b3 (bc (List.replicate 24 0)) 244::L) w at M
  refine e_reg<|s_mv rfl<|s_cS ent171 rfl rfl (ndig_spec (u:=u) M HG (by omega) (by omega))<|?_;clear M;rintro _ w M rfl
  refine s_as rfl<|e_nil<|e_tn<|e_seq<|?_
  have hnd:Lib.nDigits u≤20:=by have h1:=Lib.numDigits_eq u (by omega) hu;split at h1 <;> omega
  refine e_reg<|s_mv rfl<|e_run (fun a F=>run_sliceArr (h:=Lib.nDigits u) tok244.k tok5 (F.ev rfl) (F.ev rfl) (by omega) (by omega)) rfl<|s_mv rfl<|?_
  change Mem w0 G (_::L) _ at M
  refine s_cL ent172 rfl rfl (fb10_spec (u:=u) (l:=List.replicate 24 0) M (by simp) (by omega) (by omega))<|?_;clear M;rintro _ _ w M ⟨rfl,rr,rfl⟩
  refine e_nil<|e_tn<|e_seq<|e_reg<|s_mv rfl<|e_run (fun a F=>run_sliceArr (h:=Lib.nDigits u) tok244.k tok5 (F.ev rfl) (F.ev rfl) (by omega) (by omega)) rfl<|e_run (fun a F=>run_strOfBlk M (k:=0) rfl tok32.k tok5.k tok9.k (F.ev rfl) (by rw [List.length_append,Lib.decDigits_length];omega)) rfl<|fun a F=>?_
  rw [show (Lib.decDigits u++rr).take (Lib.nDigits u)=Lib.decDigits u by rw [← Lib.decDigits_length,List.take_left]] at F
  revert a
  refine s_as rfl<|e_nil<|e_tn<|e_ret<|e_tr<|e_fin1 rfl rfl<|?_
  exact ⟨M.weaken (.cons _ (List.Sublist.refl _)),rfl⟩
theorem fu_spec {w0 w:World} {G:Ghost} {L:List Res} (M:Mem w0 G L w) (HG:Globs 0 1 2 3 G) {u:Nat} (hu:u < 18446744073709551616) :
  Calls Tryz.prog 98 #[.int .u64 (u:Int),.int .i64 10] w (RetS w0 G L fun v=>v=.string (str (Lib.decDigits u))):=by
 refine e_start (vs:=[_,_]) Tryz.func98 rfl (n:=8) rfl rfl<|e_seq<|e_reg<|s_as rfl<|e_nil<|e_tn<|e_seq<|e_reg<|s_mv rfl<|s_mv rfl<|s_cS ent144 rfl rfl (ifu_spec (u:=u) M HG (by omega))<|?_;clear M;rintro _ w M rfl
 refine s_as rfl<|e_nil<|e_tn<|e_ret<|e_fin1 rfl rfl<|?_
 exact ⟨M,rfl⟩
open Go Go.Y Go.Proofs
set_option linter.unusedSimpArgs false
set_option linter.unusedVariables false
theorem itoa_nn {n:Int} (h:0≤n):Lib.itoa n=Lib.decDigits n.toNat:=by unfold Lib.itoa;rw [if_neg (by omega)]
theorem pub8_le {s:List UInt8} {u:Nat} (h:Lib.parseUintB 8 s=.ok u):u≤255:=by
 have key:∀ (l:List UInt8) (acc:Nat),acc≤255→Lib.parseUintM (2 ^ 8 - 1) acc l=.ok u→u≤255:=by
  intro l
  induction l with
  | nil=>intro acc h1 h2;simp only [Lib.parseUintM,Lib.NumEnd.ok.injEq] at h2;omega
  | cons c r ih =>
   intro acc h1 h2
   unfold Lib.parseUintM at h2
   split at h2
   ·split at h2
    ·cases h2
    ·split at h2
     ·cases h2
     ·exact ih _ (by omega) h2
   ·cases h2
 unfold Lib.parseUintB at h
 split at h
 ·cases h
 ·exact key s 0 (by omega) h
theorem iitoa_spec {w0 w:World} {G:Ghost} {L:List Res} (M:Mem w0 G L w) (HG:Globs 0 1 2 3 G) {u:Nat} (hu:u < 9223372036854775808):Calls Tryz.prog 133 #[.int .i64 ((u:Nat):Int)] w (RetS w0 G L fun v=>v=.string (str (Lib.decDigits u))):=by
 refine e_start (vs:=[_]) Tryz.func133 rfl (n:=5) rfl rfl<|e_seq<|e_reg<|s_as rfl<|e_nil<|e_tn<|e_seq<|e_reg<|s_mv rfl<|s_cS ent166 rfl rfl (ifi_spec (n:=((u:Nat):Int)) M HG (by first | assumption | exact ⟨by decide,by decide⟩ | exact wrap_ink _ _ | exact in_i64 (by omega) (by omega)))<|?_;clear M;rintro _ w M rfl
 refine s_as rfl<|e_nil<|e_tn<|e_ret<|e_fin1 rfl rfl<|?_
 exact ⟨M,by rw [itoa_nn (by omega),Int.toNat_natCast]⟩
theorem itoa_spec {w0 w:World} {G:Ghost} {L:List Res} (M:Mem w0 G L w) (HG:Globs 0 1 2 3 G) {u:Nat} (hu:u < 9223372036854775808):Calls Tryz.prog 83 #[.int .i64 ((u:Nat):Int)] w (RetS w0 G L fun v=>v=.string (str (Lib.decDigits u))):=by
 refine e_start (vs:=[_]) Tryz.func83 rfl (n:=5) rfl rfl<|e_seq<|e_reg<|s_as rfl<|e_nil<|e_tn<|e_seq<|e_reg<|s_mv rfl<|s_cS ent133 rfl rfl (iitoa_spec (u:=u) M HG (by omega))<|?_;clear M;rintro _ w M rfl
 refine s_as rfl<|e_nil<|e_tn<|e_ret<|e_fin1 rfl rfl<|?_
 exact ⟨M,rfl⟩
theorem pu64_spec {w0 w:World} {G:Ghost} {L:List Res} (M:Mem w0 G L w) (HG:Globs 0 1 2 3 G) {s:List UInt8} (hs:s.length≤281474976710656) :
  Calls Tryz.prog 101 #[.string (str s),.int .i64 10,.int .i64 64] w (RetS w0 G L fun v=>∃ (u:Nat) (er:Value),v=.tuple #[.int .u64 (u:Int),er]∧(er=.nilIface∨∃ te pe,er=.iface te pe)∧NumR 18446744073709551616 s u (isNilI er)):=by
 refine (puint_spec M HG hs).mono ?_
 rintro e w' h
 cases e with
 | returned v =>
  obtain ⟨M',u,er,h1,h2,h3,h4⟩:=h
  refine ⟨M',u,er,h1,h3,by omega,fun m hm he=>?_⟩
  subst he
  have h5:=pub_dec (B:=64) (by decide) (u:=m) hm
  rcases h4 with ⟨h6,h7⟩ | ⟨h6,_⟩
  ·rw [h5] at h6;simp only [Lib.NumEnd.ok.injEq] at h6;exact ⟨h7,h6.symm⟩
  ·exact absurd h5 (h6 m)
 | panicked c=>exact h.elim
 | outgrown=>exact h.elim
theorem pu8_spec {w0 w:World} {G:Ghost} {L:List Res} (M:Mem w0 G L w) (HG:Globs 0 1 2 3 G) {s:List UInt8} (hs:s.length≤281474976710656) :
  Calls Tryz.prog 101 #[.string (str s),.int .i64 10,.int .i64 8] w (RetS w0 G L fun v=>∃ (u:Nat) (er:Value),v=.tuple #[.int .u64 (u:Int),er]∧(er=.nilIface∨∃ te pe,er=.iface te pe)∧NumR 256 s u (isNilI er)):=by
 have hd:(str s).data.toList=s:=str_data s
 have no:∀ {b:Bool} {u:Nat},u < 256→(∀ m,m < 256→Lib.parseUintB 8 s≠.ok m)→NumR 256 s u b:=fun hu h=>⟨hu,fun m hm he=>absurd (by rw [he];exact pub_dec (B:=8) (by decide) hm) (h m hm)⟩
 cases h:Lib.parseUintB 8 s with
 | ok u =>
  refine (Any.strconv_ParseUint_10_at8_ok Tryz.laysPu14 (str s) (by rw [str_size];omega) u (by rw [hd];exact h) w).mono ?_
  rintro e w' ⟨rfl,hw⟩
  refine ⟨?_,u,_,rfl,Or.inl rfl,by have:=pub8_le h;omega,fun m hm he=>?_⟩
  ·rcases hw with rfl | rfl
   ·exact M
   ·exact M.bytesWorld _ _
  ·subst he
   rw [pub_dec (B:=8) (by decide) hm] at h
   simp only [Lib.NumEnd.ok.injEq] at h
   exact ⟨rfl,h.symm⟩
 | range =>
  obtain ⟨ev,h1,h2⟩:=HG.rng
  refine (Any.strconv_ParseUint_10_at8_range Tryz.laysPu14 (str s) (by rw [str_size];omega) (by rw [hd];exact h) ev w (M.cell h1) h2).mono ?_
  rintro e w' ⟨N,rfl,_,_,hb⟩
  exact ⟨M.below' hb,255,_,rfl,Or.inr ⟨_,_,rfl⟩,no (by omega) (fun m _ hx=>by rw [h] at hx;cases hx)⟩
 | _ =>
  obtain ⟨ev,h1,h2⟩:=HG.syn
  refine (Any.strconv_ParseUint_10_at8_syntax Tryz.laysPu14 (str s) (by rw [str_size];omega) (by rw [hd];exact h) ev w (M.cell h1) h2).mono ?_
  rintro e w' ⟨N,rfl,_,_,hb⟩
  exact ⟨M.below' hb,0,_,rfl,Or.inr ⟨_,_,rfl⟩,no (by omega) (fun m _ hx=>by rw [h] at hx;cases hx)⟩
theorem join_spec {w0 w:World} {G:Ghost} {L:List Res} (M:Mem w0 G L w) {ad:Option Addr} {cd:Nat} {xs:List (List UInt8)} (S:RdSl rdStr 1 G (.slice ad xs.length cd) xs) (hN:xs.length≤140737488355328) (hlen:(Lib.join xs [44]).length≤140737488355328) :
  Calls Tryz.prog 97 #[.slice ad xs.length cd,.string (str [44])] w (RetS w0 G L fun v=>v=.string (str (Lib.join xs [44]))):=by
 by_cases h0:xs=[]
 ·subst h0
  refine (Any.strings_Join_none Tryz.lays156 Tryz.Builder_Extra_156 ad cd (str [44]) w).mono ?_
  rintro e w' ⟨rfl,rfl⟩
  exact ⟨M,rfl⟩
 ·obtain ⟨x0,hx0⟩:=get_of_lt (xs:=xs) (i:=0) (List.length_pos_iff.2 h0)
  obtain ⟨b,o,_,rfl,_,_,_,_⟩:=S.index hx0
  obtain ⟨_,_,he,hcap,_⟩:=S.shape
  simp only [Value.slice.injEq] at he
  obtain ⟨_,_,rfl⟩:=he
  have hcell:∀ (j:Nat) (x:List UInt8),xs[j]?=some x→w.cell? ⟨b,o+j,none⟩=some (.string (str x)):=by
   intro j x hx
   obtain ⟨b',o',cs,h1,_,_,hA,hr,_⟩:=S.index hx
   simp only [Option.some.injEq,Addr.mk.injEq,and_true] at h1
   obtain ⟨rfl,rfl⟩:=h1
   subst hr
   have:=hA 0 _ rfl
   rw [Nat.mul_one,Nat.add_zero] at this
   exact M.cell this
  have hm:(xs.map str).map (·.data.toList)=xs:=by
   rw [List.map_map]
   conv=>rhs;rw [← List.map_id xs]
   exact List.map_congr_left fun x _=>str_data x
  have:=Any.strings_Join Tryz.lays156 Tryz.Builder_Extra_156 b o cd (xs.map str) (str [44]) w (by
   intro j x hx
   rw [List.getElem?_map] at hx
   cases hq:xs[j]? with
   | none=>rw [hq] at hx;cases hx
   | some y=>rw [hq] at hx;simp only [Option.map_some,Option.some.injEq] at hx;subst hx;exact hcell j y hq)
   (World.block_lt_of_cell? _ _ (hcell 0 x0 hx0)) (by rw [List.length_map];exact hN) (by rw [List.length_map];exact hcap) (by rw [hm,str_data];exact hlen)
  rw [List.length_map,hm,str_data] at this
  refine this.mono ?_
  rintro e w' ⟨rfl,hb⟩
  exact ⟨M.below' hb,rfl⟩
theorem els_strs {G:Ghost}:∀ (xs:List (List UInt8)),(∀ x∈xs,x.length≤9223372036854775807)→Els rdStr 1 G (xs.map fun x=>Value.string (str x)) xs
 | [],_=>rfl
 | x::xs,h=>⟨[.string (str x)],_,rfl,rfl,⟨rfl,h x (by simp)⟩,els_strs xs (fun y hy=>h y (by simp [hy]))⟩
theorem splitB_F (s:List UInt8):(Lib.splitB (str [44]) 0 (Lib.countB (str s) (str [44])) (str s)).map Value.string=(splitF s).map (fun x=>Value.string (str x)):=by
 have h:=Lib.splitB_data (str [44]) 0 (Lib.countB (str s) (str [44])) (str s)
 rw [str_data,str_data] at h
 have h2:Lib.countB (str s) (str [44])=Lib.count s [44]:=by
  show Lib.count (str s).data.toList (str [44]).data.toList=_
  rw [str_data,str_data]
 rw [h2] at h ⊢
 show _=(Lib.splitK [44] 0 (Lib.count s [44]) s).map _
 rw [← h,List.map_map]
 exact List.map_congr_left fun x _=>rfl
theorem split_spec {w0 w:World} {G:Ghost} {L:List Res} (M:Mem w0 G L w) (HG:Globs 0 1 2 3 G) {s:List UInt8} (hs:s.length < 4294967281) :
  Calls Tryz.prog 102 #[.string (str s),.string (str [44])] w (Ret w0 G L fun G' v=>∃ a:Option Addr,v=.slice a (splitF s).length (splitF s).length∧RdSl rdStr 1 G' (.slice a (splitF s).length (splitF s).length) (splitF s)):=by
 obtain ⟨m,hm⟩:=HG.max
 refine (Any.strings_Split Tryz.lays146 (by kernel_rfl) (str s) (str [44]) m w (by rw [str_size];exact hs) (M.cell hm) (by rw [str_size];decide)).mono ?_
 rintro e w' ⟨rfl,rfl⟩
 have hl:(splitF s).length=Lib.countB (str s) (str [44])+1:=by
  have h1:=Lib.splitB_all (str [44]) (by rw [str_size];decide) 0 _ (str s) rfl
  rw [← h1,← List.length_map (f:=Value.string),splitB_F,List.length_map]
 rw [splitB_F,← hl]
 have hcb:=Lib.countB_le (str [44]) (by rw [str_size];decide) (str s).size (str s) (Nat.le_refl _)
 rw [str_size] at hcb
 have hle:(splitF s).length≤4294967281:=by omega
 have M1:=M.newrow (t:=Tryz.lays146_ren.t 9) (sz:=1) (n:=(splitF s).length) (c:=(splitF s).length) (cs:=(splitF s).map fun x=>Value.string (str x)) (spare:=[])
  (by intro u hu;obtain ⟨x,_,rfl⟩:=List.mem_map.1 hu;rfl) (by simp) (by simp) (Nat.le_refl _) (by unfold maxLen;omega)
 rw [List.append_nil] at M1
 obtain ⟨_,G',a,c,hG,he,S,M2⟩:=M1.freeze_row mono_rdStr (k:=0) rfl (els_strs (splitF s) (fun x hx=>by have:=splitF_len hx;omega)) (by decide)
 exact ⟨G',hG,M2,_,rfl,S⟩
open Go Go.Y Go.Proofs
set_option linter.unusedSimpArgs false
set_option linter.unusedVariables false
theorem line_spec {w0 w:World} {G:Ghost} {L:List Res} (M:Mem w0 G L w) (HG:Globs 0 1 2 3 G) {x:ItemD} {ma:Option Addr} {mc:Nat} (hI:(x.key < 18446744073709551616∧x.typ < 256∧x.text.length≤9223372036854775807)) (SM:RdSl rdStr 1 G (.slice ma x.marks.length mc) x.marks) (hok:ItemOk 8 x):Calls Tryz.prog 42 #[.agg #[.int .u64 (((x.key:Nat):Int)),.int .u8 (((x.typ:Nat):Int)),.string (str (x.text)),.slice (ma) (x.marks.length) (mc)]] w (RetS w0 G L fun v=>v=.string (str (lineF x))):=by
 obtain ⟨hI1,hI2,hI3⟩:=id hI
 have hm8:=hok.2.2.2.1
 have hj:=join_len16 hm8 hok.2.2.2.2
 have htx:=hok.2.2.1.1
 have hdk:=dec_len x.key hI1
 have hdt:=dec_len x.typ (by omega)
 refine e_start (vs:=[_]) Tryz.func42 rfl (n:=25) rfl rfl<|e_seq<|e_reg<|s_bx M rfl rfl rfl<|?_;clear M;intro b1 w M
 refine s_as rfl<|e_nil<|e_tn<|e_seq<|e_reg<|s_fa tok26.k rfl rfl<|s_ld tok24 M 0 rfl rfl rfl rfl<|s_cS ent97 rfl rfl (join_spec (xs:=x.marks) M SM (by omega) (by omega))<|?_;clear M;rintro _ w M rfl
 refine s_as rfl<|e_nil<|e_tn<|e_seq<|e_seq<|e_reg<|s_mv rfl<|s_seq rfl rfl<|e_nil<|e_tn<|e_cond rfl ?_ ?_
 ·intro hc
  have h2b:=hc;clear hc
  have h2:(Lib.join x.marks [44])=([]:List UInt8):=of_decide_eq_true h2b
  refine e_reg<|s_as rfl<|e_nil<|e_tn<|e_seq<|fun a F=>w_plan2 [(.free,0),(.pure,1),(.free,4),(.pure,5),(.free,6),(.free,10),(.free,13),(.pure,14),(.keep,2),(.free,3),(.keep,7),(.free,8),(.free,9),(.free,11),(.free,12),(.free,15),(.free,16)] [] (Keep G [.blk b1 [.int .u64 (((x.key:Nat):Int)),.int .u8 (((x.typ:Nat):Int)),.string (str (x.text)),.slice (ma) (x.marks.length) (mc)] 26]) rfl (by kernel_rfl) (fun c a d v w h=>by cases d <;> exact h) ((M.drew _).keep (Gle.refl _) (by simp)) ?_
  replace M:=M.drew (w.drawn+1)
  revert a
  refine k_f (fun a F w _=>x_fa tok26.k rfl F rfl) rfl<|k_p (fun a F w M=>run_load1 (agf tok23 rfl) (F.ev rfl) (M.cellL (k:=0) rfl rfl)) rfl<|k_f (fun a F w _=>x_fa tok26.k rfl F rfl) rfl<|k_p (fun a F w M=>run_load1 (agf tok5 rfl) (F.ev rfl) (M.cellL (k:=0) rfl rfl)) rfl<|k_f (fun a F w _=>run_conv_int tok3.k ⟨_,by rw [under_int tok5.k]⟩ (F.ev rfl) (in_i64 (by omega) (by omega))) rfl<|k_f (fun a F w _=>x_mv F rfl) rfl<|k_f (fun a F w _=>x_fa tok26.k rfl F rfl) rfl<|k_p (fun a F w M=>run_load1 (agf tok9 rfl) (F.ev rfl) (M.cellL (k:=0) rfl rfl)) rfl<|k_k rfl<|s_cS ent98 rfl rfl (fu_spec (u:=x.key) M HG (by omega))<|?_;clear M;rintro _ w M rfl
  refine e_nil<|eK (C':=Keep G [.blk b1 [.int .u64 (((x.key:Nat):Int)),.int .u8 (((x.typ:Nat):Int)),.string (str (x.text)),.slice (ma) (x.marks.length) (mc)] 26]) (M.keep (Gle.refl _) (by simp)) (fun w h=>h.mono (Gle.refl _) (by simp))<|k_f (fun a F w _=>run_strAdd (F.ev rfl) (F.ev rfl) (by (first | omega | (simp only [List.length_append,List.length_cons,List.length_nil];omega)))) rfl<|k_k rfl<|s_cS ent83 rfl rfl (itoa_spec (u:=x.typ) M HG (by omega))<|?_;clear M;rintro _ w M rfl
  refine e_nil<|eK (C':=Keep G [.blk b1 [.int .u64 (((x.key:Nat):Int)),.int .u8 (((x.typ:Nat):Int)),.string (str (x.text)),.slice (ma) (x.marks.length) (mc)] 26]) (M.keep (Gle.refl _) (by simp)) (fun w h=>h.mono (Gle.refl _) (by simp))<|k_f (fun a F w _=>run_strAdd (F.ev rfl) (F.ev rfl) (by (first | omega | (simp only [List.length_append,List.length_cons,List.length_nil];omega)))) rfl<|k_f (fun a F w _=>run_strAdd (F.ev rfl) (F.ev rfl) (by (first | omega | (simp only [List.length_append,List.length_cons,List.length_nil];omega)))) rfl<|k_f (fun a F w _=>run_strAdd (F.ev rfl) (F.ev rfl) (by (first | omega | (simp only [List.length_append,List.length_cons,List.length_nil];omega)))) rfl<|k_f (fun a F w _=>run_strAdd (F.ev rfl) (F.ev rfl) (by (first | omega | (simp only [List.length_append,List.length_cons,List.length_nil];omega)))) rfl<|k_f (fun a F w _=>run_strAdd (F.ev rfl) (F.ev rfl) (by (first | omega | (simp only [List.length_append,List.length_cons,List.length_nil];omega)))) rfl<|k_f (fun a F w _=>x_as F rfl) rfl<|k_nil<|e_tn<|e_ret<|e_fin1 rfl rfl<|?_
  exact ⟨M.weaken (.cons _ (List.Sublist.refl _)),by first | rw [line_join (by assumption)] | rw [line_dash (by assumption) hok]⟩
 ·intro hc
  have h3b:=hc;clear hc
  have h3:¬ ((Lib.join x.marks [44])=([]:List UInt8)):=of_decide_eq_false h3b
  refine e_skip<|e_tn<|e_seq<|fun a F=>w_plan2 [(.free,0),(.pure,1),(.free,4),(.pure,5),(.free,6),(.free,10),(.free,13),(.pure,14),(.keep,2),(.free,3),(.keep,7),(.free,8),(.free,9),(.free,11),(.free,12),(.free,15),(.free,16)] [] (Keep G [.blk b1 [.int .u64 (((x.key:Nat):Int)),.int .u8 (((x.typ:Nat):Int)),.string (str (x.text)),.slice (ma) (x.marks.length) (mc)] 26]) rfl (by kernel_rfl) (fun c a d v w h=>by cases d <;> exact h) ((M.drew _).keep (Gle.refl _) (by simp)) ?_
  replace M:=M.drew (w.drawn+1)
  revert a
  refine k_f (fun a F w _=>x_fa tok26.k rfl F rfl) rfl<|k_p (fun a F w M=>run_load1 (agf tok23 rfl) (F.ev rfl) (M.cellL (k:=0) rfl rfl)) rfl<|k_f (fun a F w _=>x_fa tok26.k rfl F rfl) rfl<|k_p (fun a F w M=>run_load1 (agf tok5 rfl) (F.ev rfl) (M.cellL (k:=0) rfl rfl)) rfl<|k_f (fun a F w _=>run_conv_int tok3.k ⟨_,by rw [under_int tok5.k]⟩ (F.ev rfl) (in_i64 (by omega) (by omega))) rfl<|k_f (fun a F w _=>x_mv F rfl) rfl<|k_f (fun a F w _=>x_fa tok26.k rfl F rfl) rfl<|k_p (fun a F w M=>run_load1 (agf tok9 rfl) (F.ev rfl) (M.cellL (k:=0) rfl rfl)) rfl<|k_k rfl<|s_cS ent98 rfl rfl (fu_spec (u:=x.key) M HG (by omega))<|?_;clear M;rintro _ w M rfl
  refine e_nil<|eK (C':=Keep G [.blk b1 [.int .u64 (((x.key:Nat):Int)),.int .u8 (((x.typ:Nat):Int)),.string (str (x.text)),.slice (ma) (x.marks.length) (mc)] 26]) (M.keep (Gle.refl _) (by simp)) (fun w h=>h.mono (Gle.refl _) (by simp))<|k_f (fun a F w _=>run_strAdd (F.ev rfl) (F.ev rfl) (by (first | omega | (simp only [List.length_append,List.length_cons,List.length_nil];omega)))) rfl<|k_k rfl<|s_cS ent83 rfl rfl (itoa_spec (u:=x.typ) M HG (by omega))<|?_;clear M;rintro _ w M rfl
  refine e_nil<|eK (C':=Keep G [.blk b1 [.int .u64 (((x.key:Nat):Int)),.int .u8 (((x.typ:Nat):Int)),.string (str (x.text)),.slice (ma) (x.marks.length) (mc)] 26]) (M.keep (Gle.refl _) (by simp)) (fun w h=>h.mono (Gle.refl _) (by simp))<|k_f (fun a F w _=>run_strAdd (F.ev rfl) (F.ev rfl) (by (first | omega | (simp only [List.length_append,List.length_cons,List.length_nil];omega)))) rfl<|k_f (fun a F w _=>run_strAdd (F.ev rfl) (F.ev rfl) (by (first | omega | (simp only [List.length_append,List.length_cons,List.length_nil];omega)))) rfl<|k_f (fun a F w _=>run_strAdd (F.ev rfl) (F.ev rfl) (by (first | omega | (simp only [List.length_append,List.length_cons,List.length_nil];omega)))) rfl<|k_f (fun a F w _=>run_strAdd (F.ev rfl) (F.ev rfl) (by (first | omega | (simp only [List.length_append,List.length_cons,List.length_nil];omega)))) rfl<|k_f (fun a F w _=>run_strAdd (F.ev rfl) (F.ev rfl) (by (first | omega | (simp only [List.length_append,List.length_cons,List.length_nil];omega)))) rfl<|k_f (fun a F w _=>x_as F rfl) rfl<|k_nil<|e_tn<|e_ret<|e_fin1 rfl rfl<|?_
  exact ⟨M.weaken (.cons _ (List.Sublist.refl _)),by first | rw [line_join (by assumption)] | rw [line_dash (by assumption) hok]⟩
theorem text_spec {w0 w:World} {G:Ghost} {L:List Res} (M:Mem w0 G L w) (HG:Globs 0 1 2 3 G) {a1:Option Addr} {c1:Nat} {xs:List ItemD} (S:RdSl rdItem 4 G (.slice a1 xs.length c1) xs) :
  Calls Tryz.prog 11 #[.slice a1 xs.length c1] w (RetS w0 G L fun v=>v=.tuple #[.string (str (textR xs)),.int .i64 (textE xs)]):=by
 have bS:=S.bound
 refine e_start (vs:=[_]) Tryz.func11 rfl (n:=28) rfl rfl<|e_seq<|e_reg<|s_as rfl<|s_as rfl<|e_nil<|e_tn<|e_seq<|e_seq<|e_reg<|s_mv rfl<|s_ls tok22.k rfl<|s_gt rfl rfl<|e_nil<|e_tn<|e_cond rfl ?_ ?_
 ·intro hc
  have h1b:=hc;clear hc
  have h1:1024 < ((xs.length:Nat):Int):=of_decide_eq_true h1b
  refine e_seq<|e_reg<|s_as rfl<|s_as rfl<|e_nil<|e_tn<|e_ret<|e_tr<|e_fin2 rfl rfl rfl<|?_
  exact ⟨M,by rw [(text_big (by omega)).1,(text_big (by omega)).2];rfl⟩
 ·intro hc
  have h2b:=hc;clear hc
  have h2:¬ (1024 < ((xs.length:Nat):Int)):=of_decide_eq_false h2b
  refine e_skip<|e_tn<|e_seq<|e_reg<|s_al M tok101 rfl rfl<|?_;clear M;intro b3 w M
  refine e_nil<|e_tn<|e_seq<|e_seq<|?_
  change Mem w0 G (_::L) _ at M
  have M:=(M.nilrow 5 1).perm (List.Perm.swap _ _ _)
  intro a F
  rw [show ([]:List Value)=bc [] from rfl] at M
  revert a
  refine e_reg<|s_mv rfl<|s_ls tok22.k rfl<|s_mv rfl<|e_nil<|e_tn<|e_block<|fun a F=>w_loopN (fun m a' w'=>∃ (i:Nat),∃ (am:Option Addr),∃ (nm:Nat),∃ (cm:Nat),∃ (pm:Value),m=xs.length - i∧Fits 28 a' [(0,.slice (a1) (xs.length) (c1)),(4,.pointer (some ⟨b3,0,none⟩)),(11,.slice (a1) (xs.length) (c1)),(12,.int .i64 (((xs.length:Nat):Int))),(13,.int .i64 (((i:Nat):Int)))]∧Mem w0 G (.blk b3 [pm,.slice (am) (nm) (cm)] 101::.row (.slice (am) (nm) (cm)) (nm) (bc (textF (xs.take i))) 5 1::L) w'∧(i≤xs.length)∧((textF (xs.take i)).length≤301 * i)∧(∀ (m:Nat) (x:ItemD),m < i→xs[m]?=some x→ItemOk 8 x)∧(pm=.pointer none∨pm=.pointer (some ⟨b3,0,none⟩))∧(nm=(textF (xs.take i)).length)∧((textF (xs.take i))=[]→am=none)) _ ⟨0,(none),(0),(0),(.pointer none),rfl,F.to ⟨rfl,rfl,rfl,rfl,rfl,trivial⟩,M,Nat.zero_le _,by simp [textF],fun m x h=>by omega,(Or.inl rfl),rfl,(fun _=>rfl)⟩ ?_
  clear F M
  rintro m a w ⟨i,am,nm,cm,pm,rfl,F,M,hi,hlen,hA,hpm,hnm,hnilm⟩
  revert a
  refine e_seq<|e_reg<|s_lt rfl rfl<|e_nil<|e_tn<|e_seq<|e_cond rfl ?_ ?_
  ·intro hc
   have h5b:=hc;clear hc
   have h5:((i:Nat):Int) < ((xs.length:Nat):Int):=of_decide_eq_true h5b
   refine e_skip<|e_tn<|e_seq<|e_block<|e_seq<|e_reg<|?_
   obtain ⟨Xe6,hXe6⟩:=get_of_lt (xs:=xs) (i:=i) (by omega)
   obtain ⟨be6,oe6,_,Ie6,_,Ae6,hTe6⟩:=S.at hXe6
   obtain ⟨mae6,mce6,rfl,hke6,hte6,hxe6,hne6,SMe6⟩:=hTe6
   have hIe6:(Xe6.key < 18446744073709551616∧Xe6.typ < 256∧Xe6.text.length≤9223372036854775807):=⟨hke6,hte6,hxe6⟩
   refine s_ix tok22.k tok26 Ie6 rfl rfl<|e_run (fun a F=>run_loadA tok26 rfl (F.ev rfl) (cs:=[.int .u64 (((Xe6.key:Nat):Int)),.int .u8 (((Xe6.typ:Nat):Int)),.string (str (Xe6.text)),.slice (mae6) (Xe6.marks.length) (mce6)]) rfl (M.cellsA Ae6 0 (by omega) rfl)) rfl<|s_al M tok26 rfl rfl<|?_;clear M;intro b7 w M
   intro a F
   refine rl_storeA F M tok26 (k:=0) rfl rfl rfl (us:=[.int .u64 (((Xe6.key:Nat):Int)),.int .u8 (((Xe6.typ:Nat):Int)),.string (str (Xe6.text)),.slice (mae6) (Xe6.marks.length) (mce6)]) rfl rfl (by simp [Value.oneCell']) (by simp) ?_;clear F M a;intro w a M F
   change Mem w0 G (.blk b7 [.int .u64 (((Xe6.key:Nat):Int)),.int .u8 (((Xe6.typ:Nat):Int)),.string (str (Xe6.text)),.slice (mae6) (Xe6.marks.length) (mce6)] 26::_::_::L) _ at M
   revert a
   refine e_nil<|e_tn<|e_seq<|e_seq<|e_reg<|e_run (fun a F=>run_loadA tok26 rfl (F.ev rfl) (cs:=[.int .u64 (((Xe6.key:Nat):Int)),.int .u8 (((Xe6.typ:Nat):Int)),.string (str (Xe6.text)),.slice (mae6) (Xe6.marks.length) (mce6)]) rfl (M.cellsL (k:=0) rfl rfl)) rfl<|s_cS ent14 rfl rfl (check_spec (x:=Xe6) (t:=8) M hIe6 SMe6)<|?_;clear M;rintro _ w M rfl
   refine s_as rfl<|e_nil<|e_tn<|e_seq<|e_reg<|s_mv rfl<|s_ne rfl rfl<|e_nil<|e_tn<|e_cond rfl ?_ ?_
   ·intro hc
    have h9b:=hc;clear hc
    have h9:¬ (itmF 8 Xe6=0):=of_decide_eq_false (of_not_t h9b)
    have h9c:(decide (itmF 8 Xe6=0))=false:=(of_not_t h9b)
    refine e_seq<|e_reg<|s_mv rfl<|s_as rfl<|s_as rfl<|e_nil<|e_tn<|e_ret<|e_tr<|e_br<|e_tr<|e_tr<|e_br<|e_tr<|e_fin2 rfl rfl rfl<|?_
    exact ⟨(M.weaken (.cons _ (.cons _ (.cons _ (List.Sublist.refl _))))),by rw [(text_bad (by omega) (AllOk.no hXe6 (fun h_=>by have:=itmF_yes h_;omega))).1,(text_bad (by omega) (AllOk.no hXe6 (fun h_=>by have:=itmF_yes h_;omega))).2,itmF_no (fun h_=>by have:=itmF_yes h_;omega)];rfl⟩
   ·intro hc
    have h10b:=hc;clear hc
    have h10:itmF 8 Xe6=0:=of_decide_eq_true (of_not_f h10b)
    have h10c:(decide (itmF 8 Xe6=0))=true:=(of_not_f h10b)
    refine e_skip<|e_tn<|?_
    have hokX:ItemOk 8 Xe6:=itmF_zero.1 (by omega)
    refine e_reg<|e_run (fun a F=>run_loadA tok26 rfl (F.ev rfl) (cs:=[.int .u64 (((Xe6.key:Nat):Int)),.int .u8 (((Xe6.typ:Nat):Int)),.string (str (Xe6.text)),.slice (mae6) (Xe6.marks.length) (mce6)]) rfl (M.cellsL (k:=0) rfl rfl)) rfl<|s_cS ent42 rfl rfl (line_spec (x:=Xe6) M HG hIe6 SMe6 hokX)<|?_;clear M;rintro _ w M rfl
    have hlll11:=line_len (x:=Xe6) hokX hIe6.1 hIe6.2.1
    refine e_run (fun a F=>run_strAdd (F.ev rfl) (F.ev rfl) (by (first | omega | (simp only [List.length_append,List.length_cons,List.length_nil];omega)))) rfl<|?_
    replace M:=M.perm (perm_front _ 2 _ rfl)
    replace M:=M.perm (perm_front _ 2 _ rfl)
    change Mem w0 G (_::_::.blk b7 [.int .u64 (((Xe6.key:Nat):Int)),.int .u8 (((Xe6.typ:Nat):Int)),.string (str (Xe6.text)),.slice (mae6) (Xe6.marks.length) (mce6)] 26::L) _ at M
    refine s_cL ent41 rfl rfl (wstr_spec (s:=((lineF Xe6)++([10]:List UInt8))) hpm M hnm hnilm (by (first | omega | (simp only [List.length_append,List.length_cons,List.length_nil];omega))))<|?_;clear M;rintro _ _ w M ⟨rfl,au12,nu12,cu12,rfl,hnu12,hnilu12⟩
    refine e_nil<|e_bn<|e_tn<|e_reg<|s_add rfl rfl<|s_mv rfl<|e_nil<|e_tn<|?_
    have hsn:(textF (xs.take i))++((lineF Xe6)++([10]:List UInt8))=textF (xs.take (i+1)):=by rw [textF_snoc hXe6]
    intro a F
    rw [hsn] at M hnu12 hnilu12
    exact ⟨_,by omega,i+1,(au12),(nu12),(cu12),(.pointer (some ⟨b3,0,none⟩)),rfl,F.to ⟨rfl,rfl,rfl,rfl,rfl,trivial⟩,(M.weaken (.cons_cons _ (.cons_cons _ (.cons _ (List.Sublist.refl _))))),by omega,by rw [← hsn];simp only [List.length_append,List.length_cons,List.length_nil];omega,all_step hA hXe6 hokX,(Or.inr rfl),hnu12,hnilu12⟩
  ·intro hc
   have h13b:=hc;clear hc
   have h13:¬ (((i:Nat):Int) < ((xs.length:Nat):Int)):=of_decide_eq_false h13b
   refine e_exit<|e_te<|e_te<|e_bh<|e_tn<|e_seq<|e_reg<|?_
   replace M:=M.perm (perm_front _ 1 _ rfl)
   replace M:=M.perm (perm_front _ 1 _ rfl)
   change Mem w0 G (_::_::L) _ at M
   refine s_cS ent43 rfl rfl (bstr_spec M hnm hnilm)<|?_;clear M;rintro _ w M rfl
   refine s_as rfl<|s_as rfl<|e_nil<|e_tn<|e_ret<|e_fin2 rfl rfl rfl<|?_
   exact ⟨M,by rw [(text_ok (by omega) (all_end hA (by omega))).1,(text_ok (by omega) (all_end hA (by omega))).2,List.take_of_length_le (by omega)]⟩
end Go.Proofs.YtmmhmcplegpenaaGreatDoor
