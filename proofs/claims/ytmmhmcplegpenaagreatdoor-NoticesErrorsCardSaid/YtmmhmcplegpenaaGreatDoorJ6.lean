/- Lists: rules, entries, what is valid, totals, the errors. · Items: numbers, lines, what a line stands for. · The walks, part A. · The walks, part B. · The walks, part C. · The walks, part S. · The walks, part N. -/
import Derived.Test.YtmmhmcplegpenaaGreatDoorJ5
import Derived.Test.YtmmhmcplegpenaaGreatDoorJ3
import Derived.Test.YtmmhmcplegpenaaGreatDoorYB
import Derived.Lib.IndexMore
import Derived.Lib.SplitLaws
import Derived.Lib.ParseIntB
import Derived.Lib.Join
import Derived.Test.YtmmhmcplegpenaaGreatDoorJ1
set_option linter.unusedSimpArgs false
set_option linter.unusedVariables false
namespace Go.Proofs.YtmmhmcplegpenaaGreatDoor
open Go Go.Y
structure KindD where
 part:T.PT
 base:Int
 sticky:Bool
 pool:Int
structure RulesD where
 kinds:List KindD
 cap:Int
structure EntD where
 item:ItemD
 size:Int
 known:Bool
def C6:Rd KindD:=fun G cs k=>∃ c1,cs=c1++[.int .i64 k.base,.bool k.sticky,.int .i64 k.pool]∧T.rdP G c1 k.part∧Bb .i64 k.base
theorem A1:Jo C6:=by
 rintro G G' cs x h ⟨c1,h1,h2,h3⟩
 exact ⟨c1,h1,T.mono_rdP _ _ _ _ h h2,h3⟩
def Ca:Rd EntD:=fun G cs x=>∃ c1,cs=c1++[.int .i64 x.size,.bool x.known]∧Cv G c1 x.item∧Bb .i64 x.size
theorem Am:Jo Ca:=by
 rintro G G' cs x h ⟨c1,h1,h2,h3⟩
 exact ⟨c1,h1,Aw _ _ _ _ h h2,h3⟩
def tI (x:ItemD):T.ItemD:=⟨(x.key:Int),(x.typ:Int),x.text,x.marks⟩
theorem tI_ok {t:Int} {x:ItemD} (h:ItemOk t x):T.ItemOk (tI x):=by
 obtain ⟨h1,_,h2,h3,h4⟩:=h
 exact ⟨fun e=>h1 (by simpa [tI] using e),h2,h3,h4⟩
def Cc (f:Nat→Int):Nat→Int
 | 0=>0
 | n+1=>if Cc f n=0 then f n else Cc f n
theorem Gt {f:Nat→Int} {n:Nat} (h:Cc f n=0):Cc f (n+1)=f n:=by simp [Cc,h]
theorem Rq {f:Nat→Int} {n:Nat} (h:Cc f n≠0):∀ m,n≤m→Cc f m=Cc f n:=by
  intro m hm
  induction m with
  | zero => have : n = 0 := by omega
            subst this;rfl
  | succ m ih =>
    rcases Nat.eq_or_lt_of_le hm with e | e
    · rw [e]
    · have:=ih (by omega)
      simp only [Cc,this,h,if_false]
theorem J8 {f:Nat→Int} {i n:Nat} (h:Cc f i=0) (hi:i < n) (he:f i≠0):Cc f n=f i:=by
 have h1:=Gt h;rw [Rq (n:=i+1) (by rw [h1];exact he) n (by omega),h1]
theorem Eh {f:Nat→Int}:∀ {n:Nat},Cc f n=0↔∀ i,i < n→f i=0
 | 0=>⟨fun _ i h=>by omega,fun _=>rfl⟩
 | n+1=>by
  constructor
  ·intro h
   by_cases h0:Cc f n=0
   ·have h1:=Eh.1 h0;rw [Gt h0] at h;intro i hi
    rcases Nat.eq_or_lt_of_le (show i≤n by omega) with e | e
    ·rw [e];exact h
    ·exact h1 i e
   ·rw [Rq h0 _ (Nat.le_succ n)] at h;exact absurd h h0
  ·intro h;rw [Gt (Eh.2 fun i hi=>h i (by omega))]
   exact h n (by omega)
theorem Lx {f g:Nat→Int}:∀ {n:Nat},(∀ i,i < n→f i=g i)→Cc f n=Cc g n
 | 0,_=>rfl
 | n+1,h=>by simp only [Cc,Lx (n:=n) fun i hi=>h i (by omega),h n (by omega)]
theorem chkP_nn (x:T.PT):0≤T.chkP x:=by unfold T.chkP;split <;> decide
def Kz (k:KindD):Prop:=(1≤k.base∧k.base≤2305843009213693952)∧T.ValidP k.part
def D2 (c:RulesD):Prop:=((1≤c.kinds.length∧c.kinds.length≤8)∧(1≤c.cap∧c.cap≤64))∧∀ k∈c.kinds,Kz k
open Classical in
noncomputable def Ja (c:RulesD):Int:=if D2 c then 0 else 7
theorem Jz {c:RulesD} (h:D2 c):Ja c=0:=by unfold Ja;rw [if_pos h]
theorem F1 {c:RulesD} (h:¬ D2 c):Ja c=7:=by unfold Ja;rw [if_neg h]
theorem Kg {c:RulesD}:Ja c=0↔D2 c:=by
 unfold Ja
 split
 ·rename_i h;exact ⟨fun _=>h,fun _=>rfl⟩
 rename_i h;exact ⟨fun h2=>(by cases h2),fun h2=>absurd h2 h⟩
def Iv (c:RulesD) (x:ItemD):Int:=match c.kinds[x.typ]? with
 | some k=>k.base
 | none=>0
theorem Hd {c:RulesD} {x:ItemD} {k:KindD} (h:c.kinds[x.typ]?=some k):Iv c x=k.base:=by unfold Iv;rw [h]
noncomputable def Hv (c:RulesD) (x:ItemD):Int:=match c.kinds[x.typ]? with
 | some k=>T.rendE k.part (tI x) c.cap
 | none=>0
theorem Oa {c:RulesD} {x:ItemD} {k:KindD} (h:c.kinds[x.typ]?=some k):Hv c x=T.rendE k.part (tI x) c.cap:=by unfold Hv;rw [h]
theorem Jm {c:RulesD} {x:ItemD} (h:ItemOk (c.kinds.length:Int) x):∃ k,c.kinds[x.typ]?=some k:=A2 (by have:=h.2.1;omega)
theorem Acz {c:RulesD} {x:ItemD} (hc:D2 c) (hx:ItemOk (c.kinds.length:Int) x):Hv c x=0∨Hv c x=14:=by
 obtain ⟨k,hk⟩:=Jm hx;rw [Oa hk];have h1:¬ (c.cap < 1∨64 < c.cap):=by have:=hc.1.2;omega
 have h2:=(hc.2 k (List.mem_of_getElem? hk)).2;have h3:=tI_ok hx
 by_cases h4:T.cntF (T.node1 (tI x) k.part)=0∨c.cap < (T.cntF (T.node1 (tI x) k.part):Int)
 ·exact Or.inr (T.rend_many h1 h2 h3 h4)
 exact Or.inl (T.rend_ok h1 h2 h3 h4)
open Classical in
noncomputable def Ft (c:RulesD) (x:ItemD) (seen:Prop):Int:=if ¬ ItemOk (c.kinds.length:Int) x then 6 else if seen then 8 else if Hv c x=0 then 0 else 14
section
variable {c:RulesD} {x:ItemD} {seen:Prop}
theorem Po (h:¬ ItemOk (c.kinds.length:Int) x):Ft c x seen=6:=by unfold Ft;rw [if_pos h]
theorem R7 (h:ItemOk (c.kinds.length:Int) x) (h2:seen):Ft c x seen=8:=by unfold Ft;rw [if_neg (not_not_intro h),if_pos h2]
theorem J6 (h:ItemOk (c.kinds.length:Int) x) (h2:¬ seen) (h3:¬ Hv c x=0):Ft c x seen=14:=by unfold Ft;rw [if_neg (not_not_intro h),if_neg h2,if_neg h3]
theorem Ko (h:ItemOk (c.kinds.length:Int) x) (h2:¬ seen) (h3:Hv c x=0):Ft c x seen=0:=by unfold Ft;rw [if_neg (not_not_intro h),if_neg h2,if_pos h3]
theorem Gj:Ft c x seen=0↔ItemOk (c.kinds.length:Int) x∧¬ seen∧Hv c x=0:=by
 unfold Ft
 split
 ·rename_i h;exact ⟨fun h2=>(by cases h2),fun h2=>absurd h2.1 h⟩
 rename_i h
 split
 ·rename_i h1;exact ⟨fun h2=>(by cases h2),fun h2=>absurd h1 h2.2.1⟩
 rename_i h1
 split
 ·rename_i h2;exact ⟨fun _=>⟨Classical.byContradiction h,h1,h2⟩,fun _=>rfl⟩
 rename_i h2;exact ⟨fun h3=>(by cases h3),fun h3=>absurd h3.2.2 h2⟩
theorem Aam:0≤Ft c x seen:=by
 unfold Ft;split
 ·decide
 split
 ·decide
 split <;> decide
theorem Ms {seen':Prop} (h:seen↔seen'):Ft c x seen=Ft c x seen':=by rw [propext h]
end
def Dn (l:List EntD) (k:Nat):Prop:=∃ y∈l,y.item.key=k
def Hh (c:RulesD) (x:EntD):Prop:=(1≤x.size∧x.size≤2305843009213693952)∧(x.known=true∨x.size=Iv c x.item)
open Classical in
noncomputable def Qo (c:RulesD) (pre:List EntD) (x:EntD):Int :=
 if Ft c x.item (Dn pre x.item.key)=0 then (if Hh c x then 0 else 12) else Ft c x.item (Dn pre x.item.key)
noncomputable def Ht (c:RulesD) (l:List EntD) (i:Nat):Int:=match l[i]? with
 | some x=>Qo c (l.take i) x
 | none=>0
theorem O6 {c:RulesD} {l:List EntD} {i:Nat} {x:EntD} (h:l[i]?=some x):Ht c l i=Qo c (l.take i) x:=by unfold Ht;rw [h]
section
variable {c:RulesD} {pre:List EntD} {x:EntD}
theorem Nj (h:Ft c x.item (Dn pre x.item.key)≠0):Qo c pre x=Ft c x.item (Dn pre x.item.key):=by unfold Qo;rw [if_neg h]
theorem entE_12 (h:Ft c x.item (Dn pre x.item.key)=0) (h2:¬ Hh c x):Qo c pre x=12:=by unfold Qo;rw [if_pos h,if_neg h2]
theorem entE_0 (h:Ft c x.item (Dn pre x.item.key)=0) (h2:Hh c x):Qo c pre x=0:=by unfold Qo;rw [if_pos h,if_pos h2]
theorem Ni:Qo c pre x=0↔Ft c x.item (Dn pre x.item.key)=0∧Hh c x:=by
 unfold Qo
 split
 ·rename_i h
  split
  ·rename_i h2;exact ⟨fun _=>⟨h,h2⟩,fun _=>rfl⟩
  rename_i h2;exact ⟨fun h3=>(by cases h3),fun h3=>absurd h3.2 h2⟩
 rename_i h;exact ⟨fun h2=>absurd h2 h,fun h2=>absurd h2.1 h⟩
end
def Hs:List EntD→Int
 | []=>0
 | x::l=>max x.size 0+Hs l
theorem M6:∀ l:List EntD,0≤Hs l
 | []=>Int.le_refl _
 | x::l=>by have:=M6 l;simp only [Hs];omega
theorem I3:∀ a b:List EntD,Hs (a++b)=Hs a+Hs b
 | [],b=>by simp [Hs]
 | x::a,b=>by simp only [List.cons_append,Hs,I3 a b];omega
theorem Jr {l:List EntD} {i:Nat} {x:EntD} (h:l[i]?=some x):Hs (l.take (i+1))=Hs (l.take i)+max x.size 0:=by
 rw [List.take_add_one,h,I3];simp [Hs]
theorem sumF_le {l:List EntD} (i:Nat):Hs (l.take i)≤Hs l:=by
 have h:=I3 (l.take i) (l.drop i);rw [List.take_append_drop] at h;have:=M6 (l.drop i);omega
def Uz (l:List EntD):Int:=if Hs l≤4611686018427387904 then Hs l else 4611686018427387905
def D9 (l:List EntD):Int:=if Hs l≤4611686018427387904 then 0 else 13
theorem Xe {l:List EntD} {i:Nat} (h:4611686018427387904 < Hs (l.take i)):Uz l=4611686018427387905:=by
 have:=sumF_le (l:=l) i;unfold Uz;rw [if_neg (by omega)]
theorem Aer {l:List EntD} {i:Nat} {z:Int} (hz:z=Hs (l.take i)) (h:z≤4611686018427387904) (hi:l.length≤i):Uz l=z:=by
 rw [List.take_of_length_le hi] at hz;unfold Uz;rw [if_pos (by omega),hz]
theorem Zv {l:List EntD}:4611686018427387904 < Uz l↔¬ Hs l≤4611686018427387904:=by
 unfold Uz;split
 ·rename_i h;omega
 rename_i h;exact ⟨fun _=>h,fun _=>by decide⟩
theorem Zu {l:List EntD} (h:¬ 4611686018427387904 < Uz l):D9 l=0:=by unfold D9;rw [if_pos (Classical.byContradiction fun h2=>h (Zv.2 h2))]
theorem Aff {l:List EntD} (h:4611686018427387904 < Uz l):D9 l=13:=by unfold D9;rw [if_neg (Zv.1 h)]
theorem V0 {l:List EntD}:D9 l=0↔Hs l≤4611686018427387904:=by
 unfold D9;split
 ·rename_i h;exact ⟨fun _=>h,fun _=>rfl⟩
 rename_i h;exact ⟨fun h2=>(by cases h2),fun h2=>absurd h2 h⟩
open Classical in
noncomputable def Bv (c:RulesD) (l:List EntD):Int :=
 if ¬ D2 c then 7 else if 1024 < l.length then 3 else if Cc (Ht c l) l.length=0 then D9 l else Cc (Ht c l) l.length
section
variable {c:RulesD} {l:List EntD}
theorem Yu (h:¬ D2 c):Bv c l=7:=by unfold Bv;rw [if_pos h]
theorem Yv (h:D2 c) (h2:1024 < l.length):Bv c l=3:=by unfold Bv;rw [if_neg (not_not_intro h),if_pos h2]
theorem Ka {i:Nat} {x:EntD} {z:Int} (h:D2 c) (h2:¬ 1024 < l.length) (h3:Cc (Ht c l) i=0) (hx:l[i]?=some x) (hz:Qo c (l.take i) x=z) (h0:z≠0):Bv c l=z:=by
 have h4:Ht c l i≠0:=by rw [O6 hx,hz];exact h0
 have h5:=J8 h3 (Bj hx) h4;unfold Bv;rw [if_neg (not_not_intro h),if_neg h2,if_neg (by rw [h5];exact h4),h5,O6 hx,hz]
theorem Iu {i:Nat} (h:D2 c) (h2:¬ 1024 < l.length) (h3:Cc (Ht c l) i=0) (hi:l.length≤i):Bv c l=D9 l:=by
 have h4:Cc (Ht c l) l.length=0:=Eh.2 fun j hj=>Eh.1 h3 j (by omega);unfold Bv;rw [if_neg (not_not_intro h),if_neg h2,if_pos h4]
theorem scan_ok {i:Nat} {x:EntD} (h3:Cc (Ht c l) i=0) (hx:l[i]?=some x) (hz:Qo c (l.take i) x=0):Cc (Ht c l) (i+1)=0:=by rw [Gt h3,O6 hx,hz]
end
def P0 (l:List EntD) (k:Nat) (z:Int):Prop:=(z = -1∧∀ x∈l,x.item.key≠k)∨∃ (i:Nat) (x:EntD),z=(i:Int)∧l[i]?=some x∧x.item.key=k∧∀ (m:Nat) (y:EntD),m < i→l[m]?=some y→y.item.key≠k
theorem P0.none {l:List EntD} {k i:Nat} (h:∀ (m:Nat) (y:EntD),m < i→l[m]?=some y→y.item.key≠k) (hi:l.length≤i):P0 l k (-1):=Or.inl ⟨rfl,Fj (p:=fun y:EntD=>y.item.key≠k) h hi⟩
theorem P0.some {l:List EntD} {k i:Nat} {x:EntD} (h:∀ (m:Nat) (y:EntD),m < i→l[m]?=some y→y.item.key≠k) (hx:l[i]?=some x) (hk:x.item.key=k):P0 l k (i:Int):=Or.inr ⟨i,x,rfl,hx,hk,h⟩
theorem P0.has {l:List EntD} {k:Nat} {z:Int} (h:P0 l k z):0≤z↔Dn l k:=by
 rcases h with ⟨rfl,h⟩ | ⟨i,x,rfl,h1,h2,h3⟩
 ·exact ⟨fun h2=>by omega,fun ⟨y,hy,hk⟩=>absurd hk (h y hy)⟩
 exact ⟨fun _=>⟨x,List.mem_of_getElem? h1,h2⟩,fun _=>by omega⟩
section
variable {c:RulesD} {l:List EntD} {i:Nat} {x:EntD}
theorem ck6 (hv:D2 c) (h2:¬ 1024 < l.length) (h3:Cc (Ht c l) i=0) (hx:l[i]?=some x) (h:¬ ItemOk (c.kinds.length:Int) x.item):Bv c l=6 :=
 Ka hv h2 h3 hx (by rw [Nj (by rw [Po h];decide),Po h]) (by decide)
theorem ck8 (hv:D2 c) (h2:¬ 1024 < l.length) (h3:Cc (Ht c l) i=0) (hx:l[i]?=some x) (h:ItemOk (c.kinds.length:Int) x.item) (hk:Dn (l.take i) x.item.key):Bv c l=8 :=
 Ka hv h2 h3 hx (by rw [Nj (by rw [R7 h hk];decide),R7 h hk]) (by decide)
theorem ck14 (hv:D2 c) (h2:¬ 1024 < l.length) (h3:Cc (Ht c l) i=0) (hx:l[i]?=some x) (h:ItemOk (c.kinds.length:Int) x.item) (hk:¬ Dn (l.take i) x.item.key) (hr:¬ Hv c x.item=0):Bv c l=14 :=
 Ka hv h2 h3 hx (by rw [Nj (by rw [J6 h hk hr];decide),J6 h hk hr]) (by decide)
theorem Apf (hv:D2 c) (h2:¬ 1024 < l.length) (h3:Cc (Ht c l) i=0) (hx:l[i]?=some x) (h:ItemOk (c.kinds.length:Int) x.item) (hk:¬ Dn (l.take i) x.item.key) (hr:Hv c x.item=0) (hs:¬ Hh c x):Bv c l=12 :=
 Ka hv h2 h3 hx (entE_12 (Ko h hk hr) hs) (by decide)
theorem ck0 (h3:Cc (Ht c l) i=0) (hx:l[i]?=some x) (h:ItemOk (c.kinds.length:Int) x.item) (hk:¬ Dn (l.take i) x.item.key) (hr:Hv c x.item=0) (hs:Hh c x):Cc (Ht c l) (i+1)=0 :=
 scan_ok h3 hx (entE_0 (Ko h hk hr) hs)
theorem ckI {z:Int} (hv:D2 c) (h2:¬ 1024 < l.length) (h3:Cc (Ht c l) i=0) (hx:l[i]?=some x) (hz:Ft c x.item (Dn (l.take i) x.item.key)=z) (h0:z≠0):Bv c l=z :=
 Ka hv h2 h3 hx (by rw [Nj (by rw [hz];exact h0),hz]) h0
end
def F7 (l:List EntD) (i:Nat) (ks:List Nat):Prop:=∀ q,q∈ks↔Dn (l.take i) q
theorem F7.zero (l:List EntD):F7 l 0 []:=fun q=>⟨fun h=>by simp at h,fun ⟨y,hy,_⟩=>by simp at hy⟩
theorem F7.step {l:List EntD} {i:Nat} {ks:List Nat} {x:EntD} (h:F7 l i ks) (hx:l[i]?=some x):F7 l (i+1) (x.item.key::ks):=by
 intro q;rw [List.mem_cons,h q,List.take_add_one,hx]
 constructor
 ·rintro (rfl | ⟨y,hy,hk⟩)
  ·exact ⟨x,by simp,rfl⟩
  exact ⟨y,by simp [hy],hk⟩
 rintro ⟨y,hy,hk⟩;simp only [Option.toList_some,List.mem_append,List.mem_singleton] at hy
 rcases hy with hy | rfl
 ·exact Or.inr ⟨y,hy,hk⟩
 exact Or.inl hk.symm
theorem Aki {x:ItemD} (h:x.key < 18446744073709551616):Bb .u64 (tI x).key:=⟨by show (0:Int)≤((x.key:Nat):Int);omega,by show ((x.key:Nat):Int)≤18446744073709551615;omega⟩
theorem H7 (u:Nat):Lib.decDigits u=(if u / 10=0 then [] else Lib.decDigits (u / 10))++[UInt8.ofNat (48+u % 10)]:=by
 rw [Lib.decDigits]
 split
 ·rename_i h
  rw [if_pos (by omega),Nat.mod_eq_of_lt h]
  rfl
 rename_i h
 rw [if_neg (by omega)]
def Rl (c:UInt8):Prop:=48≤c.toNat∧c.toNat≤57
def P3:List UInt8→Nat→Nat
 | [],acc=>acc
 | c::r,acc=>P3 r (10 * acc+(c.toNat - 48))
theorem Xb:∀ (l:List UInt8) (acc:Nat),acc≤P3 l acc
 | [],acc=>Nat.le_refl _
 | c::r,acc=>by have:=Xb r (10 * acc+(c.toNat - 48));simp only [P3];omega
theorem Vj (c:UInt8):∀ (l:List UInt8) (acc:Nat),P3 (l++[c]) acc=10 * P3 l acc+(c.toNat - 48)
 | [],acc=>rfl
 | b::r,acc=>Vj c r _
instance (c:UInt8):Decidable (Rl c):=by unfold Rl;infer_instance
theorem Sc:∀ (u:Nat),∀ c∈Lib.decDigits u,Rl c:=by
 intro u
 induction u using Nat.strongRecOn with
 | _ u ih =>
  intro c hc;rw [H7] at hc
  rcases List.mem_append.1 hc with hc | hc
  ·split at hc
   ·simp at hc
   ·exact ih (u / 10) (by omega) c hc
  ·simp only [List.mem_singleton] at hc;subst hc;have h1:(UInt8.ofNat (48+u % 10)).toNat=48+u % 10:=UInt8.toNat_ofNat_of_lt' (by show 48+u % 10 < 256;omega);unfold Rl
   omega
theorem Kh:∀ (u:Nat),P3 (Lib.decDigits u) 0=u:=by
 intro u
 induction u using Nat.strongRecOn with
 | _ u ih =>
  have h1:(UInt8.ofNat (48+u % 10)).toNat=48+u % 10:=UInt8.toNat_ofNat_of_lt' (by show 48+u % 10 < 256;omega);rw [H7,Vj,h1]
  split
  ·rename_i h;simp only [P3];omega
  ·rename_i h;rw [ih (u / 10) (by omega)];omega
def ix (c:UInt8):List UInt8→Nat
 | []=>0
 | b::l=>if b=c then 0 else ix c l+1
theorem ix_le (c:UInt8):∀ (l:List UInt8),ix c l≤l.length
 | []=>Nat.le_refl _
 | b::l=>by have:=ix_le c l;unfold ix;split <;> simp only [List.length_cons] <;> omega
theorem Alz (c:UInt8):∀ (l:List UInt8) (m:Nat) (b:UInt8),m < ix c l→l[m]?=some b→b≠c
 | [],m,b,h,_=>by simp [ix] at h
 | a::l,m,b,h,hb=>by
  unfold ix at h
  split at h
  ·omega
  ·rename_i ha
   cases m with
   | zero=>simp at hb;subst hb;exact ha
   | succ m=>exact Alz c l m b (by omega) (by simpa using hb)
theorem Ama (c:UInt8):∀ (l:List UInt8),ix c l < l.length→l[ix c l]?=some c
 | [],h=>by simp at h
 | a::l,h=>by
  unfold ix at h ⊢
  split
  ·rename_i ha;subst ha;rfl
  ·rename_i ha
   rw [if_neg ha] at h;simp only [List.length_cons] at h;rw [List.getElem?_cons_succ]
   exact Ama c l (by omega)
theorem Wj {c:UInt8}:∀ {l:List UInt8} {k:Nat},(∀ (m:Nat) (b:UInt8),m < k→l[m]?=some b→b≠c)→(l[k]?=some c∨k=l.length)→ix c l=k
 | [],k,_,h=>by
  rcases h with h | h
  ·simp at h
  ·simp [ix,h]
 | a::l,k,h,hk=>by
  unfold ix
  cases k with
  | zero =>
   rcases hk with hk | hk
   ·simp at hk;rw [if_pos hk]
   ·simp at hk
  | succ k =>
   have h0:=h 0 a (by omega) (by simp);rw [if_neg h0,Wj (l:=l) (k:=k) (fun m b h1 h2=>h (m+1) b (by omega) (by simpa using h2)) (by
    rcases hk with hk | hk
    ·left;simpa using hk
    ·right;simpa using hk)]
theorem K9 (c:UInt8):∀ (l:List UInt8),Lib.index l [c]=if ix c l < l.length then ((ix c l:Nat):Int) else -1
 | []=>by simp [Lib.index,ix]
 | b::l=>by
  have ih:=K9 c l;unfold Lib.index ix
  by_cases h:b=c
  ·subst h
   simp
  ·have hp:([c].isPrefixOf (b::l))=false:=by simp [List.isPrefixOf,Ne.symm h]
   rw [if_neg (by rw [hp];simp),if_neg h]
   by_cases hl:ix c l < l.length
   ·rw [if_pos hl] at ih;have h1:¬ (Lib.index l [c]==-1)=true:=by rw [ih,beq_iff_eq];omega
    have h2:ix c l+1 < (b::l).length:=by rw [List.length_cons];omega
    rw [if_neg h1,if_pos h2,ih]
    omega
   ·rw [if_neg hl] at ih;have h1:(Lib.index l [c]==-1)=true:=by rw [ih];rfl
    have h2:¬ ix c l+1 < (b::l).length:=by rw [List.length_cons];omega
    rw [if_pos h1,if_neg h2]
theorem Oq (c:UInt8) (l:List UInt8):Lib.cut l [c]=if ix c l < l.length then (l.take (ix c l),l.drop (ix c l+1),true) else (l,[],false):=by
 unfold Lib.cut;rw [K9]
 by_cases h:ix c l < l.length
 ·simp only [if_pos h];rw [if_pos (by omega)]
  simp
 simp only [if_neg h];rw [if_neg (by omega)]
theorem I9 (c:UInt8) (s:List UInt8):(Lib.cut s [c]).1.length≤s.length∧(Lib.cut s [c]).2.1.length≤s.length:=by
 rw [Oq]
 split
 ·simp only [List.length_take,List.length_drop];omega
 simp
theorem Ed (u:Nat) (h:u < 18446744073709551616):(Lib.decDigits u).length≤20:=by
 rw [Lib.decDigits_length]
 rcases Nat.eq_zero_or_pos u with h0 | h0
 ·subst h0;rw [Lib.nDigits_small (by decide)];omega
 have h1:=Lib.numDigits_eq u h0 h
 split at h1 <;> omega
theorem Yd {c:UInt8}:∀ {d e:List UInt8},c ∉ d→ix c (d++c::e)=d.length
 | [],e,_=>by simp [ix]
 | b::d,e,h=>by
  simp only [List.cons_append,List.length_cons];unfold ix;rw [if_neg (fun hb=>h (by rw [hb];simp)),Yd (fun hd=>h (by simp [hd]))]
theorem Aeh (u:Nat):Lib.decDigits u≠[]:=by
 rw [H7];simp
theorem Afe {most:Nat} (hm:most≤18446744073709551615):∀ (l:List UInt8) (acc:Nat),(∀ c∈l,Rl c)→P3 l acc≤most→Lib.parseUintM most acc l=.ok (P3 l acc)
 | [],acc,_,_=>rfl
 | c::r,acc,hd,hv=>by
  have hc:48≤c.toNat∧c.toNat≤57:=hd c (by simp);simp only [P3] at hv ⊢;have:=Xb r (10 * acc+(c.toNat - 48));unfold Lib.parseUintM;rw [if_pos hc,if_neg (by omega),if_neg (by omega),Nat.mul_comm acc 10]
  exact Afe hm r _ (fun x hx=>hd x (by simp [hx])) hv
theorem X3 {B u:Nat} (hB:B≤64) (hu:u < 2 ^ B):Lib.parseUintB B (Lib.decDigits u)=.ok u:=by
 unfold Lib.parseUintB;have h64:2 ^ B≤2 ^ 64:=Nat.pow_le_pow_right (by decide) hB;rw [if_neg (Aeh u),Afe (by omega) _ _ (Sc u) (by rw [Kh];omega),Kh]
theorem Nk {c:UInt8} {u:Nat} (hc:¬ Rl c):c ∉ Lib.decDigits u:=fun h=>hc (Sc u c h)
theorem Lz {c:UInt8} {d e:List UInt8} (h:c ∉ d):Lib.cut (d++c::e) [c]=(d,e,true):=by
 rw [Oq,Yd h,if_pos (by simp)]
 simp
theorem Apc {c:UInt8} {d:List UInt8} (h:c ∉ d):Lib.cut d [c]=(d,[],false):=by
 have:ix c d=d.length:=Wj (fun m b _ hb=>fun e=>h (e ▸ List.mem_of_getElem? hb)) (Or.inr rfl);rw [Oq,this,if_neg (by omega)]
def Gp (ms:List (List UInt8)):List UInt8:=if ms=[] then [45] else Lib.join ms [44]
def Ep (x:ItemD):List UInt8:=Lib.decDigits x.key++[32]++Lib.decDigits x.typ++[32]++Gp x.marks++[32]++x.text
theorem Jw {s:List UInt8} (h:Dk s) {c:UInt8} (hc:¬ Dz c):c ∉ s:=fun hs=>hc (h.2 c hs)
theorem Pn (m:List UInt8) (y:List UInt8) (r:List (List UInt8)):Lib.join (m::y::r) [44]=m++44::Lib.join (y::r) [44]:=by
 rw [Lib.join_cons,Lib.join_cons]
 simp [Lib.joinTail]
theorem T2 {c:UInt8} (hc:¬ Dz c) (h44:c≠44):∀ (ms:List (List UInt8)),(∀ s∈ms,Dk s)→c ∉ Lib.join ms [44]
 | [],_=>by simp [Lib.join_nil]
 | [m],h=>by rw [Lib.join_one];exact Jw (h m (by simp)) hc
 | m::y::r,h=>by
  rw [Pn];intro hx
  rcases List.mem_append.1 hx with hx | hx
  ·exact Jw (h m (by simp)) hc hx
  ·rcases List.mem_cons.1 hx with hx | hx
   ·exact h44 hx
   ·exact T2 hc h44 (y::r) (fun s hs=>h s (by simp [hs])) hx
theorem join_ne {m:List UInt8} {r:List (List UInt8)} (h:Dk m):Lib.join (m::r) [44]≠[]:=by
 rw [Lib.join_cons];intro e;have h1:=(List.append_eq_nil_iff.1 e).1;subst h1
 exact absurd h.1.1 (by simp)
theorem Qj {m:List UInt8} {r:List (List UInt8)} (h:Dk m):Lib.join (m::r) [44]≠[45]:=by
 rw [Lib.join_cons];intro e
 cases m with
 | nil=>exact absurd h.1.1 (by simp)
 | cons b m =>
  simp only [List.cons_append,List.cons.injEq] at e;have h1:=h.2 b (by simp);rw [e.1] at h1
  exact absurd h1 (by decide)
theorem We {ms:List (List UInt8)} (h:∀ s∈ms,Dk s):(32:UInt8) ∉ Gp ms∧(10:UInt8) ∉ Gp ms:=by
 unfold Gp
 split
 ·exact ⟨by decide,by decide⟩
 exact ⟨T2 (by decide) (by decide) ms h,T2 (by decide) (by decide) ms h⟩
theorem Ahg {s:List UInt8} (h:Str s):(10:UInt8) ∉ s:=fun hs=>absurd (h.2 10 hs) (by decide)
theorem Ty {x:ItemD} (h:ItemOk 8 x):(10:UInt8) ∉ Ep x:=by
 obtain ⟨_,_,h3,_,h5⟩:=h;unfold Ep;simp only [List.mem_append,List.mem_singleton,not_or]
 exact ⟨⟨⟨⟨⟨⟨Nk (by decide),by decide⟩,Nk (by decide)⟩,by decide⟩,(We h5).2⟩,by decide⟩,Ahg h3⟩
theorem line_r (x:ItemD):Ep x=Lib.decDigits x.key++32::(Lib.decDigits x.typ++32::(Gp x.marks++32::x.text)):=by
 simp [Ep]
theorem Qi (x:ItemD) (e:List UInt8):Lib.cut (Ep x++e) [32]=(Lib.decDigits x.key,Lib.decDigits x.typ++32::(Gp x.marks++32::(x.text++e)),true):=by
 rw [line_r,show Lib.decDigits x.key++32::(Lib.decDigits x.typ++32::(Gp x.marks++32::x.text))++e=Lib.decDigits x.key++32::(Lib.decDigits x.typ++32::(Gp x.marks++32::(x.text++e))) by simp]
 exact Lz (Nk (by decide))
theorem Nd (t:Nat) (r:List UInt8):Lib.cut (Lib.decDigits t++32::r) [32]=(Lib.decDigits t,r,true):=Lz (Nk (by decide))
theorem Qh {ms:List (List UInt8)} (h:∀ s∈ms,Dk s) (r:List UInt8):Lib.cut (Gp ms++32::r) [32]=(Gp ms,r,true):=Lz (We h).1
theorem Aft {b:Nat}:∀ (ms:List (List UInt8)),(∀ s∈ms,s.length≤b)→Lib.lens ms≤b * ms.length
 | [],_=>by simp [Lib.lens]
 | m::r,h=>by
  have h1:=Aft r (fun s hs=>h s (by simp [hs]));have h2:=h m (by simp);simp only [Lib.lens,List.map_cons,List.sum_cons,List.length_cons,Nat.mul_succ] at h1 ⊢
  omega
theorem Aly {ms:List (List UInt8)} {b:Nat} (h:∀ s∈ms,s.length≤b):(Lib.join ms [44]).length≤(b+1) * ms.length:=by
 cases ms with
 | nil=>simp [Lib.join_nil]
 | cons m r =>
  rw [Lib.join_length];have h1:=Aft (m::r) h;simp only [List.length_cons,List.length_nil,Nat.add_mul] at h1 ⊢
  omega
theorem T3 {ms:List (List UInt8)} (h8:ms.length≤8) (h:∀ s∈ms,Dk s):(Lib.join ms [44]).length≤136:=by
 have h1:=Aly (b:=16) (fun s hs=>(h s hs).1.2);have h2:=Nat.mul_le_mul_left 17 h8
 omega
theorem Aiq {ms:List (List UInt8)} (h8:ms.length≤8) (h:∀ s∈ms,Dk s):(Gp ms).length≤136:=by
 unfold Gp
 split
 ·decide
 exact T3 h8 h
theorem Pk {x:ItemD} {t:Int} (h:ItemOk t x) (hk:x.key < 18446744073709551616) (ht:x.typ < 256):(Ep x).length≤300:=by
 obtain ⟨_,_,h3,h4,h5⟩:=h;have h6:=Aiq h4 h5;have h7:=Ed x.key hk;have h8:=Ed x.typ (by omega);have h9:=h3.1;unfold Ep;simp only [List.length_append,List.length_cons,List.length_nil]
 omega
def Ck (s:List UInt8):List (List UInt8):=Lib.split s [44]
theorem Sp:∀ (k:Nat) (s:List UInt8) (p:List UInt8),p∈Lib.splitK [44] 0 k s→p.length≤s.length
 | 0,s,p,h=>by simp only [Lib.splitK,List.mem_singleton] at h;subst h;exact Nat.le_refl _
 | k+1,s,p,h=>by
  unfold Lib.splitK at h
  split at h
  ·simp only [List.mem_singleton] at h;subst h;exact Nat.le_refl _
  ·rcases List.mem_cons.1 h with rfl | h
   ·simp only [List.length_take];omega
   ·have:=Sp k _ p h;simp only [List.length_drop] at this;omega
theorem Ack {s p:List UInt8} (h:p∈Ck s):p.length≤s.length:=Sp _ _ _ h
theorem Acj {m r:List UInt8} (k:Nat) (h:(44:UInt8) ∉ m):Lib.splitK [44] 0 (k+1) (m++44::r)=m::Lib.splitK [44] 0 k r:=by
 have h1:Lib.index (m++44::r) [44]=((m.length:Nat):Int):=by rw [K9,Yd h,if_pos (by simp)]
 rw [Lib.splitK,h1,if_neg (by rw [beq_iff_eq];omega)]
 congr 1
 ·simp
 congr 1;simp
theorem Q1:∀ (m:List UInt8) (r:List (List UInt8)),(∀ s∈m::r,Dk s)→Lib.splitK [44] 0 r.length (Lib.join (m::r) [44])=m::r
 | m,[],_=>by simp [Lib.join_one,Lib.splitK]
 | m,y::r,h=>by
  rw [Pn,List.length_cons,Acj _ (Jw (h m (by simp)) (by decide)),Q1 y r (fun s hs=>h s (by simp [hs]))]
theorem Uo:∀ (m:List UInt8) (r:List (List UInt8)),(∀ s∈m::r,Dk s)→(Lib.join (m::r) [44]).count 44=r.length
 | m,[],h=>by
  rw [Lib.join_one];exact List.count_eq_zero.2 (Jw (h m (by simp)) (by decide))
 | m,y::r,h=>by
  rw [Pn,List.count_append,List.count_cons_self,Uo y r (fun s hs=>h s (by simp [hs])),List.count_eq_zero.2 (Jw (h m (by simp)) (by decide))]
  simp
theorem Mf {ms:List (List UInt8)} (h:∀ s∈ms,Dk s) (h0:ms≠[]):Ck (Gp ms)=ms:=by
 cases ms with
 | nil=>exact absurd rfl h0
 | cons m r =>
  unfold Ck Lib.split Gp;rw [if_neg h0,Lib.count_one,Uo m r h,Q1 m r h]
def Rd8 (s:List UInt8) (x:ItemD):Prop:=ItemOk 8 x∧x.key < 18446744073709551616∧Ep x=s
theorem Wh {x y:ItemD} (hx:ItemOk 8 x) (hy:ItemOk 8 y) (hkx:x.key < 18446744073709551616) (hky:y.key < 18446744073709551616) (e:Ep x=Ep y):x=y:=by
 have a1:=Qi x [];have b1:=Qi y [];rw [List.append_nil,List.append_nil] at a1 b1;rw [e,b1] at a1;simp only [Prod.mk.injEq,and_true] at a1;obtain ⟨h1,h2⟩:=a1;have c1:=Nd x.typ (Gp x.marks++32::x.text);rw [← h2,Nd] at c1;simp only [Prod.mk.injEq,and_true] at c1;obtain ⟨h3,h4⟩:=c1;have d1:=Qh hx.2.2.2.2 x.text;rw [← h4,Qh hy.2.2.2.2] at d1;simp only [Prod.mk.injEq,and_true] at d1;obtain ⟨h5,h6⟩:=d1;refine Amd ?_ ?_ h6.symm ?_
 ·rw [← Kh x.key,← h1,Kh]
 ·rw [← Kh x.typ,← h3,Kh]
 by_cases hm:x.marks=[]
 ·by_cases hn:y.marks=[]
  ·rw [hm,hn]
  obtain ⟨m,r,hmr⟩:=List.exists_cons_of_ne_nil hn;rw [hm,hmr] at h5;simp only [Gp,if_true,if_neg (List.cons_ne_nil m r)] at h5
  exact absurd h5 (Qj (hy.2.2.2.2 m (by rw [hmr];simp)))
 by_cases hn:y.marks=[]
 ·obtain ⟨m,r,hmr⟩:=List.exists_cons_of_ne_nil hm;rw [hn,hmr] at h5;simp only [Gp,if_true,if_neg (List.cons_ne_nil m r)] at h5
  exact absurd h5.symm (Qj (hx.2.2.2.2 m (by rw [hmr];simp)))
 rw [← Mf hx.2.2.2.2 hm,← h5,Mf hy.2.2.2.2 hn]
theorem Rd8.uniq {s:List UInt8} {x y:ItemD} (hx:Rd8 s x) (hy:Rd8 s y):x=y:=Wh hx.1 hy.1 hx.2.1 hy.2.1 (hx.2.2.trans hy.2.2.symm)
def Dg (l:List ItemD):List UInt8:=(l.map fun x=>Ep x++[10]).flatten
theorem Acb {l:List ItemD} {i:Nat} {x:ItemD} (h:l[i]?=some x):Dg (l.take (i+1))=Dg (l.take i)++(Ep x++[10]):=by
 unfold Dg;rw [List.take_add_one,h]
 simp
def Lb (l:List ItemD):Prop:=∀ x∈l,ItemOk 8 x
instance (l:List ItemD):Decidable (Lb l):=by unfold Lb;infer_instance
theorem Lb.no {l:List ItemD} {i:Nat} {x:ItemD} (h:l[i]?=some x) (hn:¬ ItemOk 8 x):¬ Lb l:=fun h2=>hn (h2 x (List.mem_of_getElem? h))
def Ki (l:List ItemD):Int:=if 1024 < l.length then 3 else if Lb l then 0 else 6
def L3 (l:List ItemD):List UInt8:=if Ki l=0 then Dg l else []
theorem Sl {l:List ItemD} (h:1024 < l.length):Ki l=3∧L3 l=[]:=by
 have:Ki l=3:=by unfold Ki;rw [if_pos h]
 exact ⟨this,by unfold L3;rw [this];rfl⟩
theorem Sm {l:List ItemD} (h:l.length≤1024) (hn:¬ Lb l):Ki l=6∧L3 l=[]:=by
 have:Ki l=6:=by unfold Ki;rw [if_neg (by omega),if_neg hn]
 exact ⟨this,by unfold L3;rw [this];rfl⟩
theorem Xh {l:List ItemD} (h:l.length≤1024) (hn:Lb l):Ki l=0∧L3 l=Dg l:=by
 have:Ki l=0:=by unfold Ki;rw [if_neg (by omega),if_pos hn]
 exact ⟨this,by unfold L3;rw [if_pos this]⟩
theorem Wf {x:ItemD} (h:¬ Lib.join x.marks [44]=[]):Ep x=Lib.decDigits x.key++[32]++Lib.decDigits x.typ++[32]++Lib.join x.marks [44]++[32]++x.text:=by
 unfold Ep Gp;rw [if_neg (fun e=>h (by rw [e];rfl))]
theorem Wg {x:ItemD} (h:Lib.join x.marks [44]=[]) (hok:ItemOk 8 x):Ep x=Lib.decDigits x.key++[32]++Lib.decDigits x.typ++[32]++[45]++[32]++x.text:=by
 have:x.marks=[]:=by
  cases hm:x.marks with
  | nil=>rfl
  | cons m r=>rw [hm] at h;exact absurd h (join_ne (hok.2.2.2.2 m (by rw [hm];simp)))
 unfold Ep Gp;rw [if_pos this]
def Apu (lim:Nat) (s:List UInt8) (u:Nat) (b:Bool):Prop:=u < lim∧∀ m:Nat,m < lim→s=Lib.decDigits m→b=true∧u=m
def J5 (c:List UInt8):List (List UInt8):=if c=[45] then [] else Ck c
theorem Alt {ms:List (List UInt8)} (h:∀ s∈ms,Dk s):J5 (Gp ms)=ms:=by
 unfold J5
 cases ms with
 | nil=>rfl
 | cons m r =>
  have:Gp (m::r)=Lib.join (m::r) [44]:=by unfold Gp;rw [if_neg (List.cons_ne_nil m r)]
  rw [if_neg (by rw [this];exact Qj (h m (by simp))),Mf h (List.cons_ne_nil m r)]
theorem H5 {s:List UInt8} {y:ItemD} {u1 u2 lim:Nat} {b1 b2:Bool} (h:Rd8 s y) (n1:Apu 18446744073709551616 (Lib.cut s [32]).1 u1 b1) (hl:256≤lim) (n2:Apu lim (Lib.cut (Lib.cut s [32]).2.1 [32]).1 u2 b2) :
  b1=true∧b2=true∧(⟨u1,u2,(Lib.cut (Lib.cut (Lib.cut s [32]).2.1 [32]).2.1 [32]).2.1,J5 (Lib.cut (Lib.cut (Lib.cut s [32]).2.1 [32]).2.1 [32]).1⟩:ItemD)=y:=by
 obtain ⟨hok,hk,rfl⟩:=h;have ht:y.typ < 256:=by have:=hok.2.1;omega
 have a1:=Qi y [];rw [List.append_nil,List.append_nil] at a1;rw [a1] at n1 n2;simp only [Nd] at n2;rw [a1];simp only [Nd,Qh hok.2.2.2.2,Alt hok.2.2.2.2];obtain ⟨h1,h2⟩:=n1.2 y.key hk rfl;obtain ⟨h3,h4⟩:=n2.2 y.typ (by omega) rfl
 exact ⟨h1,h3,by rw [h2,h4]⟩
def Rd10 (s:List UInt8) (x:ItemD):Prop:=ItemOk 8 x∧x.key < 18446744073709551616∧Ep x++[10]=s
theorem Rd10.one {s:List UInt8} {x:ItemD} (h:Rd10 (s++[10]) x):Rd8 s x:=⟨h.1,h.2.1,by have:=h.2.2;simpa using this⟩
theorem Rd8.ten {s:List UInt8} {x:ItemD} (h:Rd8 s x):Rd10 (s++[10]) x:=⟨h.1,h.2.1,by rw [h.2.2]⟩
def MkI (y xs:List (List UInt8)) (c:List UInt8):Prop:=∃ ys,y=xs++ys∧c=Gp ys
theorem MkI.nil {y:List (List UInt8)} {c:List UInt8} (h:c=Gp y):MkI y [] c:=⟨y,rfl,h⟩
theorem MkI.step {y xs:List (List UInt8)} {c:List UInt8} (hn:∀ s∈y,Dk s) (h:MkI y xs c) (hc:¬ c=[45]) :
  ((Lib.cut c [44]).2.2=true→MkI y (xs++[(Lib.cut c [44]).1]) (Lib.cut c [44]).2.1)∧(¬ (Lib.cut c [44]).2.2=true→y=xs++[(Lib.cut c [44]).1]):=by
 obtain ⟨ys,h1,h2⟩:=h
 cases ys with
 | nil=>exact absurd h2 hc
 | cons m r =>
  have hm:(44:UInt8) ∉ m:=Jw (hn m (by rw [h1];simp)) (by decide);have hj:Gp (m::r)=Lib.join (m::r) [44]:=by unfold Gp;rw [if_neg (List.cons_ne_nil m r)]
  cases r with
  | nil =>
   rw [hj,Lib.join_one] at h2;subst h2;rw [Apc hm]
   exact ⟨fun h=>(by cases h),fun _=>h1⟩
  | cons m2 r =>
   rw [hj,Pn] at h2;subst h2;rw [Lz hm];refine ⟨fun _=>⟨m2::r,by rw [h1];simp,?_⟩,fun h=>absurd rfl h⟩;unfold Gp;rw [if_neg (List.cons_ne_nil m2 r)]
theorem Afu {t:Int} {x:ItemD} (h:¬ 0 < Hm t x):ItemOk t x:=by
 unfold Hm at h
 split at h
 ·assumption
 omega
theorem itmF_gt {t:Int} {x:ItemD} (h:0 < Hm t x):¬ ItemOk t x:=fun h2=>by rw [Dt h2] at h;omega
noncomputable def T7 (s:List UInt8):Option ItemD:=by
 classical exact if h:∃ x,Rd8 s x then some h.choose else none
theorem Oj {s:List UInt8} {x:ItemD} (h:Rd8 s x):T7 s=some x:=by
 have hx:∃ x,Rd8 s x:=⟨x,h⟩;unfold T7;rw [dif_pos hx,Rd8.uniq hx.choose_spec h]
theorem Wl {s:List UInt8} (h:∀ y,¬ Rd8 s y):T7 s=none:=by
 unfold T7;rw [dif_neg (fun ⟨x,hx⟩=>h x hx)]
noncomputable def pGo:Nat→List ItemD→List UInt8→List ItemD × Nat × Int
 | 0,_,_=>([],0,0)
 | f+1,l,s=>if s=[] then (l,0,0) else if (Lib.cut s [10]).2.2=true then
   (match T7 (Lib.cut s [10]).1 with
    | some x=>if l.length=1024 then ([],l.length+1,3) else pGo f (l++[x]) (Lib.cut s [10]).2.1
    | none=>([],l.length+1,5)) else ([],l.length+1,5)
noncomputable def Ej (s:List UInt8):List ItemD × Nat × Int:=if 1048576 < s.length then ([],0,3) else pGo (s.length+1) [] s
def Qw (s0:List UInt8) (xs:List ItemD) (c:List UInt8):Prop:=∃ f,c.length < f∧Ej s0=pGo f xs c∧xs.length≤1024∧Lb xs
theorem Aig {s:List UInt8} (h:1048576 < s.length):Ej s=([],0,3):=by unfold Ej;rw [if_pos h]
theorem Qw.start {s:List UInt8} (h:¬ 1048576 < s.length):Qw s [] s:=⟨s.length+1,by omega,by unfold Ej;rw [if_neg h],by simp,fun x hx=>by simp at hx⟩
theorem Qw.fin {s0:List UInt8} {xs:List ItemD} (h:Qw s0 xs []):Ej s0=(xs,0,0):=by
 obtain ⟨f,h1,h2,_⟩:=h
 cases f with
 | zero=>simp at h1
 | succ f=>rw [h2];unfold pGo;rw [if_pos rfl]
theorem Apd {s:List UInt8} (h:¬ s=[]):(Lib.cut s [10]).2.1.length < s.length:=by
 have h0:=List.length_pos_iff.2 h;rw [Oq]
 split
 ·simp only [List.length_drop];omega
 simpa using h0
theorem Qw.bad {s0:List UInt8} {xs:List ItemD} {c:List UInt8} (h:Qw s0 xs c) (hc:¬ c=[]) (hb:¬ (Lib.cut c [10]).2.2=true∨∀ y,¬ Rd8 (Lib.cut c [10]).1 y):Ej s0=([],xs.length+1,5):=by
 obtain ⟨f,h1,h2,_⟩:=h
 cases f with
 | zero=>omega
 | succ f =>
  rw [h2];unfold pGo;rw [if_neg hc]
  by_cases hq:(Lib.cut c [10]).2.2=true
  ·rw [if_pos hq,Wl (hb.resolve_left (fun h=>h hq))]
  ·rw [if_neg hq]
theorem Qw.full {s0:List UInt8} {xs:List ItemD} {c:List UInt8} {x:ItemD} (h:Qw s0 xs c) (hc:¬ c=[]) (hq:(Lib.cut c [10]).2.2=true) (hx:Rd8 (Lib.cut c [10]).1 x) (hl:xs.length=1024):Ej s0=([],xs.length+1,3):=by
 obtain ⟨f,h1,h2,_⟩:=h
 cases f with
 | zero=>omega
 | succ f =>
  rw [h2];unfold pGo;rw [if_neg hc,if_pos hq,Oj hx];simp only;rw [if_pos hl]
theorem Qw.next {s0:List UInt8} {xs:List ItemD} {c:List UInt8} {x:ItemD} (h:Qw s0 xs c) (hc:¬ c=[]) (hq:(Lib.cut c [10]).2.2=true) (hx:Rd8 (Lib.cut c [10]).1 x) (hl:¬ xs.length=1024):Qw s0 (xs++[x]) (Lib.cut c [10]).2.1:=by
 obtain ⟨f,h1,h2,h3,h4⟩:=h
 cases f with
 | zero=>omega
 | succ f =>
  have h5:=Apd hc;refine ⟨f,by omega,?_,by simp only [List.length_append,List.length_cons,List.length_nil];omega,fun y hy=>?_⟩
  ·rw [h2,pGo,if_neg hc,if_pos hq,Oj hx];simp only;rw [if_neg hl]
  ·rcases List.mem_append.1 hy with hy | hy
   ·exact h4 y hy
   ·simp only [List.mem_singleton] at hy;subst hy;exact hx.1
theorem Acd (x:ItemD) (l:List ItemD):Dg (x::l)=Ep x++10::Dg l:=by unfold Dg;simp
theorem Vm {l:List ItemD} (h:Lb l) (hk:∀ x∈l,x.key < 18446744073709551616∧x.typ < 256):(Dg l).length≤301 * l.length:=by
 induction l with
 | nil=>simp [Dg]
 | cons x l ih =>
  have h1:=Pk (h x (by simp)) (hk x (by simp)).1 (hk x (by simp)).2;have h2:=ih (fun y hy=>h y (by simp [hy])) (fun y hy=>hk y (by simp [hy]));rw [Acd];simp only [List.length_append,List.length_cons]
  omega
open Go Go.Y Go.Proofs
variable {w0 w:World} {G:A4} {L:List Res}
theorem Ace {w:World} {x:Nat}:Calls Tryz.prog 49 #[.int .i32 (x:Int)] w (fun e w'=>e=.returned (.bool (Iw x))∧∃ q,w' = w.drewN q):=by
 refine Ay (vs:=[_]) Tryz.func49 rfl (n:=9) rfl rfl<|Ac<|Ab rfl<|Ac<|Aa rfl<|C2 rfl rfl<|Aa rfl<|?_
 rcases bE (decide ((x:Int) < 32)) with h1b | h2b
 ·skip
  have h1:=dT h1b;refine g_f rfl h1b<|g_f rfl h1b<|Bh rfl h1b rfl<|Ab rfl<|Ae<|Ad rfl rfl<|?_
  exact ⟨by have h_:Iw x=true:=(by unfold Iw;first | (simp_all;omega) | simp_all);rw [h_],0,rfl⟩
 have h2:=dF h2b;refine g_t rfl h2b<|Aa rfl<|g_t rfl h2b<|Da rfl rfl<|Be rfl h2b rfl<|Ab rfl<|Ae<|Ad rfl rfl<|?_
 exact ⟨by have h_:Iw x=(decide (126 < (x:Int))):=(by unfold Iw;first | (simp_all;omega) | simp_all);rw [h_],0,rfl⟩
theorem Ads (M:Mem w0 G L w) {s:List UInt8}:Calls Tryz.prog 103 #[.string (str s),.func (.func 49) #[] #[]] w (Cs w0 G L fun v=>∃ z:Int,v=.int .i64 z∧(z < 0↔∀ c∈s,Jn c)):=by
 have hp:PredAt Tryz.prog 49 #[] encR Iw w:=fun W x _=>(Ace (x:=x));refine (Any.strings_IndexFunc Tryz.laysGw15 49 #[] (Go.Proofs.enters_of Tryz.func49 (by kernel_rfl) rfl) Iw (str s) w hp).mono ?_;rintro e w' ⟨rfl,hb⟩
 exact ⟨M.below' hb,_,rfl,Yg s⟩
theorem Abd (M:Mem w0 G L w) {s:List UInt8}:Calls Tryz.prog 48 #[.string (str s),.func (.func 49) #[] #[]] w (Cs w0 G L fun v=>∃ b:Bool,v=.bool b∧(b=true↔¬ ∀ c∈s,Jn c)):=by
 refine Ay (vs:=[_,_]) Tryz.func48 rfl (n:=9) rfl rfl<|Ac<|Ab rfl<|Ac<|Aa rfl<|Aa rfl<|Bs Aeg rfl rfl (Ads (s:=s) M)<|?_;clear M;rintro _ w M ⟨z1,rfl,hz1⟩
 refine Kv rfl rfl<|Ab rfl<|Ae<|Ad rfl rfl<|?_
 exact ⟨M,_,rfl,by rw [decide_eq_true_iff,← hz1];omega⟩
theorem Adn {w:World} {x:Nat}:Calls Tryz.prog 105 #[.int .i32 (x:Int)] w (fun e w'=>e=.returned (.bool (Nr x))∧∃ q,w' = w.drewN q):=by
 refine Ay (vs:=[_]) Tryz.func105 rfl (n:=17) rfl rfl<|Ac<|Ab rfl<|Ac<|Aa rfl<|C2 rfl rfl<|Aa rfl<|?_
 rcases bE (decide ((x:Int) < 97)) with h1b | h4b
 ·skip
  have h1:=dT h1b;refine g_f rfl h1b<|g_f rfl h1b<|Bh rfl h1b rfl<|Aa rfl<|g_t rfl rfl<|Aa rfl<|g_t rfl rfl<|C2 rfl rfl<|g_t rfl rfl<|Aa rfl<|?_
  rcases bE (decide ((x:Int) < 48)) with h2b | h3b
  ·skip
   have h2:=dT h2b;refine g_f rfl h2b<|g_f rfl h2b<|g_t rfl rfl<|Bh rfl h2b rfl<|Bh rfl rfl rfl<|Ab rfl<|Ae<|Ad rfl rfl<|?_
   exact ⟨by have h_:Nr x=true:=(by unfold Nr;first | (simp_all;omega) | simp_all);rw [h_],0,rfl⟩
  have h3:=dF h3b;refine g_t rfl h3b<|Aa rfl<|g_t rfl h3b<|Da rfl rfl<|g_t rfl rfl<|Be rfl h3b rfl<|Bh rfl rfl rfl<|Ab rfl<|Ae<|Ad rfl rfl<|?_
  exact ⟨by have h_:Nr x=(decide (57 < (x:Int))):=(by unfold Nr;first | (simp_all;omega) | simp_all);rw [h_],0,rfl⟩
 have h4:=dF h4b;refine g_t rfl h4b<|Aa rfl<|g_t rfl h4b<|Da rfl rfl<|Be rfl h4b rfl<|Aa rfl<|?_
 rcases bE (decide (122 < (x:Int))) with h5b | h8b
 ·skip
  have h5:=dT h5b;refine g_t rfl h5b<|Aa rfl<|g_t rfl h5b<|C2 rfl rfl<|g_t rfl h5b<|Aa rfl<|?_
  rcases bE (decide ((x:Int) < 48)) with h6b | h7b
  ·skip
   have h6:=dT h6b;refine g_f rfl h6b<|g_f rfl h6b<|g_t rfl h5b<|Bh rfl h6b rfl<|Bh rfl h5b rfl<|Ab rfl<|Ae<|Ad rfl rfl<|?_
   exact ⟨by have h_:Nr x=true:=(by unfold Nr;first | (simp_all;omega) | simp_all);rw [h_],0,rfl⟩
  have h7:=dF h7b;refine g_t rfl h7b<|Aa rfl<|g_t rfl h7b<|Da rfl rfl<|g_t rfl h5b<|Be rfl h7b rfl<|Bh rfl h5b rfl<|Ab rfl<|Ae<|Ad rfl rfl<|?_
  exact ⟨by have h_:Nr x=(decide (57 < (x:Int))):=(by unfold Nr;first | (simp_all;omega) | simp_all);rw [h_],0,rfl⟩
 have h8:=dF h8b;refine g_f rfl h8b<|g_f rfl h8b<|g_f rfl h8b<|g_u rfl<|g_u rfl<|g_f rfl h8b<|Be rfl h8b rfl<|Ab rfl<|Ae<|Ad rfl rfl<|?_
 exact ⟨by have h_:Nr x=false:=(by unfold Nr;first | (simp_all;omega) | simp_all);rw [h_],0,rfl⟩
theorem Adt (M:Mem w0 G L w) {s:List UInt8}:Calls Tryz.prog 103 #[.string (str s),.func (.func 105) #[] #[]] w (Cs w0 G L fun v=>∃ z:Int,v=.int .i64 z∧(z < 0↔∀ c∈s,Dz c)):=by
 have hp:PredAt Tryz.prog 105 #[] encR Nr w:=fun W x _=>(Adn (x:=x));refine (Any.strings_IndexFunc Tryz.laysGw15 105 #[] (Go.Proofs.enters_of Tryz.func105 (by kernel_rfl) rfl) Nr (str s) w hp).mono ?_;rintro e w' ⟨rfl,hb⟩
 exact ⟨M.below' hb,_,rfl,Amk s⟩
theorem Abe (M:Mem w0 G L w) {s:List UInt8}:Calls Tryz.prog 48 #[.string (str s),.func (.func 105) #[] #[]] w (Cs w0 G L fun v=>∃ b:Bool,v=.bool b∧(b=true↔¬ ∀ c∈s,Dz c)):=by
 refine Ay (vs:=[_,_]) Tryz.func48 rfl (n:=9) rfl rfl<|Ac<|Ab rfl<|Ac<|Aa rfl<|Aa rfl<|Bs Aeg rfl rfl (Adt (s:=s) M)<|?_;clear M;rintro _ w M ⟨z1,rfl,hz1⟩
 refine Kv rfl rfl<|Ab rfl<|Ae<|Ad rfl rfl<|?_
 exact ⟨M,_,rfl,by rw [decide_eq_true_iff,← hz1];omega⟩
theorem Aii (M:Mem w0 G L w) {s:List UInt8} (hs:s.length≤9223372036854775807):Calls Tryz.prog 53 #[.string (str s)] w (Cs w0 G L fun v=>∃ b:Bool,v=.bool b∧(b=true↔Dk s)):=by
 refine Ay (vs:=[_]) Tryz.func53 rfl (n:=17) rfl rfl<|Ac<|Ab rfl<|Ac<|Ab rfl<|Ag<|?_
 have hs0:s=[]↔s.length=0:=by cases s <;> simp
 refine Az<|Aa rfl<|Mg rfl rfl<|Aa rfl<|?_
 rcases bE (!(decide (s=([]:List UInt8)))) with h1b | h5b
 ·skip
  have h1:=dF (Ah h1b);have h1c:(decide (s=([]:List UInt8)))=false:=(Ah h1b);refine g_t rfl (Ak h1c)<|Aa rfl<|g_t rfl (Ak h1c)<|Ar (fun a F=>Dc Bq.k (F.ev rfl)) rfl<|g_t rfl (Ak h1c)<|Jk rfl rfl<|Bh rfl (Ak h1c) rfl<|Aa rfl<|?_
  rcases bE (decide ((((s).length:Nat):Int)≤16)) with h2b | h4b
  ·skip
   have h2:=dT h2b;refine g_t rfl h2b<|Aa rfl<|g_t rfl h2b<|Aa rfl<|g_t rfl h2b<|Bs ent48 rfl rfl (Abe (s:=s) M)<|?_;clear M;rintro _ w M ⟨b3,rfl,hb3⟩
   refine g_t rfl h2b<|Dh rfl<|Bh rfl h2b rfl<|Ab rfl<|Ae<|Ad rfl rfl<|?_
   exact ⟨M,(!(b3)),rfl,(by clear M;unfold Dk;grind)⟩
  have h4:=dF h4b;refine g_f rfl h4b<|g_f rfl h4b<|g_f rfl h4b<|g_f rfl h4b<|Be rfl h4b rfl<|Ab rfl<|Ae<|Ad rfl rfl<|?_
  exact ⟨M,false,rfl,(by clear M;unfold Dk;grind)⟩
 have h5:=dT (Ai h5b);have h5c:(decide (s=([]:List UInt8)))=true:=(Ai h5b);refine g_f rfl (Aj h5c)<|g_f rfl (Aj h5c)<|g_f rfl (Aj h5c)<|Be rfl (Aj h5c) rfl<|Aa rfl<|g_f rfl rfl<|g_f rfl rfl<|g_f rfl rfl<|g_f rfl rfl<|Be rfl rfl rfl<|Ab rfl<|Ae<|Ad rfl rfl<|?_
 exact ⟨M,false,rfl,(by clear M;unfold Dk;grind)⟩
theorem Fb (M:Mem w0 G L w) {s:List UInt8} (hs:s.length≤9223372036854775807):Calls Tryz.prog 107 #[.string (str s)] w (Cs w0 G L fun v=>v=.int .i64 (if Dk s then (1:Int) else 0)):=by
 refine Ay (vs:=[_]) Tryz.func107 rfl (n:=37) rfl rfl<|Ac<|Ab rfl<|Ag<|Ac<|Aa rfl<|Ar (fun a F=>Dc Bq.k (F.ev rfl)) rfl<|C2 rfl rfl<|Aa rfl<|?_
 rcases bE (decide ((((s).length:Nat):Int) < 1)) with h1b | h2b
 ·skip
  have h1:=dT h1b;refine g_f rfl h1b<|g_f rfl h1b<|g_f rfl h1b<|Bh rfl h1b rfl<|Bl rfl rfl<|Ac<|Ab rfl<|Ae<|Ad rfl rfl<|?_
  exact ⟨M,by rw [if_neg (fun h_:Dk s=>by have:=h_.1;omega)]⟩
 have h2:=dF h2b;refine g_t rfl h2b<|Aa rfl<|g_t rfl h2b<|Ar (fun a F=>Dc Bq.k (F.ev rfl)) rfl<|g_t rfl h2b<|Da rfl rfl<|Be rfl h2b rfl<|Ap rfl ?_ ?_
 ·intro h3b;have h3:=dT h3b;refine Ac<|Ab rfl<|Ae<|Ad rfl rfl<|?_
  exact ⟨M,by rw [if_neg (fun h_:Dk s=>by have:=h_.1;omega)]⟩
 intro h4b;have h4:=dF h4b;refine Aq<|Ag<|Ac<|Ab rfl<|Ax<|fun a F=>Bz (fun m a' w'=>∃ (i:Nat),m=s.length - i∧Fits 37 a' [(0,.string (str s)),(3,.int .i64 ((i:Nat):Int))]∧Mem w0 G (L) w'∧(i≤s.length)∧(∀ (m:Nat) (b:UInt8),m < i→s[m]?=some b→Dz b)) _ ⟨0,rfl,F.to ⟨rfl,rfl,trivial⟩,M,by omega,fun m b h=>by omega⟩ ?_
 clear F M;rintro m a w ⟨i,rfl,F,M,hi,hA⟩;revert a;refine Ag<|Ac<|Aa rfl<|Aa rfl<|Ar (fun a F=>Dc Bq.k (F.ev rfl)) rfl<|C2 rfl rfl<|Ap rfl ?_ ?_
 ·intro h5b;have h5:=dT h5b;refine Aq<|Ag<|Ax<|Ac<|Aa rfl<|Aa rfl<|?_
  obtain ⟨B6,hB6⟩:=A2 (xs:=(s)) (i:=i) (by omega);have lB6:=V6 B6;refine Ar (fun a F=>D1 (i:=i) Bq.k (F.ev rfl) (F.ev rfl) hB6) rfl<|Ab rfl<|Ac<|Aa rfl<|Kv rfl rfl<|Aa rfl<|?_
  rcases bE (decide (97≤nb B6)) with h7b | h14b
  ·skip
   have h7:=dT h7b;refine g_t rfl h7b<|Aa rfl<|g_t rfl h7b<|Jk rfl rfl<|Bh rfl h7b rfl<|Aa rfl<|?_
   rcases bE (decide (nb B6≤122)) with h8b | h9b
   ·skip
    have h8:=dT h8b;refine g_f rfl h8b<|g_f rfl h8b<|g_f rfl h8b<|g_u rfl<|g_u rfl<|g_f rfl h8b<|Bh rfl h8b rfl<|Dh rfl<|D4 rfl rfl<|Aq<|Az<|Aa rfl<|Bx rfl rfl<|Ab rfl<|Bc<|Cm<|fun a F=>?_
    exact ⟨_,by omega,i+1,rfl,F.to ⟨rfl,rfl,trivial⟩,M,by omega,Fo hA hB6 (by unfold Dz;omega)⟩
   have h9:=dF h9b;refine g_t rfl h9b<|Aa rfl<|g_t rfl h9b<|Kv rfl rfl<|g_t rfl h9b<|Aa rfl<|?_
   rcases bE (decide (48≤nb B6)) with h10b | h13b
   ·skip
    have h10:=dT h10b;refine g_t rfl h10b<|Aa rfl<|g_t rfl h10b<|Jk rfl rfl<|g_t rfl h9b<|Bh rfl h10b rfl<|Be rfl h9b rfl<|Dh rfl<|Ap rfl ?_ ?_
    ·intro h11b;have h11:=dF (Ah h11b);refine Ac<|Ab rfl<|Ae<|Ad rfl rfl<|?_
     exact ⟨M,by rw [if_neg (fun h_:Dk s=>absurd h_.2 (Hc hB6 (by unfold Dz;omega)))]⟩
    intro h12b;have h12:=dT (Ai h12b);refine Aq<|Az<|Aa rfl<|Bx rfl rfl<|Ab rfl<|Bc<|Cm<|fun a F=>?_
    exact ⟨_,by omega,i+1,rfl,F.to ⟨rfl,rfl,trivial⟩,M,by omega,Fo hA hB6 (by unfold Dz;omega)⟩
   have h13:=dF h13b;refine g_f rfl h13b<|g_f rfl h13b<|g_t rfl h9b<|Be rfl h13b rfl<|Be rfl h9b rfl<|Dh rfl<|Bl rfl rfl<|Ac<|Ab rfl<|Ae<|Ad rfl rfl<|?_
   exact ⟨M,by rw [if_neg (fun h_:Dk s=>absurd h_.2 (Hc hB6 (by unfold Dz;omega)))]⟩
  have h14:=dF h14b;refine g_f rfl h14b<|g_f rfl h14b<|Be rfl h14b rfl<|Aa rfl<|g_t rfl rfl<|Aa rfl<|g_t rfl rfl<|Kv rfl rfl<|g_t rfl rfl<|Aa rfl<|?_
  rcases bE (decide (48≤nb B6)) with h15b | h18b
  ·skip
   have h15:=dT h15b;refine g_t rfl h15b<|Aa rfl<|g_t rfl h15b<|Jk rfl rfl<|g_t rfl rfl<|Bh rfl h15b rfl<|Be rfl rfl rfl<|Dh rfl<|Ap rfl ?_ ?_
   ·intro h16b;have h16:=dF (Ah h16b);refine Ac<|Ab rfl<|Ae<|Ad rfl rfl<|?_
    exact ⟨M,by rw [if_neg (fun h_:Dk s=>absurd h_.2 (Hc hB6 (by unfold Dz;omega)))]⟩
   intro h17b;have h17:=dT (Ai h17b);refine Aq<|Az<|Aa rfl<|Bx rfl rfl<|Ab rfl<|Bc<|Cm<|fun a F=>?_
   exact ⟨_,by omega,i+1,rfl,F.to ⟨rfl,rfl,trivial⟩,M,by omega,Fo hA hB6 (by unfold Dz;omega)⟩
  have h18:=dF h18b;refine g_f rfl h18b<|g_f rfl h18b<|g_t rfl rfl<|Be rfl h18b rfl<|Be rfl rfl rfl<|Dh rfl<|Bl rfl rfl<|Ac<|Ab rfl<|Ae<|Ad rfl rfl<|?_
  exact ⟨M,by rw [if_neg (fun h_:Dk s=>absurd h_.2 (Hc hB6 (by unfold Dz;omega)))]⟩
 intro h19b;have h19:=dF h19b;refine B5<|Bw<|Bw<|Dj<|Ac<|Ab rfl<|Ae<|Ad rfl rfl<|?_
 exact ⟨M,by rw [if_pos (show Dk s from ⟨by omega,Fj hA (by omega)⟩)]⟩
theorem Zd (M:Mem w0 G L w) {s:List UInt8} (hs:s.length≤9223372036854775807):Calls Tryz.prog 106 #[.string (str s)] w (Cs w0 G L fun v=>v=.int .i64 (if Str s then (1:Int) else 0)):=by
 refine Ay (vs:=[_]) Tryz.func106 rfl (n:=23) rfl rfl<|Ac<|Ab rfl<|Ag<|Ac<|Aa rfl<|Ar (fun a F=>Dc Bq.k (F.ev rfl)) rfl<|Da rfl rfl<|Ap rfl ?_ ?_
 ·intro h1b;have h1:=dT h1b;refine Ac<|Ab rfl<|Ae<|Ad rfl rfl<|?_
  exact ⟨M,by rw [if_neg (fun h_:Str s=>by have:=h_.1;omega)]⟩
 intro h2b;have h2:=dF h2b;refine Aq<|Ag<|Ac<|Ab rfl<|Ax<|fun a F=>Bz (fun m a' w'=>∃ (i:Nat),m=s.length - i∧Fits 23 a' [(0,.string (str s)),(3,.int .i64 ((i:Nat):Int))]∧Mem w0 G (L) w'∧(i≤s.length)∧(∀ (m:Nat) (b:UInt8),m < i→s[m]?=some b→Jn b)) _ ⟨0,rfl,F.to ⟨rfl,rfl,trivial⟩,M,by omega,fun m b h=>by omega⟩ ?_
 clear F M;rintro m a w ⟨i,rfl,F,M,hi,hA⟩;revert a;refine Ag<|Ac<|Aa rfl<|Aa rfl<|Ar (fun a F=>Dc Bq.k (F.ev rfl)) rfl<|C2 rfl rfl<|Ap rfl ?_ ?_
 ·intro h3b;have h3:=dT h3b;refine Aq<|Ag<|Ax<|Ac<|Aa rfl<|Aa rfl<|?_
  obtain ⟨B4,hB4⟩:=A2 (xs:=(s)) (i:=i) (by omega);have lB4:=V6 B4;refine Ar (fun a F=>D1 (i:=i) Bq.k (F.ev rfl) (F.ev rfl) hB4) rfl<|C2 rfl rfl<|Aa rfl<|?_
  rcases bE (decide (nb B4 < 32)) with h5b | h6b
  ·skip
   have h5:=dT h5b;refine g_f rfl h5b<|g_f rfl h5b<|g_f rfl h5b<|g_f rfl h5b<|Bh rfl h5b rfl<|Bl rfl rfl<|Ac<|Ab rfl<|Ae<|Ad rfl rfl<|?_
   exact ⟨M,by rw [if_neg (fun h_:Str s=>absurd h_.2 (Hc hB4 (by unfold Jn;omega)))]⟩
  have h6:=dF h6b;refine g_t rfl h6b<|Aa rfl<|g_t rfl h6b<|Aa rfl<|g_t rfl h6b<|Ar (fun a F=>D1 (i:=i) Bq.k (F.ev rfl) (F.ev rfl) hB4) rfl<|g_t rfl h6b<|Da rfl rfl<|Be rfl h6b rfl<|Ap rfl ?_ ?_
  ·intro h7b;have h7:=dT h7b;refine Ac<|Ab rfl<|Ae<|Ad rfl rfl<|?_
   exact ⟨M,by rw [if_neg (fun h_:Str s=>absurd h_.2 (Hc hB4 (by unfold Jn;omega)))]⟩
  intro h8b;have h8:=dF h8b;refine Aq<|Az<|Aa rfl<|Bx rfl rfl<|Ab rfl<|Bc<|Cm<|fun a F=>?_
  exact ⟨_,by omega,i+1,rfl,F.to ⟨rfl,rfl,trivial⟩,M,by omega,Fo hA hB4 (by unfold Jn;omega)⟩
 intro h9b;have h9:=dF h9b;refine B5<|Bw<|Bw<|Dj<|Ac<|Ab rfl<|Ae<|Ad rfl rfl<|?_
 exact ⟨M,by rw [if_pos (show Str s from ⟨by omega,Fj hA (by omega)⟩)]⟩
theorem Ael (M:Mem w0 G L w) {s:List UInt8} (hs:s.length≤9223372036854775807):Calls Tryz.prog 52 #[.string (str s)] w (Cs w0 G L fun v=>∃ b:Bool,v=.bool b∧(b=true↔¬ Dk s)):=by
 refine Ay (vs:=[_]) Tryz.func52 rfl (n:=6) rfl rfl<|Ac<|Ab rfl<|Ac<|Aa rfl<|Bs ent53 rfl rfl (Aii (s:=s) M (by assumption))<|?_;clear M;rintro _ w M ⟨b1,rfl,hb1⟩
 refine Dh rfl<|Ab rfl<|Ae<|Ad rfl rfl<|?_
 exact ⟨M,(!(b1)),rfl,(by clear M;grind)⟩
theorem Ql (M:Mem w0 G L w) {ad:Option Addr} {cd:Nat} {xs:List (List UInt8)} (S:Au D3 1 G (.slice ad xs.length cd) xs):Calls Tryz.prog 104 #[.slice ad xs.length cd,.func (.func 52) #[] #[]] w (Cs w0 G L fun v=>∃ z:Int,v=.int .i64 z∧(0≤z↔¬ ∀ s∈xs,Dk s)):=by
 have bS:=S.bound;refine Ay (vs:=[_,_]) Tryz.func104 rfl (n:=19) rfl rfl<|Ac<|Ab rfl<|Ag<|Ac<|Aa rfl<|B8 Cw.k rfl<|Aa rfl<|Ax<|fun a F=>Bz (fun m a' w'=>∃ (i:Nat),m=xs.length - i∧Fits 19 a' [(0,.slice ad xs.length cd),(1,.func (.func 52) #[] #[]),(7,.int .i64 ((xs.length:Nat):Int)),(8,.int .i64 ((i:Nat):Int))]∧Mem w0 G (L) w'∧(i≤xs.length)∧(∀ (m:Nat) (s:List UInt8),m < i→xs[m]?=some s→Dk s)) _ ⟨0,rfl,F.to ⟨rfl,rfl,rfl,rfl,trivial⟩,M,Nat.zero_le _,fun m d h=>by omega⟩ ?_
 clear F M;rintro m a w ⟨i,rfl,F,M,hi,hA⟩;revert a;refine Ac<|C2 rfl rfl<|Ag<|Ap rfl ?_ ?_
 ·intro h1b;have h1:=dT h1b;refine Aq<|Ag<|Ax<|Ac<|Aa rfl<|Ab rfl<|Ac<|Aa rfl<|Aa rfl<|Aa rfl<|?_
  obtain ⟨Xe2,hXe2⟩:=A2 (xs:=xs) (i:=i) (by omega);obtain ⟨be2,oe2,_,Ie2,_,Ae2,⟨rfl,hsle2⟩⟩:=S.at hXe2;refine D0 Cw.k Bq Ie2 rfl rfl<|Dq Bq M Ae2 0 rfl rfl (by omega) rfl<|Acm ent52 (caps:=[]) rfl rfl rfl (Ael (s:=Xe2) M (by omega))<|?_;clear M;rintro _ w M ⟨b3,rfl,hb3⟩
  refine Ap rfl ?_ ?_
  ·intro h4b;have h4:(b3)=true:=h4b;refine Ac<|Aa rfl<|Ab rfl<|Ae<|Ad rfl rfl<|?_
   exact ⟨M,_,rfl,⟨fun _ h_=>(hb3.1 (by assumption)) (h_ _ (List.mem_of_getElem? hXe2)),fun _=>by omega⟩⟩
  intro h5b;have h5:(b3)=false:=h5b;refine Aq<|Az<|Bx rfl rfl<|Aa rfl<|Bc<|Cm<|fun a F=>?_
  exact ⟨_,by omega,i+1,rfl,F.to ⟨rfl,rfl,rfl,rfl,trivial⟩,M,by omega,Nb hA hXe2 (by clear F M;grind)⟩
 intro h6b;have h6:=dF h6b;refine B5<|Bw<|Bw<|Dj<|Ac<|Ab rfl<|Ae<|Ad rfl rfl<|?_
 exact ⟨M,_,rfl,⟨fun h=>by omega,fun h=>absurd (G7 hA (by omega)) h⟩⟩
theorem Ot (M:Mem w0 G L w) {ad:Option Addr} {cd:Nat} {xs:List (List UInt8)} (S:Au D3 1 G (.slice ad xs.length cd) xs):Calls Tryz.prog 51 #[.slice ad xs.length cd,.func (.func 52) #[] #[]] w (Cs w0 G L fun v=>∃ b:Bool,v=.bool b∧(b=true↔¬ ∀ s∈xs,Dk s)):=by
 refine Ay (vs:=[_,_]) Tryz.func51 rfl (n:=9) rfl rfl<|Ac<|Ab rfl<|Ac<|Aa rfl<|Aa rfl<|Bs Aot rfl rfl (Ql (xs:=xs) M S)<|?_;clear M;rintro _ w M ⟨z1,rfl,hz1⟩
 refine Kv rfl rfl<|Ab rfl<|Ae<|Ad rfl rfl<|?_
 exact ⟨M,_,rfl,decide_eq_true_iff.trans hz1⟩
theorem Aji {w0 w:World} {G:A4} {L:List Res} {b:Nat} {x:ItemD} {ma:Option Addr} {mc:Nat} (M:Mem w0 G (.blk b [.int .u64 ((x.key:Nat):Int),.int .u8 ((x.typ:Nat):Int),.string (str x.text),.slice ma x.marks.length mc] 26::L) w) (SM:Au D3 1 G (.slice ma x.marks.length mc) x.marks) :
  Calls Tryz.prog 47 #[.pointer (some ⟨b,0,none⟩)] w (Cs w0 G (.blk b [.int .u64 ((x.key:Nat):Int),.int .u8 ((x.typ:Nat):Int),.string (str x.text),.slice ma x.marks.length mc] 26::L) fun v=>∃ bb:Bool,v=.bool bb∧(bb=true↔Str x.text)):=by
 refine Ay (vs:=[_]) Tryz.func47 rfl (n:=12) rfl rfl<|Ac<|Ab rfl<|Ac<|A0 Bf.k rfl rfl<|Bg Bq M 0 rfl rfl rfl rfl<|Ar (fun a F=>Dc Bq.k (F.ev rfl)) rfl<|Jk rfl rfl<|Aa rfl<|?_
 rcases bE (decide ((((x.text).length:Nat):Int)≤64)) with h1b | h3b
 ·skip
  have h1:=dT h1b;refine g_t rfl h1b<|A0 Bf.k rfl rfl<|g_t rfl h1b<|Bg Bq M 0 rfl rfl rfl rfl<|g_t rfl h1b<|Bs ent48 rfl rfl (Abd (s:=x.text) M)<|?_;clear M;rintro _ w M ⟨b2,rfl,hb2⟩
  refine g_t rfl h1b<|Dh rfl<|Bh rfl h1b rfl<|Ab rfl<|Ae<|Ad rfl rfl<|?_
  exact ⟨M,(!(b2)),rfl,(by clear M;unfold Str;grind)⟩
 have h3:=dF h3b;refine g_f rfl h3b<|g_f rfl h3b<|g_f rfl h3b<|g_f rfl h3b<|Be rfl h3b rfl<|Ab rfl<|Ae<|Ad rfl rfl<|?_
 exact ⟨M,false,rfl,(by clear M;unfold Str;grind)⟩
theorem Ajh {w0 w:World} {G:A4} {L:List Res} {b:Nat} {x:ItemD} {ma:Option Addr} {mc:Nat} (M:Mem w0 G (.blk b [.int .u64 ((x.key:Nat):Int),.int .u8 ((x.typ:Nat):Int),.string (str x.text),.slice ma x.marks.length mc] 26::L) w) (SM:Au D3 1 G (.slice ma x.marks.length mc) x.marks) :
  Calls Tryz.prog 50 #[.pointer (some ⟨b,0,none⟩)] w (Cs w0 G (.blk b [.int .u64 ((x.key:Nat):Int),.int .u8 ((x.typ:Nat):Int),.string (str x.text),.slice ma x.marks.length mc] 26::L) fun v=>∃ bb:Bool,v=.bool bb∧(bb=true↔(x.marks.length≤8∧∀ s∈x.marks,Dk s))):=by
 refine Ay (vs:=[_]) Tryz.func50 rfl (n:=12) rfl rfl<|Ac<|Ab rfl<|Ac<|A0 Bf.k rfl rfl<|Bg Cw M 0 rfl rfl rfl rfl<|B8 Cw.k rfl<|Jk rfl rfl<|Aa rfl<|?_
 rcases bE (decide (((x.marks.length:Nat):Int)≤8)) with h1b | h3b
 ·skip
  have h1:=dT h1b;refine g_t rfl h1b<|A0 Bf.k rfl rfl<|g_t rfl h1b<|Bg Cw M 0 rfl rfl rfl rfl<|g_t rfl h1b<|Bs ent51 rfl rfl (Ot (xs:=x.marks) M SM)<|?_;clear M;rintro _ w M ⟨b2,rfl,hb2⟩
  refine g_t rfl h1b<|Dh rfl<|Bh rfl h1b rfl<|Ab rfl<|Ae<|Ad rfl rfl<|?_
  exact ⟨M,(!(b2)),rfl,(by clear M;grind)⟩
 have h3:=dF h3b;refine g_f rfl h3b<|g_f rfl h3b<|g_f rfl h3b<|g_f rfl h3b<|Be rfl h3b rfl<|Ab rfl<|Ae<|Ad rfl rfl<|?_
 exact ⟨M,false,rfl,(by clear M;grind)⟩
theorem J9 (M:Mem w0 G L w) {x:ItemD} {ma:Option Addr} {mc:Nat} (hI:(x.key < 18446744073709551616∧x.typ < 256∧x.text.length≤9223372036854775807)) (SM:Au D3 1 G (.slice ma x.marks.length mc) x.marks) {t:Int}:Calls Tryz.prog 14 #[.agg #[.int .u64 ((x.key:Nat):Int),.int .u8 ((x.typ:Nat):Int),.string (str x.text),.slice ma x.marks.length mc],.int .i64 t] w (Cs w0 G L fun v=>v=.int .i64 (Hm t x)):=by
 refine Ay (vs:=[_,_]) Tryz.func14 rfl (n:=29) rfl rfl<|Ag<|?_
 obtain ⟨hI1,hI2,hI3⟩:=hI;refine Az<|Cz M rfl rfl rfl<|?_;clear M;intro b1 w M
 refine Ab rfl<|Ac<|Ar (fun a F=>Ds (vs:=#[.pointer (some ⟨b1,0,none⟩)]) (by simp only [List.map_toArray,List.map_cons,List.map_nil,F.ev (x:=.tmp 2) rfl])) rfl<|Ab rfl<|Ac<|Ar (fun a F=>Ds (vs:=#[.pointer (some ⟨b1,0,none⟩)]) (by simp only [List.map_toArray,List.map_cons,List.map_nil,F.ev (x:=.tmp 2) rfl])) rfl<|Ab rfl<|Ag<|Ac<|A0 Bf.k rfl rfl<|Bg El M 0 rfl rfl rfl rfl<|C3 rfl rfl<|Aa rfl<|?_
 rcases bE (decide (((x.key:Nat):Int)=0)) with h2b | h3b
 ·skip
  have h2:=dT h2b;refine g_f rfl h2b<|g_f rfl h2b<|g_f rfl h2b<|g_f rfl h2b<|g_f rfl h2b<|Bh rfl h2b rfl<|Aa rfl<|g_f rfl rfl<|g_f rfl rfl<|g_f rfl rfl<|Bh rfl rfl rfl<|Aa rfl<|g_f rfl rfl<|g_f rfl rfl<|g_f rfl rfl<|Bh rfl rfl rfl<|Bl rfl rfl<|Ac<|Ab rfl<|Bc<|Cm<|?_
  refine Ae<|Ad rfl rfl<|?_
  exact ⟨M.weaken dS1,by rw [E8 (by clear M;unfold ItemOk;grind)]⟩
 have h3:=dF h3b;refine g_t rfl h3b<|A0 Bf.k rfl rfl<|g_t rfl h3b<|Bg Fa M 0 rfl rfl rfl rfl<|g_t rfl h3b<|Ar (fun a F=>Ew Cg.k ⟨_,by rw [D7 Fa.k]⟩ (F.ev rfl) (C0 (by omega) (by omega))) rfl<|g_t rfl h3b<|Aa rfl<|g_t rfl h3b<|Kv rfl rfl<|Be rfl h3b rfl<|Aa rfl<|?_
 rcases bE (decide (t≤((x.typ:Nat):Int))) with h4b | h5b
 ·skip
  have h4:=dT h4b;refine g_f rfl h4b<|g_f rfl h4b<|g_f rfl h4b<|Bh rfl h4b rfl<|Aa rfl<|g_f rfl rfl<|g_f rfl rfl<|g_f rfl rfl<|Bh rfl rfl rfl<|Bl rfl rfl<|Ac<|Ab rfl<|Ae<|Ad rfl rfl<|?_
  exact ⟨M.weaken dS1,by rw [E8 (by clear M;unfold ItemOk;grind)]⟩
 have h5:=dF h5b;refine g_t rfl h5b<|Aa rfl<|g_t rfl h5b<|?_
 change Mem w0 G (_::L) _ at M;refine Acm ent47 (caps:=[.pointer (some ⟨b1,0,none⟩)]) rfl rfl rfl (Aji (x:=x) M SM)<|?_;clear M;rintro _ w M ⟨b6,rfl,hb6⟩
 refine g_t rfl h5b<|Dh rfl<|Be rfl h5b rfl<|Aa rfl<|?_
 rcases bE (!(b6)) with h7b | h8b
 ·skip
  have h7:=Ah h7b;have h7c:(b6)=false:=(Ah h7b);refine g_f rfl (Ak h7c)<|g_f rfl (Ak h7c)<|g_f rfl (Ak h7c)<|Bh rfl (Ak h7c) rfl<|Bl rfl rfl<|Ac<|Ab rfl<|Ae<|Ad rfl rfl<|?_
  exact ⟨M.weaken dS1,by rw [E8 (by clear M;unfold ItemOk;grind)]⟩
 have h8:=Ai h8b;have h8c:(b6)=true:=(Ai h8b);refine g_t rfl (Aj h8c)<|Aa rfl<|g_t rfl (Aj h8c)<|?_
 change Mem w0 G (_::L) _ at M;refine Acm ent50 (caps:=[.pointer (some ⟨b1,0,none⟩)]) rfl rfl rfl (Ajh (x:=x) M SM)<|?_;clear M;rintro _ w M ⟨b9,rfl,hb9⟩
 refine g_t rfl (Aj h8c)<|Dh rfl<|Be rfl (Aj h8c) rfl<|Ap rfl ?_ ?_
 ·intro h10b;have h10:=Ah h10b;have h10c:(b9)=false:=(Ah h10b);refine Ac<|Ab rfl<|Ae<|Ad rfl rfl<|?_
  exact ⟨M.weaken dS1,by rw [E8 (by clear M;unfold ItemOk;grind)]⟩
 intro h11b;have h11:=Ai h11b;have h11c:(b9)=true:=(Ai h11b);refine Aq<|Ac<|Ab rfl<|Ae<|Ad rfl rfl<|?_
 exact ⟨M.weaken dS1,by rw [Dt (by first | (clear M;unfold ItemOk;grind) | exact ⟨by omega,by omega,by clear M;grind,by omega,G7 hA (by omega)⟩)]⟩
theorem Kl {P:Prop} {l:List (List UInt8)} {i:Nat} {ok:Int} {s:List UInt8} (h0:ok=0∨ok=1) (h:ok=1↔P∧∀ (m:Nat) (s:List UInt8),m < i→l[m]?=some s→Dk s) (hs:l[i]?=some s) :
  (ok * (if Dk s then (1:Int) else 0)=0∨ok * (if Dk s then (1:Int) else 0)=1)∧(ok * (if Dk s then (1:Int) else 0)=1↔P∧∀ (m:Nat) (s:List UInt8),m < i+1→l[m]?=some s→Dk s):=by
 by_cases hn:Dk s
 ·rw [if_pos hn,Int.mul_one];refine ⟨h0,h.trans ⟨fun ⟨h1,h2⟩=>⟨h1,Fo h2 hs hn⟩,fun ⟨h1,h2⟩=>⟨h1,fun m s hm=>h2 m s (by omega)⟩⟩⟩
 rw [if_neg hn,Int.mul_zero]
 exact ⟨Or.inl rfl,⟨fun h=>by omega,fun ⟨_,h2⟩=>absurd (h2 i s (by omega) hs) hn⟩⟩
theorem Ml (M:Mem w0 G L w) {x:ItemD} {ma:Option Addr} {mc:Nat} (hI:(x.key < 18446744073709551616∧x.typ < 256∧x.text.length≤9223372036854775807)) (SM:Au D3 1 G (.slice ma x.marks.length mc) x.marks) {t:Int}:Calls Tryz.prog 57 #[.agg #[.int .u64 ((x.key:Nat):Int),.int .u8 ((x.typ:Nat):Int),.string (str x.text),.slice ma x.marks.length mc],.int .i64 t] w (Cs w0 G L fun v=>v=.int .i64 (Hm t x)):=by
 refine Ay (vs:=[_,_]) Tryz.func57 rfl (n:=43) rfl rfl<|Ag<|?_
 obtain ⟨hI1,hI2,hI3⟩:=hI;have bSM:=SM.bound;refine Az<|Cz M rfl rfl rfl<|?_;clear M;intro b1 w M
 refine Ab rfl<|Ac<|A0 Bf.k rfl rfl<|Bg Bq M 0 rfl rfl rfl rfl<|Bs ent106 rfl rfl (Zd (s:=x.text) M (by omega))<|?_;clear M;rintro _ w M rfl
 refine Ab rfl<|Ag<|Ac<|A0 Bf.k rfl rfl<|Bg El M 0 rfl rfl rfl rfl<|C3 rfl rfl<|Aa rfl<|?_
 rcases bE (decide (((x.key:Nat):Int)=0)) with h2b | h8b
 ·skip
  have h2:=dT h2b;refine g_f rfl h2b<|g_f rfl h2b<|g_f rfl h2b<|g_f rfl h2b<|g_f rfl h2b<|Bh rfl h2b rfl<|Aa rfl<|g_f rfl rfl<|g_f rfl rfl<|g_f rfl rfl<|g_f rfl rfl<|Bh rfl rfl rfl<|Bl rfl rfl<|Az<|Ab rfl<|Ag<|Ac<|Ab rfl<|Bc<|?_
  refine Ax<|fun a F=>?_
  refine Bz (fun m a' w'=>∃ (i:Nat),∃ (ok:Int),m=x.marks.length - i∧Fits 43 a' [(1,.int .i64 t),(2,.pointer (some ⟨b1,0,none⟩)),(5,.int .i64 ok),(6,.int .i64 ((i:Nat):Int))]∧Mem w0 G (.blk b1 [.int .u64 ((x.key:Nat):Int),.int .u8 ((x.typ:Nat):Int),.string (str x.text),.slice ma x.marks.length mc] 26::L) w'∧(i≤x.marks.length)∧(ok=0∨ok=1)∧(ok=1↔(x.key≠0∧(x.typ:Int) < t∧Str x.text∧x.marks.length≤8)∧∀ (m:Nat) (s:List UInt8),m < i→x.marks[m]?=some s→Dk s)) _ ⟨0,0,rfl,F.to ⟨rfl,rfl,rfl,rfl,trivial⟩,M,Nat.zero_le _,(by first | omega | (split <;> omega)),⟨fun h_=>⟨(by clear F M;grind),fun m s hm=>by omega⟩,fun h_=>(by clear F M;grind)⟩⟩ ?_;clear F M;rintro m a w ⟨i,ok,rfl,F,M,hi,hok,hA⟩;revert a;refine Ag<|Ac<|Aa rfl<|A0 Bf.k rfl rfl<|Bg Cw M 0 rfl rfl rfl rfl<|B8 Cw.k rfl<|C2 rfl rfl<|Ap rfl ?_ ?_
  ·intro h3b;have h3:=dT h3b;refine Aq<|Ag<|Ax<|Az<|Aa rfl<|A0 Bf.k rfl rfl<|Bg Cw M 0 rfl rfl rfl rfl<|Aa rfl<|?_
   obtain ⟨Xe4,hXe4⟩:=A2 (xs:=x.marks) (i:=i) (by omega);obtain ⟨be4,oe4,_,Ie4,_,Ae4,⟨rfl,hsle4⟩⟩:=SM.at hXe4;refine D0 Cw.k Bq Ie4 rfl rfl<|Dq Bq M Ae4 0 rfl rfl (by omega) rfl<|Bs Yp rfl rfl (Fb (s:=Xe4) M (by omega))<|?_;clear M;rintro _ w M rfl
   refine Ar (fun a F=>O8 (F.ev rfl) (F.ev rfl) (C0 (by (rcases hok with rfl | rfl <;> split <;> omega)) (by (rcases hok with rfl | rfl <;> split <;> omega)))) rfl<|Ab rfl<|Az<|Aa rfl<|Bx rfl rfl<|Ab rfl<|Bc<|Cm<|fun a F=>?_
   exact ⟨_,by omega,i+1,ok * ((if Dk Xe4 then (1:Int) else 0)),rfl,F.to ⟨rfl,rfl,rfl,rfl,trivial⟩,M,by omega,(Kl hok hA hXe4).1,(Kl hok hA hXe4).2⟩
  intro h5b;have h5:=dF h5b;refine B5<|Bw<|Bw<|Dj<|Ag<|Ac<|Aa rfl<|C3 rfl rfl<|Ap rfl ?_ ?_
  ·intro h6b;have h6:=dT h6b;refine Ac<|Ab rfl<|Ae<|Ad rfl rfl<|?_
   exact ⟨M.weaken dS1,by rw [Dt (by clear M;obtain ⟨h1_,h2_⟩:=hA.1 (by omega);exact ⟨h1_.1,h1_.2.1,h1_.2.2.1,h1_.2.2.2,G7 h2_ (by omega)⟩)]⟩
  intro h7b;have h7:=dF h7b;refine Aq<|Ac<|Ab rfl<|Ae<|Ad rfl rfl<|?_
  exact ⟨M.weaken dS1,by rw [E8 (by clear M;intro h_;have:=hA.2 ⟨⟨h_.1,h_.2.1,h_.2.2.1,h_.2.2.2.1⟩,fun m s _ hs=>h_.2.2.2.2 s (List.mem_of_getElem? hs)⟩;omega)]⟩
 have h8:=dF h8b;refine g_t rfl h8b<|Aa rfl<|g_t rfl h8b<|A0 Bf.k rfl rfl<|g_t rfl h8b<|Bg Fa M 0 rfl rfl rfl rfl<|g_t rfl h8b<|Ar (fun a F=>Ew Cg.k ⟨_,by rw [D7 Fa.k]⟩ (F.ev rfl) (C0 (by omega) (by omega))) rfl<|g_t rfl h8b<|Jk rfl rfl<|Be rfl h8b rfl<|Aa rfl<|?_
 rcases bE (decide (t≤((x.typ:Nat):Int))) with h9b | h15b
 ·skip
  have h9:=dT h9b;refine g_f rfl h9b<|g_f rfl h9b<|g_f rfl h9b<|g_f rfl h9b<|Bh rfl h9b rfl<|Bl rfl rfl<|Az<|Ab rfl<|Ag<|Ac<|Ab rfl<|Ax<|fun a F=>?_
  refine Bz (fun m a' w'=>∃ (i:Nat),∃ (ok:Int),m=x.marks.length - i∧Fits 43 a' [(1,.int .i64 t),(2,.pointer (some ⟨b1,0,none⟩)),(5,.int .i64 ok),(6,.int .i64 ((i:Nat):Int))]∧Mem w0 G (.blk b1 [.int .u64 ((x.key:Nat):Int),.int .u8 ((x.typ:Nat):Int),.string (str x.text),.slice ma x.marks.length mc] 26::L) w'∧(i≤x.marks.length)∧(ok=0∨ok=1)∧(ok=1↔(x.key≠0∧(x.typ:Int) < t∧Str x.text∧x.marks.length≤8)∧∀ (m:Nat) (s:List UInt8),m < i→x.marks[m]?=some s→Dk s)) _ ⟨0,0,rfl,F.to ⟨rfl,rfl,rfl,rfl,trivial⟩,M,Nat.zero_le _,(by first | omega | (split <;> omega)),⟨fun h_=>⟨(by clear F M;grind),fun m s hm=>by omega⟩,fun h_=>(by clear F M;grind)⟩⟩ ?_;clear F M;rintro m a w ⟨i,ok,rfl,F,M,hi,hok,hA⟩;revert a;refine Ag<|Ac<|Aa rfl<|A0 Bf.k rfl rfl<|Bg Cw M 0 rfl rfl rfl rfl<|B8 Cw.k rfl<|C2 rfl rfl<|Ap rfl ?_ ?_
  ·intro h10b;have h10:=dT h10b;refine Aq<|Ag<|Ax<|Az<|Aa rfl<|A0 Bf.k rfl rfl<|Bg Cw M 0 rfl rfl rfl rfl<|Aa rfl<|?_
   obtain ⟨Xe11,hXe11⟩:=A2 (xs:=x.marks) (i:=i) (by omega);obtain ⟨be11,oe11,_,Ie11,_,Ae11,⟨rfl,hsle11⟩⟩:=SM.at hXe11;refine D0 Cw.k Bq Ie11 rfl rfl<|Dq Bq M Ae11 0 rfl rfl (by omega) rfl<|Bs Yp rfl rfl (Fb (s:=Xe11) M (by omega))<|?_;clear M;rintro _ w M rfl
   refine Ar (fun a F=>O8 (F.ev rfl) (F.ev rfl) (C0 (by (rcases hok with rfl | rfl <;> split <;> omega)) (by (rcases hok with rfl | rfl <;> split <;> omega)))) rfl<|Ab rfl<|Az<|Aa rfl<|Bx rfl rfl<|Ab rfl<|Bc<|Cm<|fun a F=>?_
   exact ⟨_,by omega,i+1,ok * ((if Dk Xe11 then (1:Int) else 0)),rfl,F.to ⟨rfl,rfl,rfl,rfl,trivial⟩,M,by omega,(Kl hok hA hXe11).1,(Kl hok hA hXe11).2⟩
  intro h12b;have h12:=dF h12b;refine B5<|Bw<|Bw<|Dj<|Ag<|Ac<|Aa rfl<|C3 rfl rfl<|Ap rfl ?_ ?_
  ·intro h13b;have h13:=dT h13b;refine Ac<|Ab rfl<|Ae<|Ad rfl rfl<|?_
   exact ⟨M.weaken dS1,by rw [Dt (by clear M;obtain ⟨h1_,h2_⟩:=hA.1 (by omega);exact ⟨h1_.1,h1_.2.1,h1_.2.2.1,h1_.2.2.2,G7 h2_ (by omega)⟩)]⟩
  intro h14b;have h14:=dF h14b;refine Aq<|Ac<|Ab rfl<|Ae<|Ad rfl rfl<|?_
  exact ⟨M.weaken dS1,by rw [E8 (by clear M;intro h_;have:=hA.2 ⟨⟨h_.1,h_.2.1,h_.2.2.1,h_.2.2.2.1⟩,fun m s _ hs=>h_.2.2.2.2 s (List.mem_of_getElem? hs)⟩;omega)]⟩
 have h15:=dF h15b;refine g_t rfl h15b<|A0 Bf.k rfl rfl<|g_t rfl h15b<|Bg Cw M 0 rfl rfl rfl rfl<|g_t rfl h15b<|B8 Cw.k rfl<|g_t rfl h15b<|Da rfl rfl<|Be rfl h15b rfl<|Ap rfl ?_ ?_
 ·intro h16b;have h16:=dT h16b;refine Az<|Ab rfl<|Ag<|Ac<|Ab rfl<|Ax<|fun a F=>?_
  refine Bz (fun m a' w'=>∃ (i:Nat),∃ (ok:Int),m=x.marks.length - i∧Fits 43 a' [(1,.int .i64 t),(2,.pointer (some ⟨b1,0,none⟩)),(5,.int .i64 ok),(6,.int .i64 ((i:Nat):Int))]∧Mem w0 G (.blk b1 [.int .u64 ((x.key:Nat):Int),.int .u8 ((x.typ:Nat):Int),.string (str x.text),.slice ma x.marks.length mc] 26::L) w'∧(i≤x.marks.length)∧(ok=0∨ok=1)∧(ok=1↔(x.key≠0∧(x.typ:Int) < t∧Str x.text∧x.marks.length≤8)∧∀ (m:Nat) (s:List UInt8),m < i→x.marks[m]?=some s→Dk s)) _ ⟨0,0,rfl,F.to ⟨rfl,rfl,rfl,rfl,trivial⟩,M,Nat.zero_le _,(by first | omega | (split <;> omega)),⟨fun h_=>⟨(by clear F M;grind),fun m s hm=>by omega⟩,fun h_=>(by clear F M;grind)⟩⟩ ?_;clear F M;rintro m a w ⟨i,ok,rfl,F,M,hi,hok,hA⟩;revert a;refine Ag<|Ac<|Aa rfl<|A0 Bf.k rfl rfl<|Bg Cw M 0 rfl rfl rfl rfl<|B8 Cw.k rfl<|C2 rfl rfl<|Ap rfl ?_ ?_
  ·intro h17b;have h17:=dT h17b;refine Aq<|Ag<|Ax<|Az<|Aa rfl<|A0 Bf.k rfl rfl<|Bg Cw M 0 rfl rfl rfl rfl<|Aa rfl<|?_
   obtain ⟨Xe18,hXe18⟩:=A2 (xs:=x.marks) (i:=i) (by omega);obtain ⟨be18,oe18,_,Ie18,_,Ae18,⟨rfl,hsle18⟩⟩:=SM.at hXe18;refine D0 Cw.k Bq Ie18 rfl rfl<|Dq Bq M Ae18 0 rfl rfl (by omega) rfl<|Bs Yp rfl rfl (Fb (s:=Xe18) M (by omega))<|?_;clear M;rintro _ w M rfl
   refine Ar (fun a F=>O8 (F.ev rfl) (F.ev rfl) (C0 (by (rcases hok with rfl | rfl <;> split <;> omega)) (by (rcases hok with rfl | rfl <;> split <;> omega)))) rfl<|Ab rfl<|Az<|Aa rfl<|Bx rfl rfl<|Ab rfl<|Bc<|Cm<|fun a F=>?_
   exact ⟨_,by omega,i+1,ok * ((if Dk Xe18 then (1:Int) else 0)),rfl,F.to ⟨rfl,rfl,rfl,rfl,trivial⟩,M,by omega,(Kl hok hA hXe18).1,(Kl hok hA hXe18).2⟩
  intro h19b;have h19:=dF h19b;refine B5<|Bw<|Bw<|Dj<|Ag<|Ac<|Aa rfl<|C3 rfl rfl<|Ap rfl ?_ ?_
  ·intro h20b;have h20:=dT h20b;refine Ac<|Ab rfl<|Ae<|Ad rfl rfl<|?_
   exact ⟨M.weaken dS1,by rw [Dt (by clear M;obtain ⟨h1_,h2_⟩:=hA.1 (by omega);exact ⟨h1_.1,h1_.2.1,h1_.2.2.1,h1_.2.2.2,G7 h2_ (by omega)⟩)]⟩
  intro h21b;have h21:=dF h21b;refine Aq<|Ac<|Ab rfl<|Ae<|Ad rfl rfl<|?_
  exact ⟨M.weaken dS1,by rw [E8 (by clear M;intro h_;have:=hA.2 ⟨⟨h_.1,h_.2.1,h_.2.2.1,h_.2.2.2.1⟩,fun m s _ hs=>h_.2.2.2.2 s (List.mem_of_getElem? hs)⟩;omega)]⟩
 intro h22b;have h22:=dF h22b;refine Aq<|Ag<|Ac<|Ab rfl<|Ax<|fun a F=>?_
 refine Bz (fun m a' w'=>∃ (i:Nat),∃ (ok:Int),m=x.marks.length - i∧Fits 43 a' [(1,.int .i64 t),(2,.pointer (some ⟨b1,0,none⟩)),(5,.int .i64 ok),(6,.int .i64 ((i:Nat):Int))]∧Mem w0 G (.blk b1 [.int .u64 ((x.key:Nat):Int),.int .u8 ((x.typ:Nat):Int),.string (str x.text),.slice ma x.marks.length mc] 26::L) w'∧(i≤x.marks.length)∧(ok=0∨ok=1)∧(ok=1↔(x.key≠0∧(x.typ:Int) < t∧Str x.text∧x.marks.length≤8)∧∀ (m:Nat) (s:List UInt8),m < i→x.marks[m]?=some s→Dk s)) _ ⟨0,(if Str x.text then (1:Int) else 0),rfl,F.to ⟨rfl,rfl,rfl,rfl,trivial⟩,M,Nat.zero_le _,(by first | omega | (split <;> omega)),⟨fun h_=>⟨(by clear F M;grind),fun m s hm=>by omega⟩,fun h_=>(by clear F M;grind)⟩⟩ ?_;clear F M;rintro m a w ⟨i,ok,rfl,F,M,hi,hok,hA⟩;revert a;refine Ag<|Ac<|Aa rfl<|A0 Bf.k rfl rfl<|Bg Cw M 0 rfl rfl rfl rfl<|B8 Cw.k rfl<|C2 rfl rfl<|Ap rfl ?_ ?_
 ·intro h23b;have h23:=dT h23b;refine Aq<|Ag<|Ax<|Az<|Aa rfl<|A0 Bf.k rfl rfl<|Bg Cw M 0 rfl rfl rfl rfl<|Aa rfl<|?_
  obtain ⟨Xe24,hXe24⟩:=A2 (xs:=x.marks) (i:=i) (by omega);obtain ⟨be24,oe24,_,Ie24,_,Ae24,⟨rfl,hsle24⟩⟩:=SM.at hXe24;refine D0 Cw.k Bq Ie24 rfl rfl<|Dq Bq M Ae24 0 rfl rfl (by omega) rfl<|Bs Yp rfl rfl (Fb (s:=Xe24) M (by omega))<|?_;clear M;rintro _ w M rfl
  refine Ar (fun a F=>O8 (F.ev rfl) (F.ev rfl) (C0 (by (rcases hok with rfl | rfl <;> split <;> omega)) (by (rcases hok with rfl | rfl <;> split <;> omega)))) rfl<|Ab rfl<|Az<|Aa rfl<|Bx rfl rfl<|Ab rfl<|Bc<|Cm<|fun a F=>?_
  exact ⟨_,by omega,i+1,ok * ((if Dk Xe24 then (1:Int) else 0)),rfl,F.to ⟨rfl,rfl,rfl,rfl,trivial⟩,M,by omega,(Kl hok hA hXe24).1,(Kl hok hA hXe24).2⟩
 intro h25b;have h25:=dF h25b;refine B5<|Bw<|Bw<|Dj<|Ag<|Ac<|Aa rfl<|C3 rfl rfl<|Ap rfl ?_ ?_
 ·intro h26b;have h26:=dT h26b;refine Ac<|Ab rfl<|Ae<|Ad rfl rfl<|?_
  exact ⟨M.weaken dS1,by rw [Dt (by clear M;obtain ⟨h1_,h2_⟩:=hA.1 (by omega);exact ⟨h1_.1,h1_.2.1,h1_.2.2.1,h1_.2.2.2,G7 h2_ (by omega)⟩)]⟩
 intro h27b;have h27:=dF h27b;refine Aq<|Ac<|Ab rfl<|Ae<|Ad rfl rfl<|?_
 exact ⟨M.weaken dS1,by rw [E8 (by clear M;intro h_;have:=hA.2 ⟨⟨h_.1,h_.2.1,h_.2.2.1,h_.2.2.2.1⟩,fun m s _ hs=>h_.2.2.2.2 s (List.mem_of_getElem? hs)⟩;omega)]⟩
theorem Acy {w0 w:World} {G:A4} {L:List Res} (M:Mem w0 G L w) {a1:Option Addr} {c1:Nat} {xs:List ItemD} (S:Au Cv 4 G (.slice a1 xs.length c1) xs) {k:Nat}:Calls Tryz.prog 61 #[.slice a1 xs.length c1,.int .u64 ((k:Nat):Int)] w (Cs w0 G L fun v=>∃ z:Int,v=.int .i64 z∧L6 xs k z):=by
 have bS:=S.bound;refine Ay (vs:=[_,_]) Tryz.func61 rfl (n:=20) rfl rfl<|Ac<|Ab rfl<|Ag<|Ac<|Ab rfl<|Ax<|fun a F=>Bz (fun m a' w'=>∃ (i:Nat),m=xs.length - i∧Fits 20 a' [(0,.slice a1 xs.length c1),(1,.int .u64 ((k:Nat):Int)),(5,.int .i64 ((i:Nat):Int))]∧Mem w0 G (L) w'∧(i≤xs.length)∧(∀ (m:Nat) (y:ItemD),m < i→xs[m]?=some y→y.key≠k)) _ ⟨0,rfl,F.to ⟨rfl,rfl,rfl,trivial⟩,M,Nat.zero_le _,fun m d h=>by omega⟩ ?_
 clear F M;rintro m a w ⟨i,rfl,F,M,hi,hA⟩;revert a;refine Ag<|Ac<|Aa rfl<|Aa rfl<|B8 B9.k rfl<|C2 rfl rfl<|Ap rfl ?_ ?_
 ·intro h1b;have h1:=dT h1b;refine Aq<|Ag<|Ax<|Ac<|Aa rfl<|Aa rfl<|?_
  obtain ⟨Xe2,hXe2⟩:=A2 (xs:=xs) (i:=i) (by omega);obtain ⟨be2,oe2,_,Ie2,_,Ae2,hTe2⟩:=S.at hXe2;obtain ⟨mae2,mce2,rfl,hke2,hte2,hxe2,hne2,SMe2⟩:=hTe2;have hIe2:(Xe2.key < 18446744073709551616∧Xe2.typ < 256∧Xe2.text.length≤9223372036854775807):=⟨hke2,hte2,hxe2⟩;refine D0 B9.k Bf Ie2 rfl rfl<|A0 Bf.k rfl rfl<|Dq El M Ae2 0 rfl rfl rfl rfl<|Aa rfl<|C3 rfl rfl<|Ap rfl ?_ ?_
  ·intro h3b;have h3:=dT h3b;refine Ac<|Aa rfl<|Ab rfl<|Ae<|Ad rfl rfl<|?_
   exact ⟨M,_,rfl,L6.some hA hXe2 (by omega)⟩
  intro h4b;have h4:=dF h4b;refine Aq<|Az<|Aa rfl<|Bx rfl rfl<|Ab rfl<|Bc<|Cm<|fun a F=>?_
  exact ⟨_,by omega,i+1,rfl,F.to ⟨rfl,rfl,rfl,trivial⟩,M,by omega,Fo (p:=fun y:ItemD=>y.key≠k) hA hXe2 (by omega)⟩
 intro h5b;have h5:=dF h5b;refine B5<|Bw<|Bw<|Dj<|Ac<|Ab rfl<|Ae<|Ad rfl rfl<|?_
 exact ⟨M,_,rfl,L6.none hA (by omega)⟩
theorem Vf {w0 w:World} {G:A4} {L:List Res} {b n c:Nat} {ad:Option Addr} (M:Mem w0 G (.blk b [.pointer none,.slice ad n c] 101::L) w) :
  Calls Tryz.prog 96 #[.pointer (some ⟨b,0,none⟩)] w (Cs w0 G (.blk b [.pointer (some ⟨b,0,none⟩),.slice ad n c] 101::L) fun v=>v=.tuple #[]):=by
 refine Ay (vs:=[_]) Tryz.func96 rfl (n:=20) rfl rfl<|Ac<|Aa rfl<|Fi rfl<|A0 Hr.k rfl rfl<|Bg O3 M 0 rfl rfl rfl rfl<|Ar (fun a F=>Vr O3.k (F.ev rfl) (F.ev rfl)) rfl<|Bl rfl rfl<|Az<|Aa rfl<|Aa rfl<|Ar (fun a F=>Xo M (k:=0) rfl (by simp) O3.k (by kernel_rfl) Hr (by decide) (F.ev rfl)) rfl<|Ar (fun a F=>run_noEscape Tryz.func142 (by kernel_rfl) (by kernel_rfl) (by kernel_rfl) (by kernel_rfl) (F.ev rfl) (F.ev (x:=.func 142) rfl)) rfl<|Ar (fun a F=>S4 M (k:=0) rfl (by kernel_rfl) O3.k Hr (by kernel_rfl) (F.ev rfl)) rfl<|Fi rfl<|A0 Hr.k rfl rfl<|Gd O3 M 0 rfl rfl rfl rfl rfl rfl<|?_;clear M;intro w M
 refine Bc<|fun a F=>Amo F rfl ?_
 exact ⟨M,rfl⟩
theorem Ve {w0 w:World} {G:A4} {L:List Res} {b n c:Nat} {ad:Option Addr} (M:Mem w0 G (.blk b [.pointer (some ⟨b,0,none⟩),.slice ad n c] 101::L) w) :
  Calls Tryz.prog 96 #[.pointer (some ⟨b,0,none⟩)] w (Cs w0 G (.blk b [.pointer (some ⟨b,0,none⟩),.slice ad n c] 101::L) fun v=>v=.tuple #[]):=by
 refine Ay (vs:=[_]) Tryz.func96 rfl (n:=20) rfl rfl<|Ac<|Aa rfl<|Fi rfl<|A0 Hr.k rfl rfl<|Bg O3 M 0 rfl rfl rfl rfl<|Ar (fun a F=>Vr O3.k (F.ev rfl) (F.ev rfl)) rfl<|D4 rfl rfl<|Ac<|Aa rfl<|Fi rfl<|A0 Hr.k rfl rfl<|Bg O3 M 0 rfl rfl rfl rfl<|Aa rfl<|Ar (fun a F=>Sz O3.k Hr (F.ev rfl) (F.ev rfl)) rfl<|D4 rfl rfl<|Aq<|fun a F=>Amo F rfl ?_
 exact ⟨M,rfl⟩
theorem Up {w0 w:World} {G:A4} {L:List Res} {b n c:Nat} {ad:Option Addr} {p:Value} (hp:p=.pointer none∨p=.pointer (some ⟨b,0,none⟩)) (M:Mem w0 G (.blk b [p,.slice ad n c] 101::L) w) :
  Calls Tryz.prog 96 #[.pointer (some ⟨b,0,none⟩)] w (Cs w0 G (.blk b [.pointer (some ⟨b,0,none⟩),.slice ad n c] 101::L) fun v=>v=.tuple #[]):=by
 rcases hp with rfl | rfl
 ·exact Vf M
 exact Ve M
theorem M0 {w0 w:World} {G:A4} {L:List Res} {b n c:Nat} {ad:Option Addr} {l:List UInt8} {p:Value} {s:List UInt8} (hp:p=.pointer none∨p=.pointer (some ⟨b,0,none⟩)) (M:Mem w0 G (.blk b [p,.slice ad n c] 101::.row (.slice ad n c) n (bc l) 5 1::L) w) (hn:n=l.length) (hnil:l=[]→ad=none) (hlen:l.length+s.length≤140737488355328) :
  Calls Tryz.prog 41 #[.pointer (some ⟨b,0,none⟩),.string (str s)] w (Ky w0 G fun L' v=>v=.tuple #[.int .i64 (s.length:Nat),.nilIface]∧∃ a' n' c',L' = (.blk b [.pointer (some ⟨b,0,none⟩),.slice a' n' c'] 101::.row (.slice a' n' c') n' (bc (l++s)) 5 1::L)∧n' = (l++s).length∧(l++s=[]→a' = none)):=by
 have hrow:ad.isNone=true→ad=none∧n=0∧c=0∧_:=fun h=>M.row_none (k:=1) rfl h;refine Ay (vs:=[_,_]) Tryz.func41 rfl (n:=19) rfl rfl<|Ac<|Ab rfl<|Ab rfl<|Ac<|Aa rfl<|?_
 change Mem w0 G (_::_::L) _ at M;refine Bs ent96 rfl rfl (Up hp M)<|?_;clear M;rintro _ w M rfl
 refine Ac<|Aa rfl<|Aa rfl<|Fi rfl<|A0 Hr.k rfl rfl<|Bg K1 M 0 rfl rfl rfl rfl<|Aa rfl<|fun a F=>?_
 refine Xx F M (k:=1) rfl K1.k Bq.k Fa rfl rfl rfl rfl rfl (by omega) rfl ?_;clear F M a;intro v1 w a M hwv1 F;obtain ⟨av1,cv1,rfl,hlev1,hcmv1,hlv1⟩:=M.row_shape (k:=1) rfl;rw [← Ajs] at M;revert a;refine Fi rfl<|A0 Hr.k rfl rfl<|Gd K1 M 0 rfl rfl rfl rfl rfl rfl<|?_;clear M;intro w M
 refine Ac<|Aa rfl<|Ar (fun a F=>Dc Bq.k (F.ev rfl)) rfl<|Ab rfl<|Ab rfl<|Ae<|D6 rfl rfl rfl<|?_
 replace M:=M.perm (Ao _ 1 _ rfl);replace M:=M.perm (Ao _ 1 _ rfl);change Mem w0 G (.blk b [.pointer (some ⟨b,0,none⟩),.slice av1 (n+(s).length) (cv1)] 101::_::L) _ at M
 exact ⟨_,M,rfl,_,_,_,rfl,by rw [List.length_append,hn],fun h=>by obtain ⟨h1,h2⟩:=List.append_eq_nil_iff.1 h;have h3:=hnil h1;subst h3;obtain ⟨_,h4,h5,_⟩:=hrow rfl;subst h4 h5;have h6:=hwv1.2 ⟨rfl,h2⟩;simp only [Value.slice.injEq] at h6;exact h6.1⟩
theorem Ajq {w0 w:World} {G:A4} {L:List Res} {b c gb:Nat} {p:Value} {l:List UInt8} (M:Mem w0 G (.blk b [p,.slice none 0 0] 101::.row (.slice none 0 0) 0 (bc []) 5 1::L) w) :
  Calls Tryz.prog 43 #[.pointer (some ⟨b,0,none⟩)] w (Cs w0 G L fun v=>v=.string (str [])):=by
 refine Ay (vs:=[_]) Tryz.func43 rfl (n:=14) rfl rfl<|Ac<|Ab rfl<|Ag<|fun a F=>Gh [(true,0),(true,1),(true,2),(true,3),(true,5),(true,6),(true,7),(true,8),(true,9),(false,4),(false,10),(true,11)] (Keep G [.blk b [p,.slice none 0 0] 101]) rfl (by kernel_rfl) (fun c a d v w h=>by cases d <;> exact h) (Bo (M.drew _)) ?_
 replace M:=M.drew (w.drawn+1);revert a;refine l_r (fun a F w M=>B1 F rfl) rfl<|l_r (fun a F w M=>Ea (F.ev rfl)) rfl<|l_r (fun a F w M=>Ce Hr.k rfl F rfl) rfl<|l_r (fun a F w M=>Al (agf K1 rfl) (F.ev rfl) (M.cellL (k:=0) rfl rfl)) rfl<|l_r (fun a F w M=>B1 F rfl) rfl<|l_r (fun a F w M=>Ea (F.ev rfl)) rfl<|l_r (fun a F w M=>Ce Hr.k rfl F rfl) rfl<|l_r (fun a F w M=>Al (agf K1 rfl) (F.ev rfl) (M.cellL (k:=0) rfl rfl)) rfl<|l_r (fun a F w M=>D8 K1.k (F.ev rfl)) rfl<|l_a rfl<|Ar (fun a F=>Sw (F.ev rfl)) rfl<|eQ (Bo M)<|l_a rfl<|Ar (fun a F=>Ss (F.ev rfl) (F.ev rfl)) rfl<|eK (C':=Keep G [.blk b [p,.slice none 0 0] 101]) (Bo M) (fun w h=>h.mono (Gle.refl _) (by simp))<|l_r (fun a F w M=>G8 F rfl) rfl<|Hq<|Ae<|Ad rfl rfl<|?_
 exact ⟨M.weaken dS2,rfl⟩
theorem Ajp {w0 w:World} {G:A4} {L:List Res} {b c gb:Nat} {p:Value} {l:List UInt8} (M:Mem w0 G (.blk b [p,.slice (some ⟨gb,0,none⟩) (l.length) c] 101::.row (.slice (some ⟨gb,0,none⟩) (l.length) c) (l.length) (bc l) 5 1::L) w) (h0:l≠[]) (hc:l.length≤c) :
  Calls Tryz.prog 43 #[.pointer (some ⟨b,0,none⟩)] w (Cs w0 G L fun v=>v=.string (str l)):=by
 have h0':0 < l.length:=List.length_pos_iff.2 h0;refine Ay (vs:=[_]) Tryz.func43 rfl (n:=14) rfl rfl<|Ac<|Ab rfl<|Ag<|fun a F=>Gh [(true,0),(true,1),(true,2),(true,3),(true,5),(true,6),(true,7),(true,8),(true,9),(false,4),(false,10),(true,11)] (Keep G [.blk b [p,.slice (some ⟨gb,0,none⟩) (l.length) (c)] 101]) rfl (by kernel_rfl) (fun c a d v w h=>by cases d <;> exact h) (Bo (M.drew _)) ?_
 replace M:=M.drew (w.drawn+1);revert a;refine l_r (fun a F w M=>B1 F rfl) rfl<|l_r (fun a F w M=>Ea (F.ev rfl)) rfl<|l_r (fun a F w M=>Ce Hr.k rfl F rfl) rfl<|l_r (fun a F w M=>Al (agf K1 rfl) (F.ev rfl) (M.cellL (k:=0) rfl rfl)) rfl<|l_r (fun a F w M=>B1 F rfl) rfl<|l_r (fun a F w M=>Ea (F.ev rfl)) rfl<|l_r (fun a F w M=>Ce Hr.k rfl F rfl) rfl<|l_r (fun a F w M=>Al (agf K1 rfl) (F.ev rfl) (M.cellL (k:=0) rfl rfl)) rfl<|l_r (fun a F w M=>D8 K1.k (F.ev rfl)) rfl<|l_a rfl<|Ar (fun a F=>U1 (F.ev rfl) (by omega)) rfl<|eQ (Bo M)<|l_a rfl<|fun a F=>?_
 refine Xv F M (k:=1) rfl tok174.k Fa rfl h0 rfl rfl rfl ?_;clear F M a;intro w a M F;revert a;refine eQ (Bo M)<|l_r (fun a F w M=>G8 F rfl) rfl<|Hq<|Ae<|Ad rfl rfl<|?_
 exact ⟨M.weaken dS1,rfl⟩
theorem W5 {w0 w:World} {G:A4} {L:List Res} {b n c:Nat} {ad:Option Addr} {l:List UInt8} {p:Value} (M:Mem w0 G (.blk b [p,.slice ad n c] 101::.row (.slice ad n c) n (bc l) 5 1::L) w) (hn:n=l.length) (hnil:l=[]→ad=none) :
  Calls Tryz.prog 43 #[.pointer (some ⟨b,0,none⟩)] w (Cs w0 G L fun v=>v=.string (str l)):=by
 subst hn
 by_cases h0:l=[]
 ·have h1:=hnil h0;subst h1 h0;obtain ⟨_,_,h4,_⟩:=M.row_none (k:=1) rfl rfl;subst h4
  exact Ajq (gb:=0) (c:=0) (l:=[]) M
 have h0':0 < l.length:=List.length_pos_iff.2 h0;obtain ⟨gb,h1⟩:=M.row_some (k:=1) rfl h0';subst h1;obtain ⟨_,_,he,hle,_⟩:=M.row_shape (k:=1) rfl;simp only [Value.slice.injEq] at he
 exact Ajp M h0 (by omega)
theorem Mw (M:Mem w0 G L w) (HG:Globs 0 1 2 3 G) {s sep:List UInt8} (hs:s.length < 4294967281) :
  Calls Tryz.prog 100 #[.string (str s),.string (str sep)] w (Cs w0 G L fun v=>v=.tuple #[.string (str (Lib.cut s sep).1),.string (str (Lib.cut s sep).2.1),.bool (Lib.cut s sep).2.2]):=by
 obtain ⟨m,hm⟩:=HG.max;refine (Any.strings_Cut Tryz.lays145 (str s) (str sep) m w (by rw [Cx];exact hs) (M.cell hm)).mono ?_;rintro e w' ⟨rfl,n,rfl⟩;rw [Fl,Fl]
 exact ⟨M.drewN n,rfl⟩
theorem Adh (M:Mem w0 G L w) (HG:Globs 0 1 2 3 G) {s:List UInt8} (hs:s.length≤281474976710656) :
  Calls Tryz.prog 101 #[.string (str s),.int .i64 10,.int .i64 64] w (Cs w0 G L fun v=>∃ (u:Nat) (er:Value),v=.tuple #[.int .u64 (u:Int),er]∧u≤18446744073709551615∧(er=.nilIface∨∃ te pe,er=.iface te pe) ∧
   ((Lib.parseUintB 64 s=.ok u∧Ef er=true)∨((∀ x,Lib.parseUintB 64 s≠.ok x)∧Ef er=false))):=by
 have hd:(str s).data.toList=s:=Fl s
 cases h:Lib.parseUintB 64 s with
 | ok u =>
  refine (Any.strconv_ParseUint_10_at64_ok Tryz.laysPu14 (str s) (by rw [Cx];omega) u (by rw [hd];exact h) w).mono ?_;rintro e w' ⟨rfl,hw⟩;refine ⟨?_,u,_,rfl,pu64_le h,Or.inl rfl,Or.inl ⟨rfl,rfl⟩⟩
  rcases hw with rfl | rfl
  ·exact M
  ·exact M.bytesWorld _ _
 | range =>
  obtain ⟨ev,h1,h2⟩:=HG.rng;refine (Any.strconv_ParseUint_10_at64_range Tryz.laysPu14 (str s) (by rw [Cx];omega) (by rw [hd];exact h) ev w (M.cell h1) h2).mono ?_;rintro e w' ⟨N,rfl,_,_,hb⟩
  exact ⟨M.below' hb,18446744073709551615,_,rfl,by omega,Or.inr ⟨_,_,rfl⟩,Or.inr ⟨(fun x hx=>by cases hx),rfl⟩⟩
 | _ =>
  obtain ⟨ev,h1,h2⟩:=HG.syn;refine (Any.strconv_ParseUint_10_at64_syntax Tryz.laysPu14 (str s) (by rw [Cx];omega) (by rw [hd];exact h) ev w (M.cell h1) h2).mono ?_;rintro e w' ⟨N,rfl,_,_,hb⟩
  exact ⟨M.below' hb,0,_,rfl,by omega,Or.inr ⟨_,_,rfl⟩,Or.inr ⟨(fun x hx=>by cases hx),rfl⟩⟩
theorem Aas (M:Mem w0 G L w) (HG:Globs 0 1 2 3 G) {n:Int} (hn:Bb .i64 n) :
  Calls Tryz.prog 166 #[.int .i64 n,.int .i64 10] w (Cs w0 G L fun v=>v=.string (str (Lib.itoa n))):=by
 refine (Any.internal_strconv_FormatInt_10 Tryz.laysM246 n hn.1 hn.2 w (HG.tabIs M (by kernel_rfl))).mono ?_;rintro e w' ⟨rfl,k,os,rfl⟩
 exact ⟨(M.drewN k).grew os,rfl⟩
theorem Acl (M:Mem w0 G L w) {i:Nat} (h:i < 100):Calls Tryz.prog 170 #[.int .i64 (i:Int)] w (Cs w0 G L fun v=>v=.string (str (Lib.decDigits i))):=by
 refine (Any.internal_strconv_small Tryz.lays283 i h w).mono ?_;rintro e w' ⟨rfl,rfl⟩
 exact ⟨M,rfl⟩
theorem Aih (M:Mem w0 G L w) (HG:Globs 0 1 2 3 G) {u:Nat} (h1:1≤u) (h2:u < 18446744073709551616):Calls Tryz.prog 171 #[.int .u64 (u:Int)] w (Cs w0 G L fun v=>v=.int .i64 ((Lib.nDigits u:Nat):Int)):=by
 refine (Any.internal_strconv_numDigits Tryz.laysM284 u h1 h2 w (HG.tabIs M (by kernel_rfl))).mono ?_;rintro e w' ⟨rfl,rfl⟩
 exact ⟨M,rfl⟩
theorem Ajc {w0 w:World} {G:A4} {L:List Res} {b u c:Nat} {l:List UInt8} (M:Mem w0 G (.blk b (bc l) 244::L) w) (hl:l.length=24) (hnd:Lib.nDigits u≤24) (h2:u < 18446744073709551616) :
  Calls Tryz.prog 172 #[.slice (some ⟨b,0,none⟩) (Lib.nDigits u) c,.int .u64 (u:Int)] w (Ky w0 G fun L' v=>v=.tuple #[]∧∃ r,L' = (.blk b (bc (Lib.decDigits u++r)) 244::L)):=by
 have hH:=M.holdsB (k:=0) rfl (Lib.nDigits u) (by omega);have hs:(l.take (Lib.nDigits u)).toArray.size=Lib.nDigits u:=by simp;omega
 have:=Any.internal_strconv_formatBase10 Tryz.lays285 b 0 c u (l.take (Lib.nDigits u)).toArray w hH (by rw [hs];exact Lib.lt_pow_nDigits u) h2 (by rw [hs];omega);rw [hs] at this;refine this.mono ?_;rintro e w' ⟨rfl,n,v',dk,rfl,hF⟩;have hd:=Adu hF;have M':=M.putRowB (k:=0) rfl dk (by rw [hF.size];omega) n;rw [hd] at M'
 exact ⟨_,M',rfl,_,rfl⟩
theorem Amj (M:Mem w0 G L w) (HG:Globs 0 1 2 3 G) {u:Nat} (hu:u < 18446744073709551616) :
  Calls Tryz.prog 144 #[.int .u64 (u:Int),.int .i64 10] w (Cs w0 G L fun v=>v=.string (str (Lib.decDigits u))):=by
 refine Ay (vs:=[_,_]) Tryz.func144 rfl (n:=32) rfl rfl<|Ac<|Ab rfl<|Ag<|Ac<|Aa rfl<|C3 rfl rfl<|Bl rfl (decide_eq_true (by rfl))<|Ag<|Ac<|Aa rfl<|C2 rfl rfl<|Ap rfl ?_ ?_
 ·intro h1b;have h1:=dT h1b;refine Ac<|Aa rfl<|Ar (fun a F=>Ew Cg.k ⟨_,by rw [D7 El.k]⟩ (F.ev rfl) (C0 (by omega) (by omega))) rfl<|Bs ent170 rfl rfl (Acl (i:=u) M (by omega))<|?_;clear M;rintro _ w M rfl
  refine Ab rfl<|Ae<|Ad rfl rfl<|?_
  exact ⟨M.weaken (sR _),rfl⟩
 intro h2b;have h2:=dF h2b;refine Aq<|Ac<|C9 M Abx rfl rfl<|?_;clear M;intro b3 w M
 refine Ag<|?_
 change Mem w0 G (_::L) _ at M;change Mem w0 G (.blk b3 (bc (List.replicate 24 0)) 244::L) w at M;refine Az<|Aa rfl<|Bs ent171 rfl rfl (Aih (u:=u) M HG (by omega) (by omega))<|?_;clear M;rintro _ w M rfl
 refine Ab rfl<|Ag<|?_
 have hnd:Lib.nDigits u≤20:=by have h1:=Lib.numDigits_eq u (by omega) hu;split at h1 <;> omega
 refine Az<|Aa rfl<|Ar (fun a F=>O7 (h:=Lib.nDigits u) Abx.k Fa (F.ev rfl) (F.ev rfl) (by omega) (by omega)) rfl<|Aa rfl<|?_
 change Mem w0 G (_::L) _ at M;refine P6 ent172 rfl rfl (Ajc (u:=u) (l:=List.replicate 24 0) M (by simp) (by omega) (by omega))<|?_;clear M;rintro _ _ w M ⟨rfl,rr,rfl⟩
 refine Ac<|Aa rfl<|Ar (fun a F=>O7 (h:=Lib.nDigits u) Abx.k Fa (F.ev rfl) (F.ev rfl) (by omega) (by omega)) rfl<|Ar (fun a F=>Xq M (k:=0) rfl K1.k Fa.k Bq.k (F.ev rfl) (by rw [List.length_append,Lib.decDigits_length];omega)) rfl<|fun a F=>?_
 rw [show (Lib.decDigits u++rr).take (Lib.nDigits u)=Lib.decDigits u by rw [← Lib.decDigits_length,List.take_left]] at F;revert a;refine Ab rfl<|Ae<|Ad rfl rfl<|?_
 exact ⟨M.weaken dS1,rfl⟩
theorem Age (M:Mem w0 G L w) (HG:Globs 0 1 2 3 G) {u:Nat} (hu:u < 18446744073709551616) :
  Calls Tryz.prog 98 #[.int .u64 (u:Int),.int .i64 10] w (Cs w0 G L fun v=>v=.string (str (Lib.decDigits u))):=by
 refine Ay (vs:=[_,_]) Tryz.func98 rfl (n:=8) rfl rfl<|Ac<|Ab rfl<|Ac<|Aa rfl<|Aa rfl<|Bs ent144 rfl rfl (Amj (u:=u) M HG (by omega))<|?_;clear M;rintro _ w M rfl
 refine Ab rfl<|Ae<|Ad rfl rfl<|?_
 exact ⟨M,rfl⟩
end Go.Proofs.YtmmhmcplegpenaaGreatDoor
