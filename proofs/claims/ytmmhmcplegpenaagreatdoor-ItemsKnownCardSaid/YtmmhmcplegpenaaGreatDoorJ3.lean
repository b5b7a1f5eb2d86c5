/- Items: names, texts, the item as it is read; which items are valid. · Lists: rules, entries, what is valid, totals, the errors. · Items: numbers, lines, what a line stands for. · The walks, part A. · The walks, part B. -/
import Derived.Test.YtmmhmcplegpenaaGreatDoorYC
import Derived.Laws.RangeAny
import Derived.Laws.RangeString
import Derived.Shelf.GgClosure.StringsIndexFunc
import Derived.Test.YtmmhmcplegpenaaGreatDoorJ2
import Derived.Test.YtmmhmcplegpenaaGreatDoorYB
import Derived.Lib.IndexMore
import Derived.Lib.SplitLaws
import Derived.Lib.ParseIntB
import Derived.Lib.Join
import Derived.Test.YtmmhmcplegpenaaGreatDoorJ1
set_option linter.unusedSimpArgs false
set_option linter.unusedVariables false
set_option maxRecDepth 10000
namespace Go.Proofs.YtmmhmcplegpenaaGreatDoor
open Go Go.Y
structure ItemD where
 key:Nat
 typ:Nat
 text:List UInt8
 marks:List (List UInt8)
deriving DecidableEq
def B1:Rd ItemD:=fun G cs x=>∃ (a:Option Addr) (c:Nat),cs=[.int .u64 ((x.key:Nat):Int),.int .u8 ((x.typ:Nat):Int),.string (str x.text),.slice a x.marks.length c] ∧
 x.key < 18446744073709551616∧x.typ < 256∧x.text.length≤9223372036854775807∧x.marks.length≤9223372036854775807∧A8 Cj 1 G (.slice a x.marks.length c) x.marks
theorem Ae:Ie B1:=by
 rintro G G' cs x h ⟨a,c,h1,h2,h3,h4,h5,h6⟩
 exact ⟨a,c,h1,h2,h3,h4,h5,h6.mono Ax h⟩
def Ck (c:UInt8):Prop:=(97≤nb c∧nb c≤122)∨(48≤nb c∧nb c≤57)
def Cb (s:List UInt8):Prop:=(1≤s.length∧s.length≤16)∧∀ c∈s,Ck c
def Gl (c:UInt8):Prop:=32≤nb c∧nb c≤126
def Str (s:List UInt8):Prop:=s.length≤64∧∀ c∈s,Gl c
instance (c:UInt8):Decidable (Ck c):=by unfold Ck;infer_instance
instance (c:UInt8):Decidable (Gl c):=by unfold Gl;infer_instance
instance (s:List UInt8):Decidable (Cb s):=by unfold Cb;infer_instance
instance (s:List UInt8):Decidable (Str s):=by unfold Str;infer_instance
theorem Str.nil:Str []:=⟨by simp,by simp⟩
theorem Cx {α:Type} {p:α→Prop} {s:List α} {i:Nat} {c:α} (h:∀ (m:Nat) (b:α),m < i→s[m]?=some b→p b) (hc:s[i]?=some c) (hp:p c):∀ (m:Nat) (b:α),m < i+1→s[m]?=some b→p b:=by
 intro m b hm hb
 rcases Nat.lt_or_ge m i with h1 | h1
 ·exact h m b h1 hb
 have:m=i:=by omega
 subst this;rw [hc] at hb;simp only [Option.some.injEq] at hb;subst hb;exact hp
theorem C4 {α:Type} {p:α→Prop} {s:List α} {i:Nat} (h:∀ (m:Nat) (b:α),m < i→s[m]?=some b→p b) (hi:s.length≤i):∀ c∈s,p c:=by
 intro c hc;obtain ⟨m,hm⟩:=List.mem_iff_getElem?.1 hc
 exact h m c (by have:=Bm hm;omega) hm
theorem Ds {α:Type} {p:α→Prop} {s:List α} {i:Nat} {c:α} (hc:s[i]?=some c) (hp:¬ p c):¬ ∀ c∈s,p c:=fun h=>hp (h c (List.mem_of_getElem? hc))
def Fw (r:Nat):Bool:=decide ((r:Int) < 32) || decide (126 < (r:Int))
def Jd (r:Nat):Bool:=(decide ((r:Int) < 97) || decide (122 < (r:Int))) && (decide ((r:Int) < 48) || decide (57 < (r:Int)))
theorem Rl {bad:Nat→Bool} {P:UInt8→Prop} (h1:∀ b:UInt8,bad b.toNat=false↔P b) (h2:∀ r,128≤r→bad r=true) (l:List UInt8):∀ (f pos:Nat),l.length≤pos+f→(Lib.idxFuncFrom bad true (str l) f pos < 0↔∀ (m:Nat) (b:UInt8),pos≤m→l[m]?=some b→P b)
 | 0,pos,h=>by
  have:Lib.idxFuncFrom bad true (str l) 0 pos = -1:=rfl;rw [this];refine ⟨fun _ m b hm hb=>?_,fun _=>by decide⟩;have:=Bm hb;omega
 | f+1,pos,h=>by
  unfold Lib.idxFuncFrom
  by_cases hp:pos < (str l).size
  ·rw [if_pos hp];have hl:pos < l.length:=by rw [B9] at hp;exact hp
   have hb:l[pos]?=some ((str l)[pos]'hp):=by rw [← Pf,getElem?_pos (str l) pos hp]
   generalize hB:(str l)[pos]'hp=B at hb
   by_cases ha:B.toNat < 128
   ·have hd:=decode_ascii (str l) pos hp (by rw [hB];exact ha);rw [hB] at hd;rw [hd]
    by_cases hg:P B
    ·have hbad:bad B.toNat=false:=(h1 B).2 hg;simp only [hbad,Bool.false_eq_true,if_false];rw [Rl h1 h2 l f (pos+1) (by omega)]
     constructor
     ·intro h1 m b hm hb'
      rcases Nat.eq_or_lt_of_le hm with e | e
      ·subst e;rw [hb] at hb';simp only [Option.some.injEq] at hb';subst hb';exact hg
      ·exact h1 m b (by omega) hb'
     ·exact fun h1 m b hm hb'=>h1 m b (by omega) hb'
    ·have hbad:bad B.toNat=true:=by
      cases hx:bad B.toNat with
      | true=>rfl
      | false=>exact absurd ((h1 B).1 hx) hg
     simp only [hbad,if_true];refine ⟨fun h1=>by omega,fun h1=>absurd (h1 pos B (Nat.le_refl _) hb) hg⟩
   ·have hd:=(decode_high (str l) pos hp (by rw [hB];omega)).1;have hbad:bad (Utf8.decode (str l) pos).1=true:=h2 _ (by omega);simp only [hbad,if_true];refine ⟨fun h1=>by omega,fun h3=>?_⟩;have h4:=(h1 B).2 (h3 pos B (Nat.le_refl _) hb);rw [h2 _ (by omega)] at h4;cases h4
  ·rw [if_neg hp];refine ⟨fun _ m b hm hb=>?_,fun _=>by decide⟩;have:=Bm hb;rw [B9] at hp;omega
theorem idx_P {bad:Nat→Bool} {P:UInt8→Prop} (h1:∀ b:UInt8,bad b.toNat=false↔P b) (h2:∀ r,128≤r→bad r=true) (l:List UInt8):Lib.idxFunc bad true (str l) < 0↔∀ c∈l,P c:=by
 unfold Lib.idxFunc;rw [Rl h1 h2 l _ 0 (by rw [B9];omega)]
 constructor
 ·intro h c hc;obtain ⟨m,hm⟩:=List.mem_iff_getElem?.1 hc
  exact h m c (Nat.zero_le _) hm
 exact fun h m b _ hb=>h b (List.mem_of_getElem? hb)
theorem P9 (l:List UInt8):Lib.idxFunc Fw true (str l) < 0↔∀ c∈l,Gl c :=
 idx_P (fun b=>by simp only [Fw,Gl,nb,Bool.or_eq_false_iff,decide_eq_false_iff_not];omega) (fun r h=>by simp only [Fw,Bool.or_eq_true,decide_eq_true_eq];omega) l
theorem X0 (l:List UInt8):Lib.idxFunc Jd true (str l) < 0↔∀ c∈l,Ck c :=
 idx_P (fun b=>by simp only [Jd,Ck,nb,Bool.and_eq_false_iff,Bool.or_eq_false_iff,decide_eq_false_iff_not];omega) (fun r h=>by simp only [Jd,Bool.and_eq_true,Bool.or_eq_true,decide_eq_true_eq];omega) l
def Bv (t:Int) (x:ItemD):Prop:=x.key≠0∧(x.typ:Int) < t∧Str x.text∧x.marks.length≤8∧∀ s∈x.marks,Cb s
instance (t:Int) (x:ItemD):Decidable (Bv t x):=by unfold Bv;infer_instance
def Dh (t:Int) (x:ItemD):Int:=if Bv t x then 0 else 6
theorem Cs {t:Int} {x:ItemD} (h:Bv t x):Dh t x=0:=by unfold Dh;rw [if_pos h]
theorem Ek {t:Int} {x:ItemD} (h:¬ Bv t x):Dh t x=6:=by unfold Dh;rw [if_neg h]
theorem Cr {t:Int} {x:ItemD}:Dh t x=0↔Bv t x:=by
 unfold Dh
 split
 ·rename_i h;exact ⟨fun _=>h,fun _=>rfl⟩
 rename_i h;exact ⟨fun h2=>(by cases h2),fun h2=>absurd h2 h⟩
theorem E3 {l:List (List UInt8)} {i:Nat} (h:∀ (m:Nat) (s:List UInt8),m < i→l[m]?=some s→Cb s) (hi:l.length≤i):∀ s∈l,Cb s:=C4 h hi
theorem K3 {α:Type} {p:α→Prop} {l:List α} {i:Nat} {x:α} (h:∀ (m:Nat) (s:α),m < i→l[m]?=some s→p s) (hx:l[i]?=some x) (hp:p x):∀ (m:Nat) (s:α),m < i+1→l[m]?=some s→p s:=Cx h hx hp
def R4 (x:ItemD):Prop:=x.text.length≤70∧x.marks.length≤12∧∀ s∈x.marks,s.length≤20
def Few (l:List ItemD):Prop:=l.length≤30∧∀ x∈l,R4 x
instance (x:ItemD):Decidable (R4 x):=by unfold R4;infer_instance
instance (l:List ItemD):Decidable (Few l):=by unfold Few;infer_instance
theorem Few.no {l:List ItemD} {i:Nat} {x:ItemD} (h:l[i]?=some x) (hn:¬ R4 x):¬ Few l:=fun h2=>hn (h2.2 x (List.mem_of_getElem? h))
theorem Hu {x y:ItemD} (h1:x.key=y.key) (h2:x.typ=y.typ) (h3:x.text=y.text) (h4:x.marks=y.marks):x=y:=by
 cases x;cases y;simp_all
theorem Oh {α:Type} {xs ys:List α} {i:Nat} {x y:α} (h1:xs[i]?=some x) (h2:ys[i]?=some y) (h:x≠y):xs≠ys:=by
 rintro rfl;rw [h1] at h2;simp only [Option.some.injEq] at h2;exact h h2
theorem Ui {α:Type} {xs ys:List α} {i:Nat} {x y:α} (h:∀ m,m < i→xs[m]?=ys[m]?) (h1:xs[i]?=some x) (h2:ys[i]?=some y) (he:x=y):∀ m,m < i+1→xs[m]?=ys[m]?:=by
 intro m hm
 rcases Nat.lt_or_ge m i with h3 | h3
 ·exact h m h3
 have:m=i:=by omega
 subst this;rw [h1,h2,he]
theorem Ya {α:Type} {xs ys:List α} {i:Nat} (h:∀ m,m < i→xs[m]?=ys[m]?) (hl:xs.length=ys.length) (hi:xs.length≤i):xs=ys:=by
 apply List.ext_getElem?
 intro m
 rcases Nat.lt_or_ge m i with h3 | h3
 ·exact h m h3
 rw [List.getElem?_eq_none (by omega),List.getElem?_eq_none (by omega)]
def Ff (xs:List ItemD) (k:Nat) (z:Int):Prop:=(z = -1∧∀ x∈xs,x.key≠k)∨∃ (i:Nat) (x:ItemD),z=(i:Int)∧xs[i]?=some x∧x.key=k∧∀ (m:Nat) (y:ItemD),m < i→xs[m]?=some y→y.key≠k
theorem Ff.uniq {xs:List ItemD} {k:Nat} {z z':Int} (h:Ff xs k z) (h':Ff xs k z'):z=z':=by
 rcases h with ⟨rfl,h⟩ | ⟨i,x,rfl,h1,h2,h3⟩ <;> rcases h' with ⟨rfl,h'⟩ | ⟨j,y,rfl,h1',h2',h3'⟩
 ·rfl
 ·exact absurd h2' (h y (List.mem_of_getElem? h1'))
 ·exact absurd h2 (h' x (List.mem_of_getElem? h1))
 rcases Nat.lt_trichotomy i j with h4 | h4 | h4
 ·exact absurd h2 (h3' i x h4 h1)
 ·rw [h4]
 exact absurd h2' (h3 j y h4 h1')
theorem Ff.none {xs:List ItemD} {k i:Nat} (h:∀ (m:Nat) (y:ItemD),m < i→xs[m]?=some y→y.key≠k) (hi:xs.length≤i):Ff xs k (-1):=Or.inl ⟨rfl,C4 (p:=fun y:ItemD=>y.key≠k) h hi⟩
theorem Ff.some {xs:List ItemD} {k i:Nat} {x:ItemD} (h:∀ (m:Nat) (y:ItemD),m < i→xs[m]?=some y→y.key≠k) (hx:xs[i]?=some x) (hk:x.key=k):Ff xs k (i:Int):=Or.inr ⟨i,x,rfl,hx,hk,h⟩
structure KindD where
 part:T.PT
 base:Int
 sticky:Bool
 pool:Int
structure RulesD where
 kinds:List KindD
 cap:Int
structure EntD where
 item:ItemD
 size:Int
 known:Bool
def D3 (f:Nat→Int):Nat→Int
 | 0=>0
 | n+1=>if D3 f n=0 then f n else D3 f n
theorem Lp {f:Nat→Int} {n:Nat} (h:D3 f n=0):D3 f (n+1)=f n:=by simp [D3,h]
theorem Ro {f:Nat→Int} {n:Nat} (h:D3 f n≠0):∀ m,n≤m→D3 f m=D3 f n:=by
  intro m hm
  induction m with
  | zero => have : n = 0 := by omega
            subst this;rfl
  | succ m ih =>
    rcases Nat.eq_or_lt_of_le hm with e | e
    · rw [e]
    · have:=ih (by omega)
      simp only [D3,this,h,if_false]
theorem Tf {f:Nat→Int} {i n:Nat} (h:D3 f i=0) (hi:i < n) (he:f i≠0):D3 f n=f i:=by
 have h1:=Lp h;rw [Ro (n:=i+1) (by rw [h1];exact he) n (by omega),h1]
section
variable {c:RulesD} {x:ItemD} {seen:Prop}
end
def X1 (l:List EntD) (k:Nat):Prop:=∃ y∈l,y.item.key=k
section
variable {c:RulesD} {pre:List EntD} {x:EntD}
end
section
variable {c:RulesD} {l:List EntD}
end
def O6 (l:List EntD) (k:Nat) (z:Int):Prop:=(z = -1∧∀ x∈l,x.item.key≠k)∨∃ (i:Nat) (x:EntD),z=(i:Int)∧l[i]?=some x∧x.item.key=k∧∀ (m:Nat) (y:EntD),m < i→l[m]?=some y→y.item.key≠k
theorem O6.none {l:List EntD} {k i:Nat} (h:∀ (m:Nat) (y:EntD),m < i→l[m]?=some y→y.item.key≠k) (hi:l.length≤i):O6 l k (-1):=Or.inl ⟨rfl,C4 (p:=fun y:EntD=>y.item.key≠k) h hi⟩
theorem O6.some {l:List EntD} {k i:Nat} {x:EntD} (h:∀ (m:Nat) (y:EntD),m < i→l[m]?=some y→y.item.key≠k) (hx:l[i]?=some x) (hk:x.item.key=k):O6 l k (i:Int):=Or.inr ⟨i,x,rfl,hx,hk,h⟩
theorem O6.has {l:List EntD} {k:Nat} {z:Int} (h:O6 l k z):0≤z↔X1 l k:=by
 rcases h with ⟨rfl,h⟩ | ⟨i,x,rfl,h1,h2,h3⟩
 ·exact ⟨fun h2=>by omega,fun ⟨y,hy,hk⟩=>absurd hk (h y hy)⟩
 exact ⟨fun _=>⟨x,List.mem_of_getElem? h1,h2⟩,fun _=>by omega⟩
section
variable {c:RulesD} {l:List EntD} {i:Nat} {x:EntD}
end
def D7 (l:List EntD) (i:Nat) (ks:List Nat):Prop:=∀ q,q∈ks↔X1 (l.take i) q
theorem D7.zero (l:List EntD):D7 l 0 []:=fun q=>⟨fun h=>by simp at h,fun ⟨y,hy,_⟩=>by simp at hy⟩
theorem D7.step {l:List EntD} {i:Nat} {ks:List Nat} {x:EntD} (h:D7 l i ks) (hx:l[i]?=some x):D7 l (i+1) (x.item.key::ks):=by
 intro q;rw [List.mem_cons,h q,List.take_add_one,hx]
 constructor
 ·rintro (rfl | ⟨y,hy,hk⟩)
  ·exact ⟨x,by simp,rfl⟩
  exact ⟨y,by simp [hy],hk⟩
 rintro ⟨y,hy,hk⟩;simp only [Option.toList_some,List.mem_append,List.mem_singleton] at hy
 rcases hy with hy | rfl
 ·exact Or.inr ⟨y,hy,hk⟩
 exact Or.inl hk.symm
theorem E8 (u:Nat):Lib.decDigits u=(if u / 10=0 then [] else Lib.decDigits (u / 10))++[UInt8.ofNat (48+u % 10)]:=by
 rw [Lib.decDigits]
 split
 ·rename_i h
  rw [if_pos (by omega),Nat.mod_eq_of_lt h]
  rfl
 rename_i h
 rw [if_neg (by omega)]
def Iv (c:UInt8):Prop:=48≤c.toNat∧c.toNat≤57
def Hl:List UInt8→Nat→Nat
 | [],acc=>acc
 | c::r,acc=>Hl r (10 * acc+(c.toNat - 48))
theorem Pb:∀ (l:List UInt8) (acc:Nat),acc≤Hl l acc
 | [],acc=>Nat.le_refl _
 | c::r,acc=>by have:=Pb r (10 * acc+(c.toNat - 48));simp only [Hl];omega
theorem Kx (c:UInt8):∀ (l:List UInt8) (acc:Nat),Hl (l++[c]) acc=10 * Hl l acc+(c.toNat - 48)
 | [],acc=>rfl
 | b::r,acc=>Kx c r _
instance (c:UInt8):Decidable (Iv c):=by unfold Iv;infer_instance
theorem Ib:∀ (u:Nat),∀ c∈Lib.decDigits u,Iv c:=by
 intro u
 induction u using Nat.strongRecOn with
 | _ u ih =>
  intro c hc;rw [E8] at hc
  rcases List.mem_append.1 hc with hc | hc
  ·split at hc
   ·simp at hc
   ·exact ih (u / 10) (by omega) c hc
  ·simp only [List.mem_singleton] at hc;subst hc;have h1:(UInt8.ofNat (48+u % 10)).toNat=48+u % 10:=UInt8.toNat_ofNat_of_lt' (by show 48+u % 10 < 256;omega);unfold Iv
   omega
theorem Gi:∀ (u:Nat),Hl (Lib.decDigits u) 0=u:=by
 intro u
 induction u using Nat.strongRecOn with
 | _ u ih =>
  have h1:(UInt8.ofNat (48+u % 10)).toNat=48+u % 10:=UInt8.toNat_ofNat_of_lt' (by show 48+u % 10 < 256;omega);rw [E8,Kx,h1]
  split
  ·rename_i h;simp only [Hl];omega
  ·rename_i h;rw [ih (u / 10) (by omega)];omega
theorem Yr:∀ (u:Nat),0 < u→(Lib.decDigits u).head?≠some 48:=by
 intro u
 induction u using Nat.strongRecOn with
 | _ u ih =>
  intro h0;rw [E8]
  split
  ·rename_i h
   rw [List.nil_append,List.head?_cons];intro e;simp only [Option.some.injEq] at e;have h1:(UInt8.ofNat (48+u % 10)).toNat=48+u % 10:=UInt8.toNat_ofNat_of_lt' (by show 48+u % 10 < 256;omega);rw [e] at h1;have h2:(48:UInt8).toNat=48:=rfl
   omega
  ·rename_i h
   rw [List.head?_append];have:=ih (u / 10) (by omega) (by omega)
   cases hh:(Lib.decDigits (u / 10)).head? with
   | none =>
    rw [List.head?_eq_none_iff] at hh;have:=Lib.decDigits_length (u / 10);rw [hh] at this;have:=Lib.nDigits_pos (u / 10)
    simp at *;omega
   | some x=>rw [hh] at this;simpa using this
def ix (c:UInt8):List UInt8→Nat
 | []=>0
 | b::l=>if b=c then 0 else ix c l+1
theorem ix_at (c:UInt8):∀ (l:List UInt8),ix c l < l.length→l[ix c l]?=some c
 | [],h=>by simp at h
 | a::l,h=>by
  unfold ix at h ⊢
  split
  ·rename_i ha;subst ha;rfl
  ·rename_i ha
   rw [if_neg ha] at h;simp only [List.length_cons] at h;rw [List.getElem?_cons_succ]
   exact ix_at c l (by omega)
theorem K7 {c:UInt8}:∀ {l:List UInt8} {k:Nat},(∀ (m:Nat) (b:UInt8),m < k→l[m]?=some b→b≠c)→(l[k]?=some c∨k=l.length)→ix c l=k
 | [],k,_,h=>by
  rcases h with h | h
  ·simp at h
  ·simp [ix,h]
 | a::l,k,h,hk=>by
  unfold ix
  cases k with
  | zero =>
   rcases hk with hk | hk
   ·simp at hk;rw [if_pos hk]
   ·simp at hk
  | succ k =>
   have h0:=h 0 a (by omega) (by simp);rw [if_neg h0,K7 (l:=l) (k:=k) (fun m b h1 h2=>h (m+1) b (by omega) (by simpa using h2)) (by
    rcases hk with hk | hk
    ·left;simpa using hk
    ·right;simpa using hk)]
theorem Kp (c:UInt8):∀ (l:List UInt8),Lib.index l [c]=if ix c l < l.length then ((ix c l:Nat):Int) else -1
 | []=>by simp [Lib.index,ix]
 | b::l=>by
  have ih:=Kp c l;unfold Lib.index ix
  by_cases h:b=c
  ·subst h
   simp
  ·have hp:([c].isPrefixOf (b::l))=false:=by simp [List.isPrefixOf,Ne.symm h]
   rw [if_neg (by rw [hp];simp),if_neg h]
   by_cases hl:ix c l < l.length
   ·rw [if_pos hl] at ih;have h1:¬ (Lib.index l [c]==-1)=true:=by rw [ih,beq_iff_eq];omega
    have h2:ix c l+1 < (b::l).length:=by rw [List.length_cons];omega
    rw [if_neg h1,if_pos h2,ih]
    omega
   ·rw [if_neg hl] at ih;have h1:(Lib.index l [c]==-1)=true:=by rw [ih];rfl
    have h2:¬ ix c l+1 < (b::l).length:=by rw [List.length_cons];omega
    rw [if_pos h1,if_neg h2]
theorem Iy (c:UInt8) (l:List UInt8):Lib.cut l [c]=if ix c l < l.length then (l.take (ix c l),l.drop (ix c l+1),true) else (l,[],false):=by
 unfold Lib.cut;rw [Kp]
 by_cases h:ix c l < l.length
 ·simp only [if_pos h];rw [if_pos (by omega)]
  simp
 simp only [if_neg h];rw [if_neg (by omega)]
theorem D6 (c:UInt8) (s:List UInt8):(Lib.cut s [c]).1.length≤s.length∧(Lib.cut s [c]).2.1.length≤s.length:=by
 rw [Iy]
 split
 ·simp only [List.length_take,List.length_drop];omega
 simp
theorem Ed (u:Nat) (h:u < 18446744073709551616):(Lib.decDigits u).length≤20:=by
 rw [Lib.decDigits_length]
 rcases Nat.eq_zero_or_pos u with h0 | h0
 ·subst h0;rw [Lib.nDigits_small (by decide)];omega
 have h1:=Lib.numDigits_eq u h0 h
 split at h1 <;> omega
theorem P7 {c:UInt8}:∀ {d e:List UInt8},c ∉ d→ix c (d++c::e)=d.length
 | [],e,_=>by simp [ix]
 | b::d,e,h=>by
  simp only [List.cons_append,List.length_cons];unfold ix;rw [if_neg (fun hb=>h (by rw [hb];simp)),P7 (fun hd=>h (by simp [hd]))]
theorem Tm (u:Nat):Lib.decDigits u≠[]:=by
 rw [E8];simp
theorem T0 {most:Nat} (hm:most≤18446744073709551615):∀ (l:List UInt8) (acc:Nat),(∀ c∈l,Iv c)→Hl l acc≤most→Lib.parseUintM most acc l=.ok (Hl l acc)
 | [],acc,_,_=>rfl
 | c::r,acc,hd,hv=>by
  have hc:48≤c.toNat∧c.toNat≤57:=hd c (by simp);simp only [Hl] at hv ⊢;have:=Pb r (10 * acc+(c.toNat - 48));unfold Lib.parseUintM;rw [if_pos hc,if_neg (by omega),if_neg (by omega),Nat.mul_comm acc 10]
  exact T0 hm r _ (fun x hx=>hd x (by simp [hx])) hv
theorem Pw {B u:Nat} (hB:B≤64) (hu:u < 2 ^ B):Lib.parseUintB B (Lib.decDigits u)=.ok u:=by
 unfold Lib.parseUintB;have h64:2 ^ B≤2 ^ 64:=Nat.pow_le_pow_right (by decide) hB;rw [if_neg (Tm u),T0 (by omega) _ _ (Ib u) (by rw [Gi];omega),Gi]
theorem Ja {c:UInt8} {u:Nat} (hc:¬ Iv c):c ∉ Lib.decDigits u:=fun h=>hc (Ib u c h)
theorem Gk {c:UInt8} {d e:List UInt8} (h:c ∉ d):Lib.cut (d++c::e) [c]=(d,e,true):=by
 rw [Iy,P7 h,if_pos (by simp)]
 simp
theorem Ru {c:UInt8} {d:List UInt8} (h:c ∉ d):Lib.cut d [c]=(d,[],false):=by
 have:ix c d=d.length:=K7 (fun m b _ hb=>fun e=>h (e ▸ List.mem_of_getElem? hb)) (Or.inr rfl);rw [Iy,this,if_neg (by omega)]
def C8 (ms:List (List UInt8)):List UInt8:=if ms=[] then [45] else Lib.join ms [44]
def B7 (x:ItemD):List UInt8:=Lib.decDigits x.key++[32]++Lib.decDigits x.typ++[32]++C8 x.marks++[32]++x.text
theorem Gr {s:List UInt8} (h:Cb s) {c:UInt8} (hc:¬ Ck c):c ∉ s:=fun hs=>hc (h.2 c hs)
theorem Kn (m:List UInt8) (y:List UInt8) (r:List (List UInt8)):Lib.join (m::y::r) [44]=m++44::Lib.join (y::r) [44]:=by
 rw [Lib.join_cons,Lib.join_cons]
 simp [Lib.joinTail]
theorem M0 {c:UInt8} (hc:¬ Ck c) (h44:c≠44):∀ (ms:List (List UInt8)),(∀ s∈ms,Cb s)→c ∉ Lib.join ms [44]
 | [],_=>by simp [Lib.join_nil]
 | [m],h=>by rw [Lib.join_one];exact Gr (h m (by simp)) hc
 | m::y::r,h=>by
  rw [Kn];intro hx
  rcases List.mem_append.1 hx with hx | hx
  ·exact Gr (h m (by simp)) hc hx
  ·rcases List.mem_cons.1 hx with hx | hx
   ·exact h44 hx
   ·exact M0 hc h44 (y::r) (fun s hs=>h s (by simp [hs])) hx
theorem join_ne {m:List UInt8} {r:List (List UInt8)} (h:Cb m):Lib.join (m::r) [44]≠[]:=by
 rw [Lib.join_cons];intro e;have h1:=(List.append_eq_nil_iff.1 e).1;subst h1
 exact absurd h.1.1 (by simp)
theorem I6 {m:List UInt8} {r:List (List UInt8)} (h:Cb m):Lib.join (m::r) [44]≠[45]:=by
 rw [Lib.join_cons];intro e
 cases m with
 | nil=>exact absurd h.1.1 (by simp)
 | cons b m =>
  simp only [List.cons_append,List.cons.injEq] at e;have h1:=h.2 b (by simp);rw [e.1] at h1
  exact absurd h1 (by decide)
theorem Om {ms:List (List UInt8)} (h:∀ s∈ms,Cb s):(32:UInt8) ∉ C8 ms∧(10:UInt8) ∉ C8 ms:=by
 unfold C8
 split
 ·exact ⟨by decide,by decide⟩
 exact ⟨M0 (by decide) (by decide) ms h,M0 (by decide) (by decide) ms h⟩
theorem N6 {s:List UInt8} (h:Str s):(10:UInt8) ∉ s:=fun hs=>absurd (h.2 10 hs) (by decide)
theorem Jw {x:ItemD} (h:Bv 8 x):(10:UInt8) ∉ B7 x:=by
 obtain ⟨_,_,h3,_,h5⟩:=h;unfold B7;simp only [List.mem_append,List.mem_singleton,not_or]
 exact ⟨⟨⟨⟨⟨⟨Ja (by decide),by decide⟩,Ja (by decide)⟩,by decide⟩,(Om h5).2⟩,by decide⟩,N6 h3⟩
theorem line_r (x:ItemD):B7 x=Lib.decDigits x.key++32::(Lib.decDigits x.typ++32::(C8 x.marks++32::x.text)):=by
 simp [B7]
theorem Fv (x:ItemD) (e:List UInt8):Lib.cut (B7 x++e) [32]=(Lib.decDigits x.key,Lib.decDigits x.typ++32::(C8 x.marks++32::(x.text++e)),true):=by
 rw [line_r,show Lib.decDigits x.key++32::(Lib.decDigits x.typ++32::(C8 x.marks++32::x.text))++e=Lib.decDigits x.key++32::(Lib.decDigits x.typ++32::(C8 x.marks++32::(x.text++e))) by simp]
 exact Gk (Ja (by decide))
theorem E4 (t:Nat) (r:List UInt8):Lib.cut (Lib.decDigits t++32::r) [32]=(Lib.decDigits t,r,true):=Gk (Ja (by decide))
theorem Gs {ms:List (List UInt8)} (h:∀ s∈ms,Cb s) (r:List UInt8):Lib.cut (C8 ms++32::r) [32]=(C8 ms,r,true):=Gk (Om h).1
theorem T8 {b:Nat}:∀ (ms:List (List UInt8)),(∀ s∈ms,s.length≤b)→Lib.lens ms≤b * ms.length
 | [],_=>by simp [Lib.lens]
 | m::r,h=>by
  have h1:=T8 r (fun s hs=>h s (by simp [hs]));have h2:=h m (by simp);simp only [Lib.lens,List.map_cons,List.sum_cons,List.length_cons,Nat.mul_succ] at h1 ⊢
  omega
theorem Xv {ms:List (List UInt8)} {b:Nat} (h:∀ s∈ms,s.length≤b):(Lib.join ms [44]).length≤(b+1) * ms.length:=by
 cases ms with
 | nil=>simp [Lib.join_nil]
 | cons m r =>
  rw [Lib.join_length];have h1:=T8 (m::r) h;simp only [List.length_cons,List.length_nil,Nat.add_mul] at h1 ⊢
  omega
theorem H5 {ms:List (List UInt8)} (h8:ms.length≤8) (h:∀ s∈ms,Cb s):(Lib.join ms [44]).length≤136:=by
 have h1:=Xv (b:=16) (fun s hs=>(h s hs).1.2);have h2:=Nat.mul_le_mul_left 17 h8
 omega
theorem Vq {ms:List (List UInt8)} (h8:ms.length≤8) (h:∀ s∈ms,Cb s):(C8 ms).length≤136:=by
 unfold C8
 split
 ·decide
 exact H5 h8 h
theorem Gw {x:ItemD} {t:Int} (h:Bv t x) (hk:x.key < 18446744073709551616) (ht:x.typ < 256):(B7 x).length≤300:=by
 obtain ⟨_,_,h3,h4,h5⟩:=h;have h6:=Vq h4 h5;have h7:=Ed x.key hk;have h8:=Ed x.typ (by omega);have h9:=h3.1;unfold B7;simp only [List.length_append,List.length_cons,List.length_nil]
 omega
def Bg (s:List UInt8):List (List UInt8):=Lib.split s [44]
theorem Me:∀ (k:Nat) (s:List UInt8) (p:List UInt8),p∈Lib.splitK [44] 0 k s→p.length≤s.length
 | 0,s,p,h=>by simp only [Lib.splitK,List.mem_singleton] at h;subst h;exact Nat.le_refl _
 | k+1,s,p,h=>by
  unfold Lib.splitK at h
  split at h
  ·simp only [List.mem_singleton] at h;subst h;exact Nat.le_refl _
  ·rcases List.mem_cons.1 h with rfl | h
   ·simp only [List.length_take];omega
   ·have:=Me k _ p h;simp only [List.length_drop] at this;omega
theorem Sg {s p:List UInt8} (h:p∈Bg s):p.length≤s.length:=Me _ _ _ h
theorem Sf {m r:List UInt8} (k:Nat) (h:(44:UInt8) ∉ m):Lib.splitK [44] 0 (k+1) (m++44::r)=m::Lib.splitK [44] 0 k r:=by
 have h1:Lib.index (m++44::r) [44]=((m.length:Nat):Int):=by rw [Kp,P7 h,if_pos (by simp)]
 rw [Lib.splitK,h1,if_neg (by rw [beq_iff_eq];omega)]
 congr 1
 ·simp
 congr 1;simp
theorem Lh:∀ (m:List UInt8) (r:List (List UInt8)),(∀ s∈m::r,Cb s)→Lib.splitK [44] 0 r.length (Lib.join (m::r) [44])=m::r
 | m,[],_=>by simp [Lib.join_one,Lib.splitK]
 | m,y::r,h=>by
  rw [Kn,List.length_cons,Sf _ (Gr (h m (by simp)) (by decide)),Lh y r (fun s hs=>h s (by simp [hs]))]
theorem Nf:∀ (m:List UInt8) (r:List (List UInt8)),(∀ s∈m::r,Cb s)→(Lib.join (m::r) [44]).count 44=r.length
 | m,[],h=>by
  rw [Lib.join_one];exact List.count_eq_zero.2 (Gr (h m (by simp)) (by decide))
 | m,y::r,h=>by
  rw [Kn,List.count_append,List.count_cons_self,Nf y r (fun s hs=>h s (by simp [hs])),List.count_eq_zero.2 (Gr (h m (by simp)) (by decide))]
  simp
theorem Ij {ms:List (List UInt8)} (h:∀ s∈ms,Cb s) (h0:ms≠[]):Bg (C8 ms)=ms:=by
 cases ms with
 | nil=>exact absurd rfl h0
 | cons m r =>
  unfold Bg Lib.split C8;rw [if_neg h0,Lib.count_one,Nf m r h,Lh m r h]
def Rd8 (s:List UInt8) (x:ItemD):Prop:=Bv 8 x∧x.key < 18446744073709551616∧B7 x=s
theorem Ou {x y:ItemD} (hx:Bv 8 x) (hy:Bv 8 y) (hkx:x.key < 18446744073709551616) (hky:y.key < 18446744073709551616) (e:B7 x=B7 y):x=y:=by
 have a1:=Fv x [];have b1:=Fv y [];rw [List.append_nil,List.append_nil] at a1 b1;rw [e,b1] at a1;simp only [Prod.mk.injEq,and_true] at a1;obtain ⟨h1,h2⟩:=a1;have c1:=E4 x.typ (C8 x.marks++32::x.text);rw [← h2,E4] at c1;simp only [Prod.mk.injEq,and_true] at c1;obtain ⟨h3,h4⟩:=c1;have d1:=Gs hx.2.2.2.2 x.text;rw [← h4,Gs hy.2.2.2.2] at d1;simp only [Prod.mk.injEq,and_true] at d1;obtain ⟨h5,h6⟩:=d1;refine Hu ?_ ?_ h6.symm ?_
 ·rw [← Gi x.key,← h1,Gi]
 ·rw [← Gi x.typ,← h3,Gi]
 by_cases hm:x.marks=[]
 ·by_cases hn:y.marks=[]
  ·rw [hm,hn]
  obtain ⟨m,r,hmr⟩:=List.exists_cons_of_ne_nil hn;rw [hm,hmr] at h5;simp only [C8,if_true,if_neg (List.cons_ne_nil m r)] at h5
  exact absurd h5 (I6 (hy.2.2.2.2 m (by rw [hmr];simp)))
 by_cases hn:y.marks=[]
 ·obtain ⟨m,r,hmr⟩:=List.exists_cons_of_ne_nil hm;rw [hn,hmr] at h5;simp only [C8,if_true,if_neg (List.cons_ne_nil m r)] at h5
  exact absurd h5.symm (I6 (hx.2.2.2.2 m (by rw [hmr];simp)))
 rw [← Ij hx.2.2.2.2 hm,← h5,Ij hy.2.2.2.2 hn]
theorem Rd8.uniq {s:List UInt8} {x y:ItemD} (hx:Rd8 s x) (hy:Rd8 s y):x=y:=Ou hx.1 hy.1 hx.2.1 hy.2.1 (hx.2.2.trans hy.2.2.symm)
def Bd (l:List ItemD):List UInt8:=(l.map fun x=>B7 x++[10]).flatten
theorem Jm {l:List ItemD} {i:Nat} {x:ItemD} (h:l[i]?=some x):Bd (l.take (i+1))=Bd (l.take i)++(B7 x++[10]):=by
 unfold Bd;rw [List.take_add_one,h]
 simp
theorem Ut (l:List ItemD) (x:ItemD):Bd (l++[x])=Bd l++(B7 x++[10]):=by unfold Bd;simp
def Dl (l:List ItemD):Prop:=∀ x∈l,Bv 8 x
instance (l:List ItemD):Decidable (Dl l):=by unfold Dl;infer_instance
theorem Dl.no {l:List ItemD} {i:Nat} {x:ItemD} (h:l[i]?=some x) (hn:¬ Bv 8 x):¬ Dl l:=fun h2=>hn (h2 x (List.mem_of_getElem? h))
def Dj (l:List ItemD):Int:=if 1024 < l.length then 3 else if Dl l then 0 else 6
def Eh (l:List ItemD):List UInt8:=if Dj l=0 then Bd l else []
theorem Kb {l:List ItemD} (h:1024 < l.length):Dj l=3∧Eh l=[]:=by
 have:Dj l=3:=by unfold Dj;rw [if_pos h]
 exact ⟨this,by unfold Eh;rw [this];rfl⟩
theorem Kc {l:List ItemD} (h:l.length≤1024) (hn:¬ Dl l):Dj l=6∧Eh l=[]:=by
 have:Dj l=6:=by unfold Dj;rw [if_neg (by omega),if_neg hn]
 exact ⟨this,by unfold Eh;rw [this];rfl⟩
theorem G8 {l:List ItemD} (h:l.length≤1024) (hn:Dl l):Dj l=0∧Eh l=Bd l:=by
 have:Dj l=0:=by unfold Dj;rw [if_neg (by omega),if_pos hn]
 exact ⟨this,by unfold Eh;rw [if_pos this]⟩
theorem Oq {x:ItemD} (h:¬ Lib.join x.marks [44]=[]):B7 x=Lib.decDigits x.key++[32]++Lib.decDigits x.typ++[32]++Lib.join x.marks [44]++[32]++x.text:=by
 unfold B7 C8;rw [if_neg (fun e=>h (by rw [e];rfl))]
theorem Ot {x:ItemD} (h:Lib.join x.marks [44]=[]) (hok:Bv 8 x):B7 x=Lib.decDigits x.key++[32]++Lib.decDigits x.typ++[32]++[45]++[32]++x.text:=by
 have:x.marks=[]:=by
  cases hm:x.marks with
  | nil=>rfl
  | cons m r=>rw [hm] at h;exact absurd h (join_ne (hok.2.2.2.2 m (by rw [hm];simp)))
 unfold B7 C8;rw [if_pos this]
theorem Vv {ms:List (List UInt8)} {i:Nat} {m:List UInt8} (h:ms[i]?=some m) (h0:0 < i):Lib.join (ms.take (i+1)) [44]=Lib.join (ms.take i) [44]++[44]++m:=by
 cases ms with
 | nil=>simp at h
 | cons a r =>
  cases i with
  | zero=>omega
  | succ i =>
   rw [List.take_succ_cons,List.take_succ_cons,Lib.join_cons,Lib.join_cons,Lib.joinTail_take_succ _ _ _ _ (by simpa using h)]
   simp
theorem Xw {ms:List (List UInt8)} {m:List UInt8} (h:ms[0]?=some m):Lib.join (ms.take 1) [44]=m:=by
 cases ms with
 | nil=>simp at h
 | cons a r=>simp at h;subst h;rw [List.take_succ_cons,List.take_zero,Lib.join_one]
theorem K6 {x:ItemD} (h:Bv 8 x) (i:Nat):(Lib.join (x.marks.take i) [44]).length≤136:=H5 (by rw [List.length_take];have:=h.2.2.2.1;omega) (fun s hs=>h.2.2.2.2 s (List.mem_of_mem_take hs))
theorem Oo {x:ItemD} (h:x.marks.length=0):B7 x=Lib.decDigits x.key++[32]++Lib.decDigits x.typ++[32]++[45]++[32]++x.text:=by
 unfold B7 C8;rw [if_pos (List.eq_nil_of_length_eq_zero h)]
theorem On {x:ItemD} {i:Nat} (h:¬ x.marks.length=0) (hi:x.marks.length≤i):B7 x=Lib.decDigits x.key++[32]++Lib.decDigits x.typ++[32]++Lib.join (x.marks.take i) [44]++[32]++x.text:=by
 unfold B7 C8;rw [if_neg (fun e=>h (by rw [e];rfl)),List.take_of_length_le hi]
def R3 (lim:Nat) (s:List UInt8) (u:Nat) (b:Bool):Prop:=u < lim∧∀ m:Nat,m < lim→s=Lib.decDigits m→b=true∧u=m
def Gb (c:List UInt8):List (List UInt8):=if c=[45] then [] else Bg c
theorem Q8 {ms:List (List UInt8)} (h:∀ s∈ms,Cb s):Gb (C8 ms)=ms:=by
 unfold Gb
 cases ms with
 | nil=>rfl
 | cons m r =>
  have:C8 (m::r)=Lib.join (m::r) [44]:=by unfold C8;rw [if_neg (List.cons_ne_nil m r)]
  rw [if_neg (by rw [this];exact I6 (h m (by simp))),Ij h (List.cons_ne_nil m r)]
theorem E6 {s:List UInt8} {y:ItemD} {u1 u2 lim:Nat} {b1 b2:Bool} (h:Rd8 s y) (n1:R3 18446744073709551616 (Lib.cut s [32]).1 u1 b1) (hl:256≤lim) (n2:R3 lim (Lib.cut (Lib.cut s [32]).2.1 [32]).1 u2 b2) :
  b1=true∧b2=true∧(⟨u1,u2,(Lib.cut (Lib.cut (Lib.cut s [32]).2.1 [32]).2.1 [32]).2.1,Gb (Lib.cut (Lib.cut (Lib.cut s [32]).2.1 [32]).2.1 [32]).1⟩:ItemD)=y:=by
 obtain ⟨hok,hk,rfl⟩:=h;have ht:y.typ < 256:=by have:=hok.2.1;omega
 have a1:=Fv y [];rw [List.append_nil,List.append_nil] at a1;rw [a1] at n1 n2;simp only [E4] at n2;rw [a1];simp only [E4,Gs hok.2.2.2.2,Q8 hok.2.2.2.2];obtain ⟨h1,h2⟩:=n1.2 y.key hk rfl;obtain ⟨h3,h4⟩:=n2.2 y.typ (by omega) rfl
 exact ⟨h1,h3,by rw [h2,h4]⟩
def Lz (s:List UInt8) (x:ItemD):Prop:=Bv 8 x∧x.key < 18446744073709551616∧B7 x++[10]=s
theorem Lz.one {s:List UInt8} {x:ItemD} (h:Lz (s++[10]) x):Rd8 s x:=⟨h.1,h.2.1,by have:=h.2.2;simpa using this⟩
theorem Rd8.ten {s:List UInt8} {x:ItemD} (h:Rd8 s x):Lz (s++[10]) x:=⟨h.1,h.2.1,by rw [h.2.2]⟩
theorem U7 {s:List UInt8} {y:ItemD} {u1 u2 lim:Nat} {b1 b2:Bool} (h:Lz s y) (n1:R3 18446744073709551616 (Lib.cut s [32]).1 u1 b1) (hl:256≤lim) (n2:R3 lim (Lib.cut (Lib.cut s [32]).2.1 [32]).1 u2 b2) :
  b1=true∧b2=true∧u1=y.key∧u2=y.typ∧(Lib.cut (Lib.cut (Lib.cut s [32]).2.1 [32]).2.1 [32]).1=C8 y.marks∧Lib.cut (Lib.cut (Lib.cut (Lib.cut s [32]).2.1 [32]).2.1 [32]).2.1 [10]=(y.text,[],true):=by
 obtain ⟨hok,hk,rfl⟩:=h;have ht:y.typ < 256:=by have:=hok.2.1;omega
 have a1:=Fv y [10];rw [a1] at n1 n2;simp only [E4] at n2;rw [a1];simp only [E4,Gs hok.2.2.2.2];obtain ⟨h1,h2⟩:=n1.2 y.key hk rfl;obtain ⟨h3,h4⟩:=n2.2 y.typ (by omega) rfl
 exact ⟨h1,h3,h2,h4,trivial,Gk (N6 hok.2.2.1)⟩
def MkI (y xs:List (List UInt8)) (c:List UInt8):Prop:=∃ ys,y=xs++ys∧c=C8 ys
theorem MkI.nil {y:List (List UInt8)} {c:List UInt8} (h:c=C8 y):MkI y [] c:=⟨y,rfl,h⟩
theorem MkI.dash {y xs:List (List UInt8)} (hn:∀ s∈y,Cb s) (h:MkI y xs [45]):y=xs:=by
 obtain ⟨ys,h1,h2⟩:=h
 cases ys with
 | nil=>simpa using h1
 | cons m r =>
  have:C8 (m::r)=Lib.join (m::r) [44]:=by unfold C8;rw [if_neg (List.cons_ne_nil m r)]
  rw [this] at h2
  exact absurd h2.symm (I6 (hn m (by rw [h1];simp)))
theorem MkI.step {y xs:List (List UInt8)} {c:List UInt8} (hn:∀ s∈y,Cb s) (h:MkI y xs c) (hc:¬ c=[45]) :
  ((Lib.cut c [44]).2.2=true→MkI y (xs++[(Lib.cut c [44]).1]) (Lib.cut c [44]).2.1)∧(¬ (Lib.cut c [44]).2.2=true→y=xs++[(Lib.cut c [44]).1]):=by
 obtain ⟨ys,h1,h2⟩:=h
 cases ys with
 | nil=>exact absurd h2 hc
 | cons m r =>
  have hm:(44:UInt8) ∉ m:=Gr (hn m (by rw [h1];simp)) (by decide);have hj:C8 (m::r)=Lib.join (m::r) [44]:=by unfold C8;rw [if_neg (List.cons_ne_nil m r)]
  cases r with
  | nil =>
   rw [hj,Lib.join_one] at h2;subst h2;rw [Ru hm]
   exact ⟨fun h=>(by cases h),fun _=>h1⟩
  | cons m2 r =>
   rw [hj,Kn] at h2;subst h2;rw [Gk hm];refine ⟨fun _=>⟨m2::r,by rw [h1];simp,?_⟩,fun h=>absurd rfl h⟩;unfold C8;rw [if_neg (List.cons_ne_nil m2 r)]
theorem H6 {t:Int} {x:ItemD} (h:¬ 0 < Dh t x):Bv t x:=by
 unfold Dh at h
 split at h
 ·assumption
 omega
theorem L5 {t:Int} {x:ItemD} (h:0 < Dh t x):¬ Bv t x:=fun h2=>by rw [Cs h2] at h;omega
noncomputable def H7 (s:List UInt8):Option ItemD:=by
 classical exact if h:∃ x,Rd8 s x then some h.choose else none
theorem Jz {s:List UInt8} {x:ItemD} (h:Rd8 s x):H7 s=some x:=by
 have hx:∃ x,Rd8 s x:=⟨x,h⟩;unfold H7;rw [dif_pos hx,Rd8.uniq hx.choose_spec h]
theorem Vx {s:List UInt8} (h:∀ y,¬ Rd8 s y):H7 s=none:=by
 unfold H7;rw [dif_neg (fun ⟨x,hx⟩=>h x hx)]
noncomputable def pGo:Nat→List ItemD→List UInt8→List ItemD × Nat × Int
 | 0,_,_=>([],0,0)
 | f+1,l,s=>if s=[] then (l,0,0) else if (Lib.cut s [10]).2.2=true then
   (match H7 (Lib.cut s [10]).1 with
    | some x=>if l.length=1024 then ([],l.length+1,3) else pGo f (l++[x]) (Lib.cut s [10]).2.1
    | none=>([],l.length+1,5)) else ([],l.length+1,5)
noncomputable def Be (s:List UInt8):List ItemD × Nat × Int:=if 1048576 < s.length then ([],0,3) else pGo (s.length+1) [] s
def Gd (s0:List UInt8) (xs:List ItemD) (c:List UInt8):Prop:=∃ f,c.length < f∧Be s0=pGo f xs c∧xs.length≤1024∧Dl xs
theorem Ht {s:List UInt8} (h:1048576 < s.length):Be s=([],0,3):=by unfold Be;rw [if_pos h]
theorem Gd.start {s:List UInt8} (h:¬ 1048576 < s.length):Gd s [] s:=⟨s.length+1,by omega,by unfold Be;rw [if_neg h],by simp,fun x hx=>by simp at hx⟩
theorem Gd.fin {s0:List UInt8} {xs:List ItemD} (h:Gd s0 xs []):Be s0=(xs,0,0):=by
 obtain ⟨f,h1,h2,_⟩:=h
 cases f with
 | zero=>simp at h1
 | succ f=>rw [h2];unfold pGo;rw [if_pos rfl]
theorem Nd {s:List UInt8} (h:¬ s=[]):(Lib.cut s [10]).2.1.length < s.length:=by
 have h0:=List.length_pos_iff.2 h;rw [Iy]
 split
 ·simp only [List.length_drop];omega
 simpa using h0
theorem Gd.bad {s0:List UInt8} {xs:List ItemD} {c:List UInt8} (h:Gd s0 xs c) (hc:¬ c=[]) (hb:¬ (Lib.cut c [10]).2.2=true∨∀ y,¬ Rd8 (Lib.cut c [10]).1 y):Be s0=([],xs.length+1,5):=by
 obtain ⟨f,h1,h2,_⟩:=h
 cases f with
 | zero=>omega
 | succ f =>
  rw [h2];unfold pGo;rw [if_neg hc]
  by_cases hq:(Lib.cut c [10]).2.2=true
  ·rw [if_pos hq,Vx (hb.resolve_left (fun h=>h hq))]
  ·rw [if_neg hq]
theorem Gd.full {s0:List UInt8} {xs:List ItemD} {c:List UInt8} {x:ItemD} (h:Gd s0 xs c) (hc:¬ c=[]) (hq:(Lib.cut c [10]).2.2=true) (hx:Rd8 (Lib.cut c [10]).1 x) (hl:xs.length=1024):Be s0=([],xs.length+1,3):=by
 obtain ⟨f,h1,h2,_⟩:=h
 cases f with
 | zero=>omega
 | succ f =>
  rw [h2];unfold pGo;rw [if_neg hc,if_pos hq,Jz hx];simp only;rw [if_pos hl]
theorem Gd.next {s0:List UInt8} {xs:List ItemD} {c:List UInt8} {x:ItemD} (h:Gd s0 xs c) (hc:¬ c=[]) (hq:(Lib.cut c [10]).2.2=true) (hx:Rd8 (Lib.cut c [10]).1 x) (hl:¬ xs.length=1024):Gd s0 (xs++[x]) (Lib.cut c [10]).2.1:=by
 obtain ⟨f,h1,h2,h3,h4⟩:=h
 cases f with
 | zero=>omega
 | succ f =>
  have h5:=Nd hc;refine ⟨f,by omega,?_,by simp only [List.length_append,List.length_cons,List.length_nil];omega,fun y hy=>?_⟩
  ·rw [h2,pGo,if_neg hc,if_pos hq,Jz hx];simp only;rw [if_neg hl]
  ·rcases List.mem_append.1 hy with hy | hy
   ·exact h4 y hy
   ·simp only [List.mem_singleton] at hy;subst hy;exact hx.1
theorem Fp (x:ItemD) (l:List ItemD):Bd (x::l)=B7 x++10::Bd l:=by unfold Bd;simp
theorem T2:∀ (r p:List ItemD) (f:Nat),Dl r→(∀ x∈r,x.key < 18446744073709551616)→p.length+r.length≤1024→(Bd r).length < f→pGo f p (Bd r)=(p++r,0,0)
 | [],p,f,_,_,_,hf=>by
  cases f with
  | zero=>omega
  | succ f=>unfold pGo;rw [if_pos (by rfl)];simp
 | x::r,p,f,hok,hk,hl,hf=>by
  cases f with
  | zero=>omega
  | succ f =>
   have h1:=hok x (by simp);have hc:Lib.cut (Bd (x::r)) [10]=(B7 x,Bd r,true):=by rw [Fp];exact Gk (Jw h1)
   have hne:¬ Bd (x::r)=[]:=by rw [Fp];simp
   simp only [List.length_cons] at hl;rw [pGo,if_neg hne,hc,if_pos rfl,Jz ⟨h1,hk x (by simp),rfl⟩];simp only;rw [if_neg (by omega),T2 r (p++[x]) f (fun y hy=>hok y (by simp [hy])) (fun y hy=>hk y (by simp [hy])) (by simp only [List.length_append,List.length_cons,List.length_nil];omega) (by rw [Fp] at hf;simp only [List.length_append,List.length_cons] at hf;omega)]
   simp
theorem Ir {l:List ItemD} (h:Dl l) (hk:∀ x∈l,x.key < 18446744073709551616) (hl:l.length≤1024) (hs:(Bd l).length≤1048576):Be (Bd l)=(l,0,0):=by
 unfold Be;rw [if_neg (by omega),T2 l [] _ h hk (by simpa using hl) (by omega)]
 rfl
theorem Kz {l:List ItemD} (h:Dl l) (hk:∀ x∈l,x.key < 18446744073709551616∧x.typ < 256):(Bd l).length≤301 * l.length:=by
 induction l with
 | nil=>simp [Bd]
 | cons x l ih =>
  have h1:=Gw (h x (by simp)) (hk x (by simp)).1 (hk x (by simp)).2;have h2:=ih (fun y hy=>h y (by simp [hy])) (fun y hy=>hk y (by simp [hy]));rw [Fp];simp only [List.length_append,List.length_cons]
  omega
theorem Xe:∀ (f:Nat) (l:List ItemD) (s:List UInt8) (r:List ItemD) (a:Nat),pGo f l s=(r,a,0)→s.length < f→Bd r=Bd l++s
 | 0,l,s,r,a,_,h=>by omega
 | f+1,l,s,r,a,h,hf=>by
  unfold pGo at h
  by_cases hs:s=[]
  ·rw [if_pos hs] at h;simp only [Prod.mk.injEq] at h;rw [hs,← h.1,List.append_nil]
  ·rw [if_neg hs] at h
   by_cases hq:(Lib.cut s [10]).2.2=true
   ·rw [if_pos hq] at h
    cases hi:H7 (Lib.cut s [10]).1 with
    | none=>rw [hi] at h;simp only [Prod.mk.injEq] at h;exact absurd h.2.2 (by decide)
    | some x =>
     rw [hi] at h;simp only at h
     by_cases hl:l.length=1024
     ·rw [if_pos hl] at h;simp only [Prod.mk.injEq] at h;exact absurd h.2.2 (by decide)
     ·rw [if_neg hl] at h;have hlt:=Nd hs;have ih:=Xe f _ _ _ _ h (by omega);have hx:B7 x=(Lib.cut s [10]).1:=by
       unfold H7 at hi
       split at hi
       ·rename_i hex;simp only [Option.some.injEq] at hi;rw [← hi];exact hex.choose_spec.2.2
       ·cases hi
      have hsp:s=(Lib.cut s [10]).1++10::(Lib.cut s [10]).2.1:=by
       have hcut:=Iy 10 s
       by_cases hix:ix 10 s < s.length
       ·rw [if_pos hix] at hcut;rw [hcut]
        conv=>lhs;rw [← List.take_append_drop (ix 10 s) s]
        rw [List.drop_eq_getElem_cons hix,show s[ix 10 s]=10 from by have h9:=ix_at 10 s hix;rw [List.getElem?_eq_getElem hix] at h9;simpa using h9]
       ·rw [if_neg hix] at hcut;rw [hcut] at hq;cases hq
      rw [ih,Ut,hx]
      conv=>rhs;rw [hsp]
      simp
   ·rw [if_neg hq] at h;simp only [Prod.mk.injEq] at h;exact absurd h.2.2 (by decide)
theorem Sz:∀ (f:Nat) (l:List ItemD) (s:List UInt8) (r:List ItemD) (a:Nat) (e:Int),pGo f l s=(r,a,e)→Dl l→l.length≤1024→Dl r∧r.length≤1024∧(e≠0→r=[])
 | 0,l,s,r,a,e,h,_,_=>by
  simp only [pGo,Prod.mk.injEq] at h;rw [← h.1];exact ⟨fun x hx=>by simp at hx,by simp,fun _=>rfl⟩
 | f+1,l,s,r,a,e,h,hok,hle=>by
  have nil:∀ {r:List ItemD},[]=r→Dl r∧r.length≤1024∧(e≠0→r=[]):=fun h=>by rw [← h];exact ⟨fun x hx=>by simp at hx,by simp,fun _=>rfl⟩
  unfold pGo at h
  by_cases hs:s=[]
  ·rw [if_pos hs] at h;simp only [Prod.mk.injEq] at h;rw [← h.1];exact ⟨hok,hle,fun h9=>absurd h.2.2.symm h9⟩
  ·rw [if_neg hs] at h
   by_cases hq:(Lib.cut s [10]).2.2=true
   ·rw [if_pos hq] at h
    cases hi:H7 (Lib.cut s [10]).1 with
    | none=>rw [hi] at h;simp only [Prod.mk.injEq] at h;exact nil h.1
    | some x =>
     rw [hi] at h;simp only at h
     by_cases hl:l.length=1024
     ·rw [if_pos hl] at h;simp only [Prod.mk.injEq] at h;exact nil h.1
     ·rw [if_neg hl] at h;have hx:Bv 8 x:=by
       unfold H7 at hi
       split at hi
       ·rename_i hex;simp only [Option.some.injEq] at hi;rw [← hi];exact hex.choose_spec.1
       ·cases hi
      refine Sz f _ _ _ _ _ h (fun y hy=>?_) (by simp only [List.length_append,List.length_cons,List.length_nil];omega)
      rcases List.mem_append.1 hy with hy | hy
      ·exact hok y hy
      ·simp only [List.mem_singleton] at hy;subst hy;exact hx
   ·rw [if_neg hq] at h;simp only [Prod.mk.injEq] at h;exact nil h.1
theorem Of {s:List UInt8} (h:(Be s).2.2=0):Dj (Be s).1=0∧Eh (Be s).1=s:=by
 have hb:¬ 1048576 < s.length:=fun hb=>by rw [Ht hb] at h;exact absurd h (by decide)
 have hp:Be s=pGo (s.length+1) [] s:=by unfold Be;rw [if_neg hb]
 have he:pGo (s.length+1) [] s=((Be s).1,(Be s).2.1,0):=by rw [← hp,← h]
 have h1:=Xe _ _ _ _ _ he (by omega);have h2:=Sz _ _ _ _ _ _ he (fun x hx=>by simp at hx) (by simp);have h3:=G8 h2.2.1 h2.1
 exact ⟨h3.1,by rw [h3.2,h1];rfl⟩
theorem Vh {s:List UInt8} (h:¬ (Be s).2.2=0):(Be s).1=[]:=by
 by_cases hb:1048576 < s.length
 ·rw [Ht hb]
 have hp:Be s=pGo (s.length+1) [] s:=by unfold Be;rw [if_neg hb]
 exact (Sz (s.length+1) [] s _ (Be s).2.1 (Be s).2.2 (by rw [← hp]) (fun x hx=>by simp at hx) (by simp)).2.2 h
theorem rd_flag {s:List UInt8} {y:ItemD} (h:Rd8 s y):(Lib.cut (Lib.cut (Lib.cut s [32]).2.1 [32]).2.1 [32]).2.2=true:=by
 obtain ⟨hok,hk,rfl⟩:=h;have a1:=Fv y [];rw [List.append_nil,List.append_nil] at a1;rw [a1];simp only [E4,Gs hok.2.2.2.2]
theorem rd_head {s:List UInt8} {y:ItemD} (h:Rd8 s y):(Lib.cut s [32]).1=Lib.decDigits y.key∧y.key≠0:=by
 obtain ⟨hok,hk,rfl⟩:=h;have a1:=Fv y [];rw [List.append_nil,List.append_nil] at a1;rw [a1]
 exact ⟨rfl,hok.1⟩
theorem W9 {s:List UInt8} {y:ItemD} (h:Rd8 s y):∀ p∈Gb (Lib.cut (Lib.cut (Lib.cut s [32]).2.1 [32]).2.1 [32]).1,Cb p:=by
 obtain ⟨hok,hk,rfl⟩:=h;have a1:=Fv y [];rw [List.append_nil,List.append_nil] at a1;rw [a1];simp only [E4,Gs hok.2.2.2.2,Q8 hok.2.2.2.2]
 exact hok.2.2.2.2
open Go Go.Y Go.Proofs
variable {w0 w:World} {G:Av} {L:List Res}
theorem Sc {w:World} {x:Nat}:Calls Tryz.prog 49 #[.int .i32 (x:Int)] w (fun e w'=>e=.returned (.bool (Fw x))∧∃ q,w' = w.drewN q):=by
 refine Az (vs:=[_]) Tryz.func49 rfl (n:=9) rfl rfl<|Ad<|Ab rfl<|Ad<|Aa rfl<|Co rfl rfl<|Aa rfl<|?_
 rcases bE (decide ((x:Int) < 32)) with h1b | h2b
 ·skip
  have h1:=dT h1b;refine g_f rfl h1b<|g_f rfl h1b<|A7 rfl h1b rfl<|Ab rfl<|Al<|Ak rfl rfl<|?_
  exact ⟨by have h_:Fw x=true:=(by unfold Fw;first | (simp_all;omega) | simp_all);rw [h_],0,rfl⟩
 have h2:=dF h2b;refine g_t rfl h2b<|Aa rfl<|g_t rfl h2b<|C5 rfl rfl<|A1 rfl h2b rfl<|Ab rfl<|Al<|Ak rfl rfl<|?_
 exact ⟨by have h_:Fw x=(decide (126 < (x:Int))):=(by unfold Fw;first | (simp_all;omega) | simp_all);rw [h_],0,rfl⟩
theorem Tc (M:Mem w0 G L w) {s:List UInt8}:Calls Tryz.prog 103 #[.string (str s),.func (.func 49) #[] #[]] w (B5 w0 G L fun v=>∃ z:Int,v=.int .i64 z∧(z < 0↔∀ c∈s,Gl c)):=by
 have hp:PredAt Tryz.prog 49 #[] encR Fw w:=fun W x _=>(Sc (x:=x));refine (Any.strings_IndexFunc Tryz.laysGw15 49 #[] (Go.Proofs.enters_of Tryz.func49 (by kernel_rfl) rfl) Fw (str s) w hp).mono ?_;rintro e w' ⟨rfl,hb⟩
 exact ⟨M.below' hb,_,rfl,P9 s⟩
theorem Rv (M:Mem w0 G L w) {s:List UInt8}:Calls Tryz.prog 48 #[.string (str s),.func (.func 49) #[] #[]] w (B5 w0 G L fun v=>∃ b:Bool,v=.bool b∧(b=true↔¬ ∀ c∈s,Gl c)):=by
 refine Az (vs:=[_,_]) Tryz.func48 rfl (n:=9) rfl rfl<|Ad<|Ab rfl<|Ad<|Aa rfl<|Aa rfl<|Bc Tl rfl rfl (Tc (s:=s) M)<|?_;clear M;rintro _ w M ⟨z1,rfl,hz1⟩
 refine Jc rfl rfl<|Ab rfl<|Al<|Ak rfl rfl<|?_
 exact ⟨M,_,rfl,by rw [decide_eq_true_iff,← hz1];omega⟩
theorem S5 {w:World} {x:Nat}:Calls Tryz.prog 105 #[.int .i32 (x:Int)] w (fun e w'=>e=.returned (.bool (Jd x))∧∃ q,w' = w.drewN q):=by
 refine Az (vs:=[_]) Tryz.func105 rfl (n:=17) rfl rfl<|Ad<|Ab rfl<|Ad<|Aa rfl<|Co rfl rfl<|Aa rfl<|?_
 rcases bE (decide ((x:Int) < 97)) with h1b | h4b
 ·skip
  have h1:=dT h1b;refine g_f rfl h1b<|g_f rfl h1b<|A7 rfl h1b rfl<|Aa rfl<|g_t rfl rfl<|Aa rfl<|g_t rfl rfl<|Co rfl rfl<|g_t rfl rfl<|Aa rfl<|?_
  rcases bE (decide ((x:Int) < 48)) with h2b | h3b
  ·skip
   have h2:=dT h2b;refine g_f rfl h2b<|g_f rfl h2b<|g_t rfl rfl<|A7 rfl h2b rfl<|A7 rfl rfl rfl<|Ab rfl<|Al<|Ak rfl rfl<|?_
   exact ⟨by have h_:Jd x=true:=(by unfold Jd;first | (simp_all;omega) | simp_all);rw [h_],0,rfl⟩
  have h3:=dF h3b;refine g_t rfl h3b<|Aa rfl<|g_t rfl h3b<|C5 rfl rfl<|g_t rfl rfl<|A1 rfl h3b rfl<|A7 rfl rfl rfl<|Ab rfl<|Al<|Ak rfl rfl<|?_
  exact ⟨by have h_:Jd x=(decide (57 < (x:Int))):=(by unfold Jd;first | (simp_all;omega) | simp_all);rw [h_],0,rfl⟩
 have h4:=dF h4b;refine g_t rfl h4b<|Aa rfl<|g_t rfl h4b<|C5 rfl rfl<|A1 rfl h4b rfl<|Aa rfl<|?_
 rcases bE (decide (122 < (x:Int))) with h5b | h8b
 ·skip
  have h5:=dT h5b;refine g_t rfl h5b<|Aa rfl<|g_t rfl h5b<|Co rfl rfl<|g_t rfl h5b<|Aa rfl<|?_
  rcases bE (decide ((x:Int) < 48)) with h6b | h7b
  ·skip
   have h6:=dT h6b;refine g_f rfl h6b<|g_f rfl h6b<|g_t rfl h5b<|A7 rfl h6b rfl<|A7 rfl h5b rfl<|Ab rfl<|Al<|Ak rfl rfl<|?_
   exact ⟨by have h_:Jd x=true:=(by unfold Jd;first | (simp_all;omega) | simp_all);rw [h_],0,rfl⟩
  have h7:=dF h7b;refine g_t rfl h7b<|Aa rfl<|g_t rfl h7b<|C5 rfl rfl<|g_t rfl h5b<|A1 rfl h7b rfl<|A7 rfl h5b rfl<|Ab rfl<|Al<|Ak rfl rfl<|?_
  exact ⟨by have h_:Jd x=(decide (57 < (x:Int))):=(by unfold Jd;first | (simp_all;omega) | simp_all);rw [h_],0,rfl⟩
 have h8:=dF h8b;refine g_f rfl h8b<|g_f rfl h8b<|g_f rfl h8b<|g_u rfl<|g_u rfl<|g_f rfl h8b<|A1 rfl h8b rfl<|Ab rfl<|Al<|Ak rfl rfl<|?_
 exact ⟨by have h_:Jd x=false:=(by unfold Jd;first | (simp_all;omega) | simp_all);rw [h_],0,rfl⟩
theorem Td (M:Mem w0 G L w) {s:List UInt8}:Calls Tryz.prog 103 #[.string (str s),.func (.func 105) #[] #[]] w (B5 w0 G L fun v=>∃ z:Int,v=.int .i64 z∧(z < 0↔∀ c∈s,Ck c)):=by
 have hp:PredAt Tryz.prog 105 #[] encR Jd w:=fun W x _=>(S5 (x:=x));refine (Any.strings_IndexFunc Tryz.laysGw15 105 #[] (Go.Proofs.enters_of Tryz.func105 (by kernel_rfl) rfl) Jd (str s) w hp).mono ?_;rintro e w' ⟨rfl,hb⟩
 exact ⟨M.below' hb,_,rfl,X0 s⟩
theorem Rw (M:Mem w0 G L w) {s:List UInt8}:Calls Tryz.prog 48 #[.string (str s),.func (.func 105) #[] #[]] w (B5 w0 G L fun v=>∃ b:Bool,v=.bool b∧(b=true↔¬ ∀ c∈s,Ck c)):=by
 refine Az (vs:=[_,_]) Tryz.func48 rfl (n:=9) rfl rfl<|Ad<|Ab rfl<|Ad<|Aa rfl<|Aa rfl<|Bc Tl rfl rfl (Td (s:=s) M)<|?_;clear M;rintro _ w M ⟨z1,rfl,hz1⟩
 refine Jc rfl rfl<|Ab rfl<|Al<|Ak rfl rfl<|?_
 exact ⟨M,_,rfl,by rw [decide_eq_true_iff,← hz1];omega⟩
theorem Vl (M:Mem w0 G L w) {s:List UInt8} (hs:s.length≤9223372036854775807):Calls Tryz.prog 53 #[.string (str s)] w (B5 w0 G L fun v=>∃ b:Bool,v=.bool b∧(b=true↔Cb s)):=by
 refine Az (vs:=[_]) Tryz.func53 rfl (n:=17) rfl rfl<|Ad<|Ab rfl<|Ad<|Ab rfl<|Ai<|?_
 have hs0:s=[]↔s.length=0:=by cases s <;> simp
 refine Aw<|Aa rfl<|F1 rfl rfl<|Aa rfl<|?_
 rcases bE (!(decide (s=([]:List UInt8)))) with h1b | h5b
 ·skip
  have h1:=dF (Ag h1b);have h1c:(decide (s=([]:List UInt8)))=false:=(Ag h1b);refine g_t rfl (Aj h1c)<|Aa rfl<|g_t rfl (Aj h1c)<|Aq (fun a F=>Bp A6.k (F.ev rfl)) rfl<|g_t rfl (Aj h1c)<|Ke rfl rfl<|A7 rfl (Aj h1c) rfl<|Aa rfl<|?_
  rcases bE (decide ((((s).length:Nat):Int)≤16)) with h2b | h4b
  ·skip
   have h2:=dT h2b;refine g_t rfl h2b<|Aa rfl<|g_t rfl h2b<|Aa rfl<|g_t rfl h2b<|Bc ent48 rfl rfl (Rw (s:=s) M)<|?_;clear M;rintro _ w M ⟨b3,rfl,hb3⟩
   refine g_t rfl h2b<|Cu rfl<|A7 rfl h2b rfl<|Ab rfl<|Al<|Ak rfl rfl<|?_
   exact ⟨M,(!(b3)),rfl,(by clear M;unfold Cb;grind)⟩
  have h4:=dF h4b;refine g_f rfl h4b<|g_f rfl h4b<|g_f rfl h4b<|g_f rfl h4b<|A1 rfl h4b rfl<|Ab rfl<|Al<|Ak rfl rfl<|?_
  exact ⟨M,false,rfl,(by clear M;unfold Cb;grind)⟩
 have h5:=dT (Ah h5b);have h5c:(decide (s=([]:List UInt8)))=true:=(Ah h5b);refine g_f rfl (Ac h5c)<|g_f rfl (Ac h5c)<|g_f rfl (Ac h5c)<|A1 rfl (Ac h5c) rfl<|Aa rfl<|g_f rfl rfl<|g_f rfl rfl<|g_f rfl rfl<|g_f rfl rfl<|A1 rfl rfl rfl<|Ab rfl<|Al<|Ak rfl rfl<|?_
 exact ⟨M,false,rfl,(by clear M;unfold Cb;grind)⟩
theorem D0 (M:Mem w0 G L w) {s:List UInt8} (hs:s.length≤9223372036854775807):Calls Tryz.prog 107 #[.string (str s)] w (B5 w0 G L fun v=>v=.int .i64 (if Cb s then (1:Int) else 0)):=by
 refine Az (vs:=[_]) Tryz.func107 rfl (n:=37) rfl rfl<|Ad<|Ab rfl<|Ai<|Ad<|Aa rfl<|Aq (fun a F=>Bp A6.k (F.ev rfl)) rfl<|Co rfl rfl<|Aa rfl<|?_
 rcases bE (decide ((((s).length:Nat):Int) < 1)) with h1b | h2b
 ·skip
  have h1:=dT h1b;refine g_f rfl h1b<|g_f rfl h1b<|g_f rfl h1b<|A7 rfl h1b rfl<|Bz rfl rfl<|Ad<|Ab rfl<|Al<|Ak rfl rfl<|?_
  exact ⟨M,by rw [if_neg (fun h_:Cb s=>by have:=h_.1;omega)]⟩
 have h2:=dF h2b;refine g_t rfl h2b<|Aa rfl<|g_t rfl h2b<|Aq (fun a F=>Bp A6.k (F.ev rfl)) rfl<|g_t rfl h2b<|C5 rfl rfl<|A1 rfl h2b rfl<|qD rfl ?_ ?_
 ·intro h3;refine Ad<|Ab rfl<|Al<|Ak rfl rfl<|?_
  exact ⟨M,by rw [if_neg (fun h_:Cb s=>by have:=h_.1;omega)]⟩
 intro h4;refine Ao<|Ai<|Ad<|Ab rfl<|Ar<|fun a F=>Bi (fun m a' w'=>∃ (i:Nat),m=s.length - i∧Fits 37 a' [(0,.string (str s)),(3,.int .i64 ((i:Nat):Int))]∧Mem w0 G (L) w'∧(i≤s.length)∧(∀ (m:Nat) (b:UInt8),m < i→s[m]?=some b→Ck b)) _ ⟨0,rfl,F.to ⟨rfl,rfl,trivial⟩,M,by omega,fun m b h=>by omega⟩ ?_
 clear F M;rintro m a w ⟨i,rfl,F,M,hi,hA⟩;revert a;refine Ai<|Ad<|Aa rfl<|Aa rfl<|Aq (fun a F=>Bp A6.k (F.ev rfl)) rfl<|Co rfl rfl<|qD rfl ?_ ?_
 ·intro h5;refine Ao<|Ai<|Ar<|Ad<|Aa rfl<|Aa rfl<|?_
  obtain ⟨B6,hB6⟩:=A0 (xs:=(s)) (i:=i) (by omega);have lB6:=Mx B6;refine Aq (fun a F=>B8 (i:=i) A6.k (F.ev rfl) (F.ev rfl) hB6) rfl<|Ab rfl<|Ad<|Aa rfl<|Jc rfl rfl<|Aa rfl<|?_
  rcases bE (decide (97≤nb B6)) with h7b | h14b
  ·skip
   have h7:=dT h7b;refine g_t rfl h7b<|Aa rfl<|g_t rfl h7b<|Ke rfl rfl<|A7 rfl h7b rfl<|Aa rfl<|?_
   rcases bE (decide (nb B6≤122)) with h8b | h9b
   ·skip
    have h8:=dT h8b;refine g_f rfl h8b<|g_f rfl h8b<|g_f rfl h8b<|g_u rfl<|g_u rfl<|g_f rfl h8b<|A7 rfl h8b rfl<|Cu rfl<|Cq rfl rfl<|Ao<|Aw<|Aa rfl<|Bw rfl rfl<|Ab rfl<|Au<|Ch<|fun a F=>?_
    exact ⟨_,by omega,i+1,rfl,F.to ⟨rfl,rfl,trivial⟩,M,by omega,Cx hA hB6 (by unfold Ck;omega)⟩
   have h9:=dF h9b;refine g_t rfl h9b<|Aa rfl<|g_t rfl h9b<|Jc rfl rfl<|g_t rfl h9b<|Aa rfl<|?_
   rcases bE (decide (48≤nb B6)) with h10b | h13b
   ·skip
    have h10:=dT h10b;refine g_t rfl h10b<|Aa rfl<|g_t rfl h10b<|Ke rfl rfl<|g_t rfl h9b<|A7 rfl h10b rfl<|A1 rfl h9b rfl<|Cu rfl<|Ap rfl ?_ ?_
    ·intro h11b;have h11:=dF (Ag h11b);refine Ad<|Ab rfl<|Al<|Ak rfl rfl<|?_
     exact ⟨M,by rw [if_neg (fun h_:Cb s=>absurd h_.2 (Ds hB6 (by unfold Ck;omega)))]⟩
    intro h12b;have h12:=dT (Ah h12b);refine Ao<|Aw<|Aa rfl<|Bw rfl rfl<|Ab rfl<|Au<|Ch<|fun a F=>?_
    exact ⟨_,by omega,i+1,rfl,F.to ⟨rfl,rfl,trivial⟩,M,by omega,Cx hA hB6 (by unfold Ck;omega)⟩
   have h13:=dF h13b;refine g_f rfl h13b<|g_f rfl h13b<|g_t rfl h9b<|A1 rfl h13b rfl<|A1 rfl h9b rfl<|Cu rfl<|Bz rfl rfl<|Ad<|Ab rfl<|Al<|Ak rfl rfl<|?_
   exact ⟨M,by rw [if_neg (fun h_:Cb s=>absurd h_.2 (Ds hB6 (by unfold Ck;omega)))]⟩
  have h14:=dF h14b;refine g_f rfl h14b<|g_f rfl h14b<|A1 rfl h14b rfl<|Aa rfl<|g_t rfl rfl<|Aa rfl<|g_t rfl rfl<|Jc rfl rfl<|g_t rfl rfl<|Aa rfl<|?_
  rcases bE (decide (48≤nb B6)) with h15b | h18b
  ·skip
   have h15:=dT h15b;refine g_t rfl h15b<|Aa rfl<|g_t rfl h15b<|Ke rfl rfl<|g_t rfl rfl<|A7 rfl h15b rfl<|A1 rfl rfl rfl<|Cu rfl<|Ap rfl ?_ ?_
   ·intro h16b;have h16:=dF (Ag h16b);refine Ad<|Ab rfl<|Al<|Ak rfl rfl<|?_
    exact ⟨M,by rw [if_neg (fun h_:Cb s=>absurd h_.2 (Ds hB6 (by unfold Ck;omega)))]⟩
   intro h17b;have h17:=dT (Ah h17b);refine Ao<|Aw<|Aa rfl<|Bw rfl rfl<|Ab rfl<|Au<|Ch<|fun a F=>?_
   exact ⟨_,by omega,i+1,rfl,F.to ⟨rfl,rfl,trivial⟩,M,by omega,Cx hA hB6 (by unfold Ck;omega)⟩
  have h18:=dF h18b;refine g_f rfl h18b<|g_f rfl h18b<|g_t rfl rfl<|A1 rfl h18b rfl<|A1 rfl rfl rfl<|Cu rfl<|Bz rfl rfl<|Ad<|Ab rfl<|Al<|Ak rfl rfl<|?_
  exact ⟨M,by rw [if_neg (fun h_:Cb s=>absurd h_.2 (Ds hB6 (by unfold Ck;omega)))]⟩
 intro h19;refine Br<|Bu<|Bu<|C6<|Ad<|Ab rfl<|Al<|Ak rfl rfl<|?_
 exact ⟨M,by rw [if_pos (show Cb s from ⟨by omega,C4 hA (by omega)⟩)]⟩
theorem Qo (M:Mem w0 G L w) {s:List UInt8} (hs:s.length≤9223372036854775807):Calls Tryz.prog 106 #[.string (str s)] w (B5 w0 G L fun v=>v=.int .i64 (if Str s then (1:Int) else 0)):=by
 refine Az (vs:=[_]) Tryz.func106 rfl (n:=23) rfl rfl<|Ad<|Ab rfl<|Ai<|Ad<|Aa rfl<|Aq (fun a F=>Bp A6.k (F.ev rfl)) rfl<|C5 rfl rfl<|qD rfl ?_ ?_
 ·intro h1;refine Ad<|Ab rfl<|Al<|Ak rfl rfl<|?_
  exact ⟨M,by rw [if_neg (fun h_:Str s=>by have:=h_.1;omega)]⟩
 intro h2;refine Ao<|Ai<|Ad<|Ab rfl<|Ar<|fun a F=>Bi (fun m a' w'=>∃ (i:Nat),m=s.length - i∧Fits 23 a' [(0,.string (str s)),(3,.int .i64 ((i:Nat):Int))]∧Mem w0 G (L) w'∧(i≤s.length)∧(∀ (m:Nat) (b:UInt8),m < i→s[m]?=some b→Gl b)) _ ⟨0,rfl,F.to ⟨rfl,rfl,trivial⟩,M,by omega,fun m b h=>by omega⟩ ?_
 clear F M;rintro m a w ⟨i,rfl,F,M,hi,hA⟩;revert a;refine Ai<|Ad<|Aa rfl<|Aa rfl<|Aq (fun a F=>Bp A6.k (F.ev rfl)) rfl<|Co rfl rfl<|qD rfl ?_ ?_
 ·intro h3;refine Ao<|Ai<|Ar<|Ad<|Aa rfl<|Aa rfl<|?_
  obtain ⟨B4,hB4⟩:=A0 (xs:=(s)) (i:=i) (by omega);have lB4:=Mx B4;refine Aq (fun a F=>B8 (i:=i) A6.k (F.ev rfl) (F.ev rfl) hB4) rfl<|Co rfl rfl<|Aa rfl<|?_
  rcases bE (decide (nb B4 < 32)) with h5b | h6b
  ·skip
   have h5:=dT h5b;refine g_f rfl h5b<|g_f rfl h5b<|g_f rfl h5b<|g_f rfl h5b<|A7 rfl h5b rfl<|Bz rfl rfl<|Ad<|Ab rfl<|Al<|Ak rfl rfl<|?_
   exact ⟨M,by rw [if_neg (fun h_:Str s=>absurd h_.2 (Ds hB4 (by unfold Gl;omega)))]⟩
  have h6:=dF h6b;refine g_t rfl h6b<|Aa rfl<|g_t rfl h6b<|Aa rfl<|g_t rfl h6b<|Aq (fun a F=>B8 (i:=i) A6.k (F.ev rfl) (F.ev rfl) hB4) rfl<|g_t rfl h6b<|C5 rfl rfl<|A1 rfl h6b rfl<|qD rfl ?_ ?_
  ·intro h7;refine Ad<|Ab rfl<|Al<|Ak rfl rfl<|?_
   exact ⟨M,by rw [if_neg (fun h_:Str s=>absurd h_.2 (Ds hB4 (by unfold Gl;omega)))]⟩
  intro h8;refine Ao<|Aw<|Aa rfl<|Bw rfl rfl<|Ab rfl<|Au<|Ch<|fun a F=>?_
  exact ⟨_,by omega,i+1,rfl,F.to ⟨rfl,rfl,trivial⟩,M,by omega,Cx hA hB4 (by unfold Gl;omega)⟩
 intro h9;refine Br<|Bu<|Bu<|C6<|Ad<|Ab rfl<|Al<|Ak rfl rfl<|?_
 exact ⟨M,by rw [if_pos (show Str s from ⟨by omega,C4 hA (by omega)⟩)]⟩
theorem To (M:Mem w0 G L w) {s:List UInt8} (hs:s.length≤9223372036854775807):Calls Tryz.prog 52 #[.string (str s)] w (B5 w0 G L fun v=>∃ b:Bool,v=.bool b∧(b=true↔¬ Cb s)):=by
 refine Az (vs:=[_]) Tryz.func52 rfl (n:=6) rfl rfl<|Ad<|Ab rfl<|Ad<|Aa rfl<|Bc ent53 rfl rfl (Vl (s:=s) M (by assumption))<|?_;clear M;rintro _ w M ⟨b1,rfl,hb1⟩
 refine Cu rfl<|Ab rfl<|Al<|Ak rfl rfl<|?_
 exact ⟨M,(!(b1)),rfl,(by clear M;grind)⟩
theorem K9 (M:Mem w0 G L w) {ad:Option Addr} {cd:Nat} {xs:List (List UInt8)} (S:A8 Cj 1 G (.slice ad xs.length cd) xs):Calls Tryz.prog 104 #[.slice ad xs.length cd,.func (.func 52) #[] #[]] w (B5 w0 G L fun v=>∃ z:Int,v=.int .i64 z∧(0≤z↔¬ ∀ s∈xs,Cb s)):=by
 have bS:=S.bound;refine Az (vs:=[_,_]) Tryz.func104 rfl (n:=19) rfl rfl<|Ad<|Ab rfl<|Ai<|Ad<|Aa rfl<|Cf A5.k rfl<|Aa rfl<|Ar<|fun a F=>Bi (fun m a' w'=>∃ (i:Nat),m=xs.length - i∧Fits 19 a' [(0,.slice ad xs.length cd),(1,.func (.func 52) #[] #[]),(7,.int .i64 ((xs.length:Nat):Int)),(8,.int .i64 ((i:Nat):Int))]∧Mem w0 G (L) w'∧(i≤xs.length)∧(∀ (m:Nat) (s:List UInt8),m < i→xs[m]?=some s→Cb s)) _ ⟨0,rfl,F.to ⟨rfl,rfl,rfl,rfl,trivial⟩,M,Nat.zero_le _,fun m d h=>by omega⟩ ?_
 clear F M;rintro m a w ⟨i,rfl,F,M,hi,hA⟩;revert a;refine Ad<|Co rfl rfl<|Ai<|qD rfl ?_ ?_
 ·intro h1;refine Ao<|Ai<|Ar<|Ad<|Aa rfl<|Ab rfl<|Ad<|Aa rfl<|Aa rfl<|Aa rfl<|?_
  obtain ⟨Xe2,hXe2⟩:=A0 (xs:=xs) (i:=i) (by omega);obtain ⟨be2,oe2,_,Ie2,_,Ae2,⟨rfl,hsle2⟩⟩:=S.at hXe2;refine Db A5.k A6 Ie2 rfl rfl<|Dm A6 M Ae2 0 rfl rfl (by omega) rfl<|Si ent52 (caps:=[]) rfl rfl rfl (To (s:=Xe2) M (by omega))<|?_;clear M;rintro _ w M ⟨b3,rfl,hb3⟩
  refine Ap rfl ?_ ?_
  ·intro h4b;have h4:(b3)=true:=h4b;refine Ad<|Aa rfl<|Ab rfl<|Al<|Ak rfl rfl<|?_
   exact ⟨M,_,rfl,⟨fun _ h_=>(hb3.1 (by assumption)) (h_ _ (List.mem_of_getElem? hXe2)),fun _=>by omega⟩⟩
  intro h5b;have h5:(b3)=false:=h5b;refine Ao<|Aw<|Bw rfl rfl<|Aa rfl<|Au<|Ch<|fun a F=>?_
  exact ⟨_,by omega,i+1,rfl,F.to ⟨rfl,rfl,rfl,rfl,trivial⟩,M,by omega,K3 hA hXe2 (by clear F M;grind)⟩
 intro h6;refine Br<|Bu<|Bu<|C6<|Ad<|Ab rfl<|Al<|Ak rfl rfl<|?_
 exact ⟨M,_,rfl,⟨fun h=>by omega,fun h=>absurd (E3 hA (by omega)) h⟩⟩
theorem Ni (M:Mem w0 G L w) {ad:Option Addr} {cd:Nat} {xs:List (List UInt8)} (S:A8 Cj 1 G (.slice ad xs.length cd) xs):Calls Tryz.prog 51 #[.slice ad xs.length cd,.func (.func 52) #[] #[]] w (B5 w0 G L fun v=>∃ b:Bool,v=.bool b∧(b=true↔¬ ∀ s∈xs,Cb s)):=by
 refine Az (vs:=[_,_]) Tryz.func51 rfl (n:=9) rfl rfl<|Ad<|Ab rfl<|Ad<|Aa rfl<|Aa rfl<|Bc Ym rfl rfl (K9 (xs:=xs) M S)<|?_;clear M;rintro _ w M ⟨z1,rfl,hz1⟩
 refine Jc rfl rfl<|Ab rfl<|Al<|Ak rfl rfl<|?_
 exact ⟨M,_,rfl,decide_eq_true_iff.trans hz1⟩
theorem V8 {w0 w:World} {G:Av} {L:List Res} {b:Nat} {x:ItemD} {ma:Option Addr} {mc:Nat} (M:Mem w0 G (.blk b [.int .u64 ((x.key:Nat):Int),.int .u8 ((x.typ:Nat):Int),.string (str x.text),.slice ma x.marks.length mc] 26::L) w) (SM:A8 Cj 1 G (.slice ma x.marks.length mc) x.marks) :
  Calls Tryz.prog 47 #[.pointer (some ⟨b,0,none⟩)] w (B5 w0 G (.blk b [.int .u64 ((x.key:Nat):Int),.int .u8 ((x.typ:Nat):Int),.string (str x.text),.slice ma x.marks.length mc] 26::L) fun v=>∃ bb:Bool,v=.bool bb∧(bb=true↔Str x.text)):=by
 refine Az (vs:=[_]) Tryz.func47 rfl (n:=12) rfl rfl<|Ad<|Ab rfl<|Ad<|A9 Af.k rfl rfl<|Bl A6 M 0 rfl rfl rfl rfl<|Aq (fun a F=>Bp A6.k (F.ev rfl)) rfl<|Ke rfl rfl<|Aa rfl<|?_
 rcases bE (decide ((((x.text).length:Nat):Int)≤64)) with h1b | h3b
 ·skip
  have h1:=dT h1b;refine g_t rfl h1b<|A9 Af.k rfl rfl<|g_t rfl h1b<|Bl A6 M 0 rfl rfl rfl rfl<|g_t rfl h1b<|Bc ent48 rfl rfl (Rv (s:=x.text) M)<|?_;clear M;rintro _ w M ⟨b2,rfl,hb2⟩
  refine g_t rfl h1b<|Cu rfl<|A7 rfl h1b rfl<|Ab rfl<|Al<|Ak rfl rfl<|?_
  exact ⟨M,(!(b2)),rfl,(by clear M;unfold Str;grind)⟩
 have h3:=dF h3b;refine g_f rfl h3b<|g_f rfl h3b<|g_f rfl h3b<|g_f rfl h3b<|A1 rfl h3b rfl<|Ab rfl<|Al<|Ak rfl rfl<|?_
 exact ⟨M,false,rfl,(by clear M;unfold Str;grind)⟩
theorem V7 {w0 w:World} {G:Av} {L:List Res} {b:Nat} {x:ItemD} {ma:Option Addr} {mc:Nat} (M:Mem w0 G (.blk b [.int .u64 ((x.key:Nat):Int),.int .u8 ((x.typ:Nat):Int),.string (str x.text),.slice ma x.marks.length mc] 26::L) w) (SM:A8 Cj 1 G (.slice ma x.marks.length mc) x.marks) :
  Calls Tryz.prog 50 #[.pointer (some ⟨b,0,none⟩)] w (B5 w0 G (.blk b [.int .u64 ((x.key:Nat):Int),.int .u8 ((x.typ:Nat):Int),.string (str x.text),.slice ma x.marks.length mc] 26::L) fun v=>∃ bb:Bool,v=.bool bb∧(bb=true↔(x.marks.length≤8∧∀ s∈x.marks,Cb s))):=by
 refine Az (vs:=[_]) Tryz.func50 rfl (n:=12) rfl rfl<|Ad<|Ab rfl<|Ad<|A9 Af.k rfl rfl<|Bl A5 M 0 rfl rfl rfl rfl<|Cf A5.k rfl<|Ke rfl rfl<|Aa rfl<|?_
 rcases bE (decide (((x.marks.length:Nat):Int)≤8)) with h1b | h3b
 ·skip
  have h1:=dT h1b;refine g_t rfl h1b<|A9 Af.k rfl rfl<|g_t rfl h1b<|Bl A5 M 0 rfl rfl rfl rfl<|g_t rfl h1b<|Bc ent51 rfl rfl (Ni (xs:=x.marks) M SM)<|?_;clear M;rintro _ w M ⟨b2,rfl,hb2⟩
  refine g_t rfl h1b<|Cu rfl<|A7 rfl h1b rfl<|Ab rfl<|Al<|Ak rfl rfl<|?_
  exact ⟨M,(!(b2)),rfl,(by clear M;grind)⟩
 have h3:=dF h3b;refine g_f rfl h3b<|g_f rfl h3b<|g_f rfl h3b<|g_f rfl h3b<|A1 rfl h3b rfl<|Ab rfl<|Al<|Ak rfl rfl<|?_
 exact ⟨M,false,rfl,(by clear M;grind)⟩
theorem Cw (M:Mem w0 G L w) {x:ItemD} {ma:Option Addr} {mc:Nat} (hI:(x.key < 18446744073709551616∧x.typ < 256∧x.text.length≤9223372036854775807)) (SM:A8 Cj 1 G (.slice ma x.marks.length mc) x.marks) {t:Int}:Calls Tryz.prog 14 #[.agg #[.int .u64 ((x.key:Nat):Int),.int .u8 ((x.typ:Nat):Int),.string (str x.text),.slice ma x.marks.length mc],.int .i64 t] w (B5 w0 G L fun v=>v=.int .i64 (Dh t x)):=by
 refine Az (vs:=[_,_]) Tryz.func14 rfl (n:=29) rfl rfl<|Ai<|?_
 obtain ⟨hI1,hI2,hI3⟩:=hI;refine Aw<|G4 M rfl rfl rfl<|?_;clear M;intro b1 w M
 refine Ab rfl<|Ad<|Aq (fun a F=>D8 (vs:=#[.pointer (some ⟨b1,0,none⟩)]) (by simp only [List.map_toArray,List.map_cons,List.map_nil,F.ev (x:=.tmp 2) rfl])) rfl<|Ab rfl<|Ad<|Aq (fun a F=>D8 (vs:=#[.pointer (some ⟨b1,0,none⟩)]) (by simp only [List.map_toArray,List.map_cons,List.map_nil,F.ev (x:=.tmp 2) rfl])) rfl<|Ab rfl<|Ai<|Ad<|A9 Af.k rfl rfl<|Bl Dk M 0 rfl rfl rfl rfl<|C2 rfl rfl<|Aa rfl<|?_
 rcases bE (decide (((x.key:Nat):Int)=0)) with h2b | h3b
 ·skip
  have h2:=dT h2b;refine g_f rfl h2b<|g_f rfl h2b<|g_f rfl h2b<|g_f rfl h2b<|g_f rfl h2b<|A7 rfl h2b rfl<|Aa rfl<|g_f rfl rfl<|g_f rfl rfl<|g_f rfl rfl<|A7 rfl rfl rfl<|Aa rfl<|g_f rfl rfl<|g_f rfl rfl<|g_f rfl rfl<|A7 rfl rfl rfl<|Bz rfl rfl<|Ad<|Ab rfl<|Au<|Ch<|?_
  refine Al<|Ak rfl rfl<|?_
  exact ⟨M.weaken dS1,by rw [Ek (by clear M;unfold Bv;grind)]⟩
 have h3:=dF h3b;refine g_t rfl h3b<|A9 Af.k rfl rfl<|g_t rfl h3b<|Bl Cz M 0 rfl rfl rfl rfl<|g_t rfl h3b<|Aq (fun a F=>Bt Ct.k ⟨_,by rw [Bs Cz.k]⟩ (F.ev rfl) (Cl (by omega) (by omega))) rfl<|g_t rfl h3b<|Aa rfl<|g_t rfl h3b<|Jc rfl rfl<|A1 rfl h3b rfl<|Aa rfl<|?_
 rcases bE (decide (t≤((x.typ:Nat):Int))) with h4b | h5b
 ·skip
  have h4:=dT h4b;refine g_f rfl h4b<|g_f rfl h4b<|g_f rfl h4b<|A7 rfl h4b rfl<|Aa rfl<|g_f rfl rfl<|g_f rfl rfl<|g_f rfl rfl<|A7 rfl rfl rfl<|Bz rfl rfl<|Ad<|Ab rfl<|Al<|Ak rfl rfl<|?_
  exact ⟨M.weaken dS1,by rw [Ek (by clear M;unfold Bv;grind)]⟩
 have h5:=dF h5b;refine g_t rfl h5b<|Aa rfl<|g_t rfl h5b<|?_
 change Mem w0 G (_::L) _ at M;refine Si ent47 (caps:=[.pointer (some ⟨b1,0,none⟩)]) rfl rfl rfl (V8 (x:=x) M SM)<|?_;clear M;rintro _ w M ⟨b6,rfl,hb6⟩
 refine g_t rfl h5b<|Cu rfl<|A1 rfl h5b rfl<|Aa rfl<|?_
 rcases bE (!(b6)) with h7b | h8b
 ·skip
  have h7:=Ag h7b;have h7c:(b6)=false:=(Ag h7b);refine g_f rfl (Aj h7c)<|g_f rfl (Aj h7c)<|g_f rfl (Aj h7c)<|A7 rfl (Aj h7c) rfl<|Bz rfl rfl<|Ad<|Ab rfl<|Al<|Ak rfl rfl<|?_
  exact ⟨M.weaken dS1,by rw [Ek (by clear M;unfold Bv;grind)]⟩
 have h8:=Ah h8b;have h8c:(b6)=true:=(Ah h8b);refine g_t rfl (Ac h8c)<|Aa rfl<|g_t rfl (Ac h8c)<|?_
 change Mem w0 G (_::L) _ at M;refine Si ent50 (caps:=[.pointer (some ⟨b1,0,none⟩)]) rfl rfl rfl (V7 (x:=x) M SM)<|?_;clear M;rintro _ w M ⟨b9,rfl,hb9⟩
 refine g_t rfl (Ac h8c)<|Cu rfl<|A1 rfl (Ac h8c) rfl<|Ap rfl ?_ ?_
 ·intro h10b;have h10:=Ag h10b;have h10c:(b9)=false:=(Ag h10b);refine Ad<|Ab rfl<|Al<|Ak rfl rfl<|?_
  exact ⟨M.weaken dS1,by rw [Ek (by clear M;unfold Bv;grind)]⟩
 intro h11b;have h11:=Ah h11b;have h11c:(b9)=true:=(Ah h11b);refine Ao<|Ad<|Ab rfl<|Al<|Ak rfl rfl<|?_
 exact ⟨M.weaken dS1,by rw [Cs (by first | (clear M;unfold Bv;grind) | exact ⟨by omega,by omega,by clear M;grind,by omega,E3 hA (by omega)⟩)]⟩
theorem Hd {P:Prop} {l:List (List UInt8)} {i:Nat} {ok:Int} {s:List UInt8} (h0:ok=0∨ok=1) (h:ok=1↔P∧∀ (m:Nat) (s:List UInt8),m < i→l[m]?=some s→Cb s) (hs:l[i]?=some s) :
  (ok * (if Cb s then (1:Int) else 0)=0∨ok * (if Cb s then (1:Int) else 0)=1)∧(ok * (if Cb s then (1:Int) else 0)=1↔P∧∀ (m:Nat) (s:List UInt8),m < i+1→l[m]?=some s→Cb s):=by
 by_cases hn:Cb s
 ·rw [if_pos hn,Int.mul_one];refine ⟨h0,h.trans ⟨fun ⟨h1,h2⟩=>⟨h1,Cx h2 hs hn⟩,fun ⟨h1,h2⟩=>⟨h1,fun m s hm=>h2 m s (by omega)⟩⟩⟩
 rw [if_neg hn,Int.mul_zero]
 exact ⟨Or.inl rfl,⟨fun h=>by omega,fun ⟨_,h2⟩=>absurd (h2 i s (by omega) hs) hn⟩⟩
theorem D1 (M:Mem w0 G L w) {x:ItemD} {ma:Option Addr} {mc:Nat} (hI:(x.key < 18446744073709551616∧x.typ < 256∧x.text.length≤9223372036854775807)) (SM:A8 Cj 1 G (.slice ma x.marks.length mc) x.marks) {t:Int}:Calls Tryz.prog 57 #[.agg #[.int .u64 ((x.key:Nat):Int),.int .u8 ((x.typ:Nat):Int),.string (str x.text),.slice ma x.marks.length mc],.int .i64 t] w (B5 w0 G L fun v=>v=.int .i64 (Dh t x)):=by
 refine Az (vs:=[_,_]) Tryz.func57 rfl (n:=43) rfl rfl<|Ai<|?_
 obtain ⟨hI1,hI2,hI3⟩:=hI;have bSM:=SM.bound;refine Aw<|G4 M rfl rfl rfl<|?_;clear M;intro b1 w M
 refine Ab rfl<|Ad<|A9 Af.k rfl rfl<|Bl A6 M 0 rfl rfl rfl rfl<|Bc ent106 rfl rfl (Qo (s:=x.text) M (by omega))<|?_;clear M;rintro _ w M rfl
 refine Ab rfl<|Ai<|Ad<|A9 Af.k rfl rfl<|Bl Dk M 0 rfl rfl rfl rfl<|C2 rfl rfl<|Aa rfl<|?_
 rcases bE (decide (((x.key:Nat):Int)=0)) with h2b | h8b
 ·skip
  have h2:=dT h2b;refine g_f rfl h2b<|g_f rfl h2b<|g_f rfl h2b<|g_f rfl h2b<|g_f rfl h2b<|A7 rfl h2b rfl<|Aa rfl<|g_f rfl rfl<|g_f rfl rfl<|g_f rfl rfl<|g_f rfl rfl<|A7 rfl rfl rfl<|Bz rfl rfl<|Aw<|Ab rfl<|Ai<|Ad<|Ab rfl<|Au<|?_
  refine Ar<|fun a F=>?_
  refine Bi (fun m a' w'=>∃ (i:Nat),∃ (ok:Int),m=x.marks.length - i∧Fits 43 a' [(1,.int .i64 t),(2,.pointer (some ⟨b1,0,none⟩)),(5,.int .i64 ok),(6,.int .i64 ((i:Nat):Int))]∧Mem w0 G (.blk b1 [.int .u64 ((x.key:Nat):Int),.int .u8 ((x.typ:Nat):Int),.string (str x.text),.slice ma x.marks.length mc] 26::L) w'∧(i≤x.marks.length)∧(ok=0∨ok=1)∧(ok=1↔(x.key≠0∧(x.typ:Int) < t∧Str x.text∧x.marks.length≤8)∧∀ (m:Nat) (s:List UInt8),m < i→x.marks[m]?=some s→Cb s)) _ ⟨0,0,rfl,F.to ⟨rfl,rfl,rfl,rfl,trivial⟩,M,Nat.zero_le _,(by first | omega | (split <;> omega)),⟨fun h_=>⟨(by clear F M;grind),fun m s hm=>by omega⟩,fun h_=>(by clear F M;grind)⟩⟩ ?_;clear F M;rintro m a w ⟨i,ok,rfl,F,M,hi,hok,hA⟩;revert a;refine Ai<|Ad<|Aa rfl<|A9 Af.k rfl rfl<|Bl A5 M 0 rfl rfl rfl rfl<|Cf A5.k rfl<|Co rfl rfl<|qD rfl ?_ ?_
  ·intro h3;refine Ao<|Ai<|Ar<|Aw<|Aa rfl<|A9 Af.k rfl rfl<|Bl A5 M 0 rfl rfl rfl rfl<|Aa rfl<|?_
   obtain ⟨Xe4,hXe4⟩:=A0 (xs:=x.marks) (i:=i) (by omega);obtain ⟨be4,oe4,_,Ie4,_,Ae4,⟨rfl,hsle4⟩⟩:=SM.at hXe4;refine Db A5.k A6 Ie4 rfl rfl<|Dm A6 M Ae4 0 rfl rfl (by omega) rfl<|Bc Qb rfl rfl (D0 (s:=Xe4) M (by omega))<|?_;clear M;rintro _ w M rfl
   refine Aq (fun a F=>Gt (F.ev rfl) (F.ev rfl) (Cl (by (rcases hok with rfl | rfl <;> split <;> omega)) (by (rcases hok with rfl | rfl <;> split <;> omega)))) rfl<|Ab rfl<|Aw<|Aa rfl<|Bw rfl rfl<|Ab rfl<|Au<|Ch<|fun a F=>?_
   exact ⟨_,by omega,i+1,ok * ((if Cb Xe4 then (1:Int) else 0)),rfl,F.to ⟨rfl,rfl,rfl,rfl,trivial⟩,M,by omega,(Hd hok hA hXe4).1,(Hd hok hA hXe4).2⟩
  intro h5;refine Br<|Bu<|Bu<|C6<|Ai<|Ad<|Aa rfl<|C2 rfl rfl<|qD rfl ?_ ?_
  ·intro h6;refine Ad<|Ab rfl<|Al<|Ak rfl rfl<|?_
   exact ⟨M.weaken dS1,by rw [Cs (by clear M;obtain ⟨h1_,h2_⟩:=hA.1 (by omega);exact ⟨h1_.1,h1_.2.1,h1_.2.2.1,h1_.2.2.2,E3 h2_ (by omega)⟩)]⟩
  intro h7;refine Ao<|Ad<|Ab rfl<|Al<|Ak rfl rfl<|?_
  exact ⟨M.weaken dS1,by rw [Ek (by clear M;intro h_;have:=hA.2 ⟨⟨h_.1,h_.2.1,h_.2.2.1,h_.2.2.2.1⟩,fun m s _ hs=>h_.2.2.2.2 s (List.mem_of_getElem? hs)⟩;omega)]⟩
 have h8:=dF h8b;refine g_t rfl h8b<|Aa rfl<|g_t rfl h8b<|A9 Af.k rfl rfl<|g_t rfl h8b<|Bl Cz M 0 rfl rfl rfl rfl<|g_t rfl h8b<|Aq (fun a F=>Bt Ct.k ⟨_,by rw [Bs Cz.k]⟩ (F.ev rfl) (Cl (by omega) (by omega))) rfl<|g_t rfl h8b<|Ke rfl rfl<|A1 rfl h8b rfl<|Aa rfl<|?_
 rcases bE (decide (t≤((x.typ:Nat):Int))) with h9b | h15b
 ·skip
  have h9:=dT h9b;refine g_f rfl h9b<|g_f rfl h9b<|g_f rfl h9b<|g_f rfl h9b<|A7 rfl h9b rfl<|Bz rfl rfl<|Aw<|Ab rfl<|Ai<|Ad<|Ab rfl<|Ar<|fun a F=>?_
  refine Bi (fun m a' w'=>∃ (i:Nat),∃ (ok:Int),m=x.marks.length - i∧Fits 43 a' [(1,.int .i64 t),(2,.pointer (some ⟨b1,0,none⟩)),(5,.int .i64 ok),(6,.int .i64 ((i:Nat):Int))]∧Mem w0 G (.blk b1 [.int .u64 ((x.key:Nat):Int),.int .u8 ((x.typ:Nat):Int),.string (str x.text),.slice ma x.marks.length mc] 26::L) w'∧(i≤x.marks.length)∧(ok=0∨ok=1)∧(ok=1↔(x.key≠0∧(x.typ:Int) < t∧Str x.text∧x.marks.length≤8)∧∀ (m:Nat) (s:List UInt8),m < i→x.marks[m]?=some s→Cb s)) _ ⟨0,0,rfl,F.to ⟨rfl,rfl,rfl,rfl,trivial⟩,M,Nat.zero_le _,(by first | omega | (split <;> omega)),⟨fun h_=>⟨(by clear F M;grind),fun m s hm=>by omega⟩,fun h_=>(by clear F M;grind)⟩⟩ ?_;clear F M;rintro m a w ⟨i,ok,rfl,F,M,hi,hok,hA⟩;revert a;refine Ai<|Ad<|Aa rfl<|A9 Af.k rfl rfl<|Bl A5 M 0 rfl rfl rfl rfl<|Cf A5.k rfl<|Co rfl rfl<|qD rfl ?_ ?_
  ·intro h10;refine Ao<|Ai<|Ar<|Aw<|Aa rfl<|A9 Af.k rfl rfl<|Bl A5 M 0 rfl rfl rfl rfl<|Aa rfl<|?_
   obtain ⟨Xe11,hXe11⟩:=A0 (xs:=x.marks) (i:=i) (by omega);obtain ⟨be11,oe11,_,Ie11,_,Ae11,⟨rfl,hsle11⟩⟩:=SM.at hXe11;refine Db A5.k A6 Ie11 rfl rfl<|Dm A6 M Ae11 0 rfl rfl (by omega) rfl<|Bc Qb rfl rfl (D0 (s:=Xe11) M (by omega))<|?_;clear M;rintro _ w M rfl
   refine Aq (fun a F=>Gt (F.ev rfl) (F.ev rfl) (Cl (by (rcases hok with rfl | rfl <;> split <;> omega)) (by (rcases hok with rfl | rfl <;> split <;> omega)))) rfl<|Ab rfl<|Aw<|Aa rfl<|Bw rfl rfl<|Ab rfl<|Au<|Ch<|fun a F=>?_
   exact ⟨_,by omega,i+1,ok * ((if Cb Xe11 then (1:Int) else 0)),rfl,F.to ⟨rfl,rfl,rfl,rfl,trivial⟩,M,by omega,(Hd hok hA hXe11).1,(Hd hok hA hXe11).2⟩
  intro h12;refine Br<|Bu<|Bu<|C6<|Ai<|Ad<|Aa rfl<|C2 rfl rfl<|qD rfl ?_ ?_
  ·intro h13;refine Ad<|Ab rfl<|Al<|Ak rfl rfl<|?_
   exact ⟨M.weaken dS1,by rw [Cs (by clear M;obtain ⟨h1_,h2_⟩:=hA.1 (by omega);exact ⟨h1_.1,h1_.2.1,h1_.2.2.1,h1_.2.2.2,E3 h2_ (by omega)⟩)]⟩
  intro h14;refine Ao<|Ad<|Ab rfl<|Al<|Ak rfl rfl<|?_
  exact ⟨M.weaken dS1,by rw [Ek (by clear M;intro h_;have:=hA.2 ⟨⟨h_.1,h_.2.1,h_.2.2.1,h_.2.2.2.1⟩,fun m s _ hs=>h_.2.2.2.2 s (List.mem_of_getElem? hs)⟩;omega)]⟩
 have h15:=dF h15b;refine g_t rfl h15b<|A9 Af.k rfl rfl<|g_t rfl h15b<|Bl A5 M 0 rfl rfl rfl rfl<|g_t rfl h15b<|Cf A5.k rfl<|g_t rfl h15b<|C5 rfl rfl<|A1 rfl h15b rfl<|qD rfl ?_ ?_
 ·intro h16;refine Aw<|Ab rfl<|Ai<|Ad<|Ab rfl<|Ar<|fun a F=>?_
  refine Bi (fun m a' w'=>∃ (i:Nat),∃ (ok:Int),m=x.marks.length - i∧Fits 43 a' [(1,.int .i64 t),(2,.pointer (some ⟨b1,0,none⟩)),(5,.int .i64 ok),(6,.int .i64 ((i:Nat):Int))]∧Mem w0 G (.blk b1 [.int .u64 ((x.key:Nat):Int),.int .u8 ((x.typ:Nat):Int),.string (str x.text),.slice ma x.marks.length mc] 26::L) w'∧(i≤x.marks.length)∧(ok=0∨ok=1)∧(ok=1↔(x.key≠0∧(x.typ:Int) < t∧Str x.text∧x.marks.length≤8)∧∀ (m:Nat) (s:List UInt8),m < i→x.marks[m]?=some s→Cb s)) _ ⟨0,0,rfl,F.to ⟨rfl,rfl,rfl,rfl,trivial⟩,M,Nat.zero_le _,(by first | omega | (split <;> omega)),⟨fun h_=>⟨(by clear F M;grind),fun m s hm=>by omega⟩,fun h_=>(by clear F M;grind)⟩⟩ ?_;clear F M;rintro m a w ⟨i,ok,rfl,F,M,hi,hok,hA⟩;revert a;refine Ai<|Ad<|Aa rfl<|A9 Af.k rfl rfl<|Bl A5 M 0 rfl rfl rfl rfl<|Cf A5.k rfl<|Co rfl rfl<|qD rfl ?_ ?_
  ·intro h17;refine Ao<|Ai<|Ar<|Aw<|Aa rfl<|A9 Af.k rfl rfl<|Bl A5 M 0 rfl rfl rfl rfl<|Aa rfl<|?_
   obtain ⟨Xe18,hXe18⟩:=A0 (xs:=x.marks) (i:=i) (by omega);obtain ⟨be18,oe18,_,Ie18,_,Ae18,⟨rfl,hsle18⟩⟩:=SM.at hXe18;refine Db A5.k A6 Ie18 rfl rfl<|Dm A6 M Ae18 0 rfl rfl (by omega) rfl<|Bc Qb rfl rfl (D0 (s:=Xe18) M (by omega))<|?_;clear M;rintro _ w M rfl
   refine Aq (fun a F=>Gt (F.ev rfl) (F.ev rfl) (Cl (by (rcases hok with rfl | rfl <;> split <;> omega)) (by (rcases hok with rfl | rfl <;> split <;> omega)))) rfl<|Ab rfl<|Aw<|Aa rfl<|Bw rfl rfl<|Ab rfl<|Au<|Ch<|fun a F=>?_
   exact ⟨_,by omega,i+1,ok * ((if Cb Xe18 then (1:Int) else 0)),rfl,F.to ⟨rfl,rfl,rfl,rfl,trivial⟩,M,by omega,(Hd hok hA hXe18).1,(Hd hok hA hXe18).2⟩
  intro h19;refine Br<|Bu<|Bu<|C6<|Ai<|Ad<|Aa rfl<|C2 rfl rfl<|qD rfl ?_ ?_
  ·intro h20;refine Ad<|Ab rfl<|Al<|Ak rfl rfl<|?_
   exact ⟨M.weaken dS1,by rw [Cs (by clear M;obtain ⟨h1_,h2_⟩:=hA.1 (by omega);exact ⟨h1_.1,h1_.2.1,h1_.2.2.1,h1_.2.2.2,E3 h2_ (by omega)⟩)]⟩
  intro h21;refine Ao<|Ad<|Ab rfl<|Al<|Ak rfl rfl<|?_
  exact ⟨M.weaken dS1,by rw [Ek (by clear M;intro h_;have:=hA.2 ⟨⟨h_.1,h_.2.1,h_.2.2.1,h_.2.2.2.1⟩,fun m s _ hs=>h_.2.2.2.2 s (List.mem_of_getElem? hs)⟩;omega)]⟩
 intro h22;refine Ao<|Ai<|Ad<|Ab rfl<|Ar<|fun a F=>?_
 refine Bi (fun m a' w'=>∃ (i:Nat),∃ (ok:Int),m=x.marks.length - i∧Fits 43 a' [(1,.int .i64 t),(2,.pointer (some ⟨b1,0,none⟩)),(5,.int .i64 ok),(6,.int .i64 ((i:Nat):Int))]∧Mem w0 G (.blk b1 [.int .u64 ((x.key:Nat):Int),.int .u8 ((x.typ:Nat):Int),.string (str x.text),.slice ma x.marks.length mc] 26::L) w'∧(i≤x.marks.length)∧(ok=0∨ok=1)∧(ok=1↔(x.key≠0∧(x.typ:Int) < t∧Str x.text∧x.marks.length≤8)∧∀ (m:Nat) (s:List UInt8),m < i→x.marks[m]?=some s→Cb s)) _ ⟨0,(if Str x.text then (1:Int) else 0),rfl,F.to ⟨rfl,rfl,rfl,rfl,trivial⟩,M,Nat.zero_le _,(by first | omega | (split <;> omega)),⟨fun h_=>⟨(by clear F M;grind),fun m s hm=>by omega⟩,fun h_=>(by clear F M;grind)⟩⟩ ?_;clear F M;rintro m a w ⟨i,ok,rfl,F,M,hi,hok,hA⟩;revert a;refine Ai<|Ad<|Aa rfl<|A9 Af.k rfl rfl<|Bl A5 M 0 rfl rfl rfl rfl<|Cf A5.k rfl<|Co rfl rfl<|qD rfl ?_ ?_
 ·intro h23;refine Ao<|Ai<|Ar<|Aw<|Aa rfl<|A9 Af.k rfl rfl<|Bl A5 M 0 rfl rfl rfl rfl<|Aa rfl<|?_
  obtain ⟨Xe24,hXe24⟩:=A0 (xs:=x.marks) (i:=i) (by omega);obtain ⟨be24,oe24,_,Ie24,_,Ae24,⟨rfl,hsle24⟩⟩:=SM.at hXe24;refine Db A5.k A6 Ie24 rfl rfl<|Dm A6 M Ae24 0 rfl rfl (by omega) rfl<|Bc Qb rfl rfl (D0 (s:=Xe24) M (by omega))<|?_;clear M;rintro _ w M rfl
  refine Aq (fun a F=>Gt (F.ev rfl) (F.ev rfl) (Cl (by (rcases hok with rfl | rfl <;> split <;> omega)) (by (rcases hok with rfl | rfl <;> split <;> omega)))) rfl<|Ab rfl<|Aw<|Aa rfl<|Bw rfl rfl<|Ab rfl<|Au<|Ch<|fun a F=>?_
  exact ⟨_,by omega,i+1,ok * ((if Cb Xe24 then (1:Int) else 0)),rfl,F.to ⟨rfl,rfl,rfl,rfl,trivial⟩,M,by omega,(Hd hok hA hXe24).1,(Hd hok hA hXe24).2⟩
 intro h25;refine Br<|Bu<|Bu<|C6<|Ai<|Ad<|Aa rfl<|C2 rfl rfl<|qD rfl ?_ ?_
 ·intro h26;refine Ad<|Ab rfl<|Al<|Ak rfl rfl<|?_
  exact ⟨M.weaken dS1,by rw [Cs (by clear M;obtain ⟨h1_,h2_⟩:=hA.1 (by omega);exact ⟨h1_.1,h1_.2.1,h1_.2.2.1,h1_.2.2.2,E3 h2_ (by omega)⟩)]⟩
 intro h27;refine Ao<|Ad<|Ab rfl<|Al<|Ak rfl rfl<|?_
 exact ⟨M.weaken dS1,by rw [Ek (by clear M;intro h_;have:=hA.2 ⟨⟨h_.1,h_.2.1,h_.2.2.1,h_.2.2.2.1⟩,fun m s _ hs=>h_.2.2.2.2 s (List.mem_of_getElem? hs)⟩;omega)]⟩
end Go.Proofs.YtmmhmcplegpenaaGreatDoor
