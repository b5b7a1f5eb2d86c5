/- Templates: slots, valid parts; what a walk over all parts does. · The walks, part TD. · The walks, part TE. · The walks, part TH. · The walks, part TI. -/
import Derived.Test.YtmmhmcplegpenaaGreatDoorJ1
import Derived.Test.YtmmhmcplegpenaaGreatDoorJ2
namespace Go.Proofs.YtmmhmcplegpenaaGreatDoor.T
open Go Go.Y
theorem u8_1:A2 .u8 1:=⟨by decide,by decide⟩
theorem u8_2:A2 .u8 2:=⟨by decide,by decide⟩
theorem Rl {x:Int} (h:A2 .u8 x):0≤x∧x≤255:=h
theorem Zb {s:List UInt8}:Hx (.mk 1 s [] [] [] [])↔Dd s:=by
 unfold Hx
 constructor
 ·rintro ⟨⟨h,_⟩,_⟩
  rcases h with ⟨h1,_⟩ | ⟨_,_,h,_⟩
  ·exact absurd h1 (by simp [Tr.kind])
  ·exact h
 ·intro h
  refine ⟨⟨Or.inr ⟨by simp [Tr.kind],rfl,h,Or.inl rfl,rfl,by simp [Tr.as],by simp [Tr.kids],fun i x hx=>?_,fun i j a b _ ha=>?_⟩,fun c hc=>?_⟩,by simp [Tr.size,Tr.sizes]⟩
  ·simp [Tr.as] at hx
  ·simp [Tr.kids] at ha
  ·simp [Tr.kids] at hc
theorem Xx {s:List UInt8}:Hx (.mk 2 [] [] [] s [])↔Str s:=by
 unfold Hx
 constructor
 ·rintro ⟨⟨h,_⟩,_⟩
  rcases h with ⟨_,h,_⟩ | ⟨_,h1,_⟩
  ·exact h
  ·exact absurd h1 (by simp [Tr.kind])
 ·intro h
  refine ⟨⟨Or.inl ⟨rfl,h,rfl,rfl,rfl,rfl⟩,fun c hc=>?_⟩,by simp [Tr.size,Tr.sizes]⟩
  simp [Tr.kids] at hc
theorem V8 {x:NT}:Up x=0↔Hx x:=by
 unfold Up
 split
 ·rename_i h;exact ⟨fun _=>h,fun _=>rfl⟩
 ·rename_i h;exact ⟨fun h2=>(by cases h2),fun h2=>absurd h2 h⟩
/-! ### Slots and parts -/
def G7 (x:SlotD):Prop:=Dd x.n∧x.src≤3∧Str x.v∧(x.src=0∨x.v=[])
def Hy (l:List SlotD) (i:Nat):Prop:=∀ (m:Nat) (x:SlotD),m < i→l[m]?=some x→G7 x∧∀ y,0 < m→l[m - 1]?=some y→Op.bytesLess y.n x.n=true
def Hz (l:List SlotD):Prop:=l.length≤8∧Hy l l.length
theorem Hy.zero (l:List SlotD):Hy l 0:=fun m x h=>by omega
theorem Hy.step {l:List SlotD} {i:Nat} {x:SlotD} (h:Hy l i) (hx:l[i]?=some x) (hn:G7 x) (ho:∀ y,0 < i→l[i - 1]?=some y→Op.bytesLess y.n x.n=true):Hy l (i+1):=by
 intro m z hm hz
 rcases Nat.eq_or_lt_of_le (show m≤i by omega) with e | e
 ·subst e;rw [hx] at hz;simp only [Option.some.injEq] at hz;subst hz;exact ⟨hn,ho⟩
 ·exact h m z e hz
theorem Hy.done {l:List SlotD} {i:Nat} (h:Hy l i) (h8:l.length≤8) (hi:l.length≤i):Hz l:=⟨h8,fun m x hm hx=>h m x (by omega) hx⟩
theorem Jc {l:List SlotD} {i:Nat} {x:SlotD} (hx:l[i]?=some x) (h:¬ G7 x):¬ Hz l:=fun ho=>h (ho.2 i x (Bj hx) hx).1
theorem U0 {l:List SlotD} {i:Nat} {x y:SlotD} (hx:l[i]?=some x) (hy:l[i - 1]?=some y) (hi:0 < i) (h:¬ Op.bytesLess y.n x.n=true):¬ Hz l:=fun ho=>h ((ho.2 i x (Bj hx) hx).2 y hi hy)
def Cv (x:PT):Prop :=
 (x.kind=1∧Dd x.tag∧(x.key=[]∨Dd x.key)∧Hz x.as∧x.text=[]∧x.kids.length≤16) ∨
 (x.kind=2∧Str x.text∧x.tag=[]∧x.key=[]∧x.as.length=0∧x.kids.length=0) ∨
 ((x.kind=3∨x.kind=4)∧x.text=[]∧x.tag=[]∧x.key=[]∧x.as.length=0∧x.kids.length=0) ∨
 (x.kind=5∧Dd x.tag∧Hz x.as∧x.key=[]∧x.text=[]∧x.kids.length=0)
theorem T3 {x:PT} (h:Cv x):x.kids.length≤16∧x.as.length≤8:=by
 rcases h with ⟨_,_,_,h,_,h2⟩ | ⟨_,_,_,_,h,h2⟩ | ⟨_,_,_,_,h,h2⟩ | ⟨_,_,h,_,_,h2⟩
 ·exact ⟨h2,h.1⟩
 ·omega
 ·omega
 ·exact ⟨by omega,h.1⟩
def ValidP (x:PT):Prop:=x.kind=1∧Tr.Ok Cv 6 x∧x.size≤64
open Classical in
/-- The number of parts of a valid template, 0 for another one. -/
noncomputable def cntP (x:PT):Nat:=if ValidP x then x.size else 0
open Classical in
noncomputable def Z9 (x:PT):Int:=if ValidP x then 0 else 14
theorem Z6 {x:PT} (h:ValidP x):cntP x=x.size:=by unfold cntP;rw [if_pos h]
theorem Xt {x:PT} (h:¬ ValidP x):cntP x=0:=by unfold cntP;rw [if_neg h]
theorem Amt {x:PT} (h:ValidP x):Z9 x=0:=by unfold Z9;rw [if_pos h]
theorem Aey {x:PT} (h:¬ ValidP x):Z9 x=14:=by unfold Z9;rw [if_neg h]
theorem Z7 {x:PT}:0 < cntP x↔ValidP x:=by
 unfold cntP
 split
 ·rename_i h;exact ⟨fun _=>h,fun _=>Tr.size_pos x⟩
 ·rename_i h;exact ⟨fun h2=>(by omega),fun h2=>absurd h2 h⟩
theorem chkP_zero {x:PT}:Z9 x=0↔ValidP x:=by
 unfold Z9
 split
 ·rename_i h;exact ⟨fun _=>h,fun _=>rfl⟩
 ·rename_i h;exact ⟨fun h2=>(by cases h2),fun h2=>absurd h2 h⟩
theorem Cnt.cntP {x:PT} {r:Nat} (h:Cnt Cv x 6 r):(x.kind≠1∨64 < r→_root_.Go.Proofs.YtmmhmcplegpenaaGreatDoor.T.cntP x=0)∧(x.kind=1→r≤64→_root_.Go.Proofs.YtmmhmcplegpenaaGreatDoor.T.cntP x=r):=by
 refine ⟨fun h1=>Xt fun h2=>?_,fun h0 h1=>?_⟩
 ·rcases h1 with h1 | h1
  ·exact h1 h2.1
  ·have:=h.ok.2 h2.2;omega
 ·rw [Z6 ⟨h0,h.ok.1 h1⟩,h.eq h1]
/-! ### A walk over all parts -/
section
variable {β σ:Type} (f:σ→Tr β→σ)
mutual
/-- What is there behind all nodes of a tree, a node ahead of those below it. -/
def Rj (s:σ):Tr β→σ
 | .mk k t y a x l=>H7 (f s (.mk k t y a x l)) l
def H7 (s:σ):List (Tr β)→σ
 | []=>s
 | c::l=>H7 (Rj s c) l
end
theorem Aig (s:σ) (x:Tr β):Rj f s x=H7 f (f s x) x.kids:=by cases x;simp only [Rj,Tr.kids]
theorem Ng:∀ (l m:List (Tr β)) (s:σ),H7 f s (l++m)=H7 f (H7 f s l) m
 | [],m,s=>by simp [H7]
 | x::l,m,s=>by simp only [List.cons_append,H7,Ng l m]
theorem X0 {l:List (Tr β)} {i:Nat} {x:Tr β} (h:l[i]?=some x) (s:σ):H7 f s (l.take (i+1))=Rj f (H7 f s (l.take i)) x:=by
 rw [Tr.take_snoc' h,Ng];simp [H7]
end
/-! ### How many nodes a template makes -/
theorem Tr.Ok.kid {β:Type} {A:Tr β→Prop} {n:Nat} {x c:Tr β} (h:Tr.Ok A n x) (hc:c∈x.kids):∃ m,Tr.Ok A m c:=by
 cases n with
 | zero=>exact h.elim
 | succ n=>exact ⟨n,h.2 c hc⟩
/-! ### What a template uses -/
theorem Pq {α:Type} {p:α→Prop} {l:List α} {i:Nat} {x:α} (h:∀ (m:Nat) (y:α),m < i→l[m]?=some y→p y) (hx:l[i]?=some x) (hp:p x):∀ (m:Nat) (y:α),m < i+1→l[m]?=some y→p y:=by
 intro m y hm hy
 rcases Nat.eq_or_lt_of_le (show m≤i by omega) with e | e
 ·subst e;rw [hx] at hy;simp only [Option.some.injEq] at hy;subst hy;exact hp
 ·exact h m y e hy
/-! ### Items -/
structure ItemD where
 key:Int
 typ:Int
 text:List UInt8
 marks:List (List UInt8)
def ItemOk (x:ItemD):Prop:=¬ x.key=0∧Str x.text∧x.marks.length≤8∧∀ s∈x.marks,Dd s
open Classical in
/-- The error of an item. -/
noncomputable def Gt (x:ItemD):Int:=if ItemOk x then 0 else 6
theorem Dp {x:ItemD} (h:ItemOk x):Gt x=0:=by unfold Gt;rw [if_pos h]
theorem Fv {x:ItemD} (h:¬ ItemOk x):Gt x=6:=by unfold Gt;rw [if_neg h]
theorem Gs {l:List (List UInt8)} {i:Nat} (h:∀ (m:Nat) (s:List UInt8),m < i→l[m]?=some s→Dd s) (hi:l.length≤i):∀ s∈l,Dd s:=by
 intro s hs
 obtain ⟨m,hm⟩:=List.mem_iff_getElem?.1 hs
 exact h m s (by have:=Bj hm;omega) hm
/-! ### Decimal numbers -/
theorem Ho (u:Nat):Lib.decDigits u=(if u / 10=0 then [] else Lib.decDigits (u / 10))++[UInt8.ofNat (48+u % 10)]:=by
 rw [Lib.decDigits]
 split
 ·rename_i h
  rw [if_pos (by omega),Nat.mod_eq_of_lt h]
  rfl
 ·rename_i h
  rw [if_neg (by omega)]
theorem Ev (u:Nat) (h:u < 18446744073709551616):(Lib.decDigits u).length≤20:=by
 rw [Lib.decDigits_length]
 rcases Nat.eq_zero_or_pos u with h0 | h0
 ·subst h0;rw [Lib.nDigits_small (by decide)];omega
 ·have h1:=Lib.numDigits_eq u h0 h
  split at h1 <;> omega
theorem dig_at:∀ k:Nat,k < 10→([48,49,50,51,52,53,54,55,56,57]:List UInt8)[k]?=some (UInt8.ofNat (48+k)):=by decide
theorem V3:∀ k:Nat,k < 10→(([48,49,50,51,52,53,54,55,56,57]:List UInt8).take (k+1)).drop k=[UInt8.ofNat (48+k)]:=by decide
theorem V6 {k:Nat} (h:k < 10):Lib.decDigits k=[UInt8.ofNat (48+k)]:=by
 rw [Ho,if_pos (by omega),Nat.mod_eq_of_lt h];rfl
theorem Aio {l:List UInt8} {k:Nat} {b:UInt8} (h:k < l.length):(l.set k b).drop k=b::l.drop (k+1):=by
 rw [List.drop_eq_getElem_cons (by rw [List.length_set];exact h),List.getElem_set_self,List.drop_set_of_lt (by omega)]
theorem V5 {u n i:Nat} {l:List UInt8} {b:UInt8} (h:Lib.decDigits u=Lib.decDigits n++l.drop i) (hi:1≤i) (hi2:i≤20) (hl:l.length=20) (hb:([48,49,50,51,52,53,54,55,56,57]:List UInt8)[n % 10]?=some b) :
  Lib.decDigits u=(if n / 10=0 then [] else Lib.decDigits (n / 10))++(l.set (i - 1) b).drop (i - 1):=by
 rw [dig_at _ (by omega)] at hb
 simp only [Option.some.injEq] at hb
 rw [h,Ho n,Aio (by omega),← hb,show i - 1+1=i by omega]
 simp
theorem Amo {u n i:Nat} {l:List UInt8} (h:Lib.decDigits u=Lib.decDigits n++l.drop i) (hu:u < 18446744073709551616) (hl:l.length=20) (hi:i≤20):1≤i:=by
 have h1:=Ev u hu
 rw [h,List.length_append,List.length_drop,Lib.decDigits_length] at h1
 have:=Lib.nDigits_pos n
 omega
/-! ### Attributes of an item -/
def Pc (x:ItemD) (s:SlotD):List UInt8:=if s.src=1 then x.text else if s.src=2 then Lib.decDigits x.key.toNat else if s.src=3 then Lib.decDigits x.marks.length else s.v
def Dt (x:ItemD) (s:SlotD):AttrD:=⟨s.n,Pc x s⟩
theorem Adc {x:ItemD} {xs:List SlotD} {i:Nat} {s:SlotD} (h:xs[i]?=some s) :
  ((xs.take i).map (Dt x)++List.replicate (xs.length - i) (⟨[],[]⟩:AttrD)).set i (Dt x s)=(xs.take (i+1)).map (Dt x)++List.replicate (xs.length - (i+1)) (⟨[],[]⟩:AttrD):=by
 have hi:=Bj h
 rw [Tr.take_snoc' h,List.map_append,List.set_append_right _ _ (by simp;omega)]
 have e:xs.length - i=(xs.length - (i+1))+1:=by omega
 have e2:i - ((xs.take i).map (Dt x)).length=0:=by simp;omega
 rw [e,e2,List.replicate_succ]
 simp
theorem pick4 {x:ItemD} {s:SlotD} (h0:0≤s.src) (h3:s.src≤3):(#[Value.string (str s.v),Value.string (str x.text),Value.string (str (Lib.decDigits x.key.toNat)),Value.string (str (Lib.decDigits x.marks.length))]:Array Value)[s.src.toNat]?=some (.string (str (Pc x s))):=by
 unfold Pc
 have h:s.src=0∨s.src=1∨s.src=2∨s.src=3:=by omega
 rcases h with h | h | h | h <;> rw [h] <;> rfl
theorem Ahx {x:ItemD} (ht:x.text.length≤9223372036854775807) (hk:A2 .u64 x.key) (hm:x.marks.length≤9223372036854775807) (s:SlotD) (hv:s.v.length≤9223372036854775807):(Pc x s).length≤9223372036854775807:=by
 obtain ⟨h1,h2⟩:0≤x.key∧x.key≤18446744073709551615:=hk
 have a:=Ev x.key.toNat (by omega)
 have b:=Ev x.marks.length (by omega)
 unfold Pc
 split
 ·exact ht
 ·split
  ·omega
  ·split
   ·omega
   ·exact hv
theorem Afi {l:List SlotD} (h:Hz l) {s:SlotD} (hs:s∈l):s.src≤3:=by
 obtain ⟨m,hm⟩:=List.mem_iff_getElem?.1 hs
 exact (h.2 m s (Bj hm) hm).1.2.1
/-! ### What is made of an item -/
def Bu (s:List UInt8):NT:=.mk 2 [] [] [] s []
def Aev (x:ItemD) (tag:List UInt8) (al:List SlotD) (m:List UInt8):NT:=.mk 1 tag m (al.map (Dt x)) [] [Bu m]
mutual
def I2 (x:ItemD):PT→List NT
 | .mk k tag key al text kids=>if k=1 then [.mk 1 tag key (al.map (Dt x)) [] (madesF x kids)] else if k=2 then [Bu text] else if k=3 then [Bu x.text] else if k=4 then [Bu (Lib.decDigits x.key.toNat)] else
   if k=5 then x.marks.map (Aev x tag al) else []
def madesF (x:ItemD):List PT→List NT
 | []=>[]
 | c::l=>I2 x c++madesF x l
end
theorem Oy (x:ItemD):∀ (l r:List PT),madesF x (l++r)=madesF x l++madesF x r
 | [],r=>by simp [madesF]
 | c::l,r=>by simp only [List.cons_append,madesF,Oy x l r,List.append_assoc]
theorem E7 {x:ItemD} {l:List PT} {i:Nat} {c:PT} (h:l[i]?=some c):madesF x (l.take (i+1))=madesF x (l.take i)++I2 x c:=by
 rw [Tr.take_snoc' h,Oy];simp [madesF]
theorem Akg {x:ItemD} {p:PT} (h:p.kind=1):I2 x p=[.mk 1 p.tag p.key (p.as.map (Dt x)) [] (madesF x p.kids)]:=by
 cases p;simp only [Tr.kind] at h;subst h;simp [I2,Tr.tag,Tr.key,Tr.as,Tr.kids]
theorem made2 {x:ItemD} {p:PT} (h:p.kind=2):I2 x p=[Bu p.text]:=by
 cases p;simp only [Tr.kind] at h;subst h;simp [I2,Tr.text]
theorem made3 {x:ItemD} {p:PT} (h:p.kind=3):I2 x p=[Bu x.text]:=by
 cases p;simp only [Tr.kind] at h;subst h;simp [I2]
theorem made4 {x:ItemD} {p:PT} (h:p.kind=4):I2 x p=[Bu (Lib.decDigits x.key.toNat)]:=by
 cases p;simp only [Tr.kind] at h;subst h;simp [I2]
theorem made5 {x:ItemD} {p:PT} (h:p.kind=5):I2 x p=x.marks.map (Aev x p.tag p.as):=by
 cases p;simp only [Tr.kind] at h;subst h;simp [I2,Tr.tag,Tr.as]
theorem made0 {x:ItemD} {p:PT} (h1:¬ p.kind=1) (h2:¬ p.kind=2) (h3:¬ p.kind=3) (h4:¬ p.kind=4) (h5:¬ p.kind=5):I2 x p=[]:=by
 cases p;simp only [Tr.kind] at h1 h2 h3 h4 h5;simp [I2,h1,h2,h3,h4,h5]
theorem Akf {x:ItemD} (hm:x.marks.length≤8) (p:PT):(I2 x p).length≤8:=by
 cases p with
 | mk k tag key al text kids =>
  simp only [I2]
  repeat' split
  all_goals simp
  exact hm
theorem Vp {x:ItemD} (hm:x.marks.length≤8):∀ l:List PT,(madesF x l).length≤8 * l.length
 | []=>by simp [madesF]
 | c::l=>by
  have h1:=Akf hm c
  have h2:=Vp hm l
  simp only [madesF,List.length_append,List.length_cons];omega
theorem Vh {p:PT} {n:Nat} (h:Tr.Ok Cv n p) (hk:p.kind=1∨p.kind=5):Hz p.as:=by
 cases n with
 | zero=>exact h.elim
 | succ n =>
  rcases h.1 with ⟨_,_,_,h,_⟩ | ⟨h,_⟩ | ⟨h,_⟩ | ⟨_,_,h,_⟩
  ·exact h
  ·omega
  ·omega
  ·exact h
theorem okP_len {p:PT} {n:Nat} (h:Tr.Ok Cv n p):p.kids.length≤16:=by
 cases n with
 | zero=>exact h.elim
 | succ n=>exact (T3 h.1).1
theorem Ajn {p:PT} {n:Nat} (h:Tr.Ok Cv n p):∀ c∈p.kids,∃ m,Tr.Ok Cv m c:=fun c hc=>Tr.Ok.kid h hc
theorem V2 {l:List (List UInt8)} {j:Nat} {s:List UInt8} (h:l[j]?=some s) (f:List UInt8→NT):(l.take (j+1)).map f=(l.take j).map f++[f s]:=by
 rw [Tr.take_snoc' h,List.map_append];rfl
theorem Nj {ps:List PT} {p:PT} (h:p∈ps):Tr.sizes p.kids < Tr.sizes ps:=by
 have h1:=Tr.size_mem h
 rw [Tr.size_eq] at h1;omega
/-! ### Render -/
def node1 (x:ItemD) (p:PT):NT:=.mk 1 p.tag p.key (p.as.map (Dt x)) [] (madesF x p.kids)
def Qb:NT:=.mk 0 [] [] [] [] []
theorem Agt {x:ItemD} {p:PT} (h:p.kind=1):madesF x [p]=[node1 x p]:=by simp [madesF,Akg h,node1]
open Classical in
/-- The error of Render. -/
noncomputable def rendE (p:PT) (x:ItemD) (most:Int):Int :=
 if most < 1∨64 < most then 1 else if ¬ ValidP p then 14 else if ¬ ItemOk x then 6 else if cntF (node1 x p)=0∨most < (cntF (node1 x p):Int) then 14 else 0
open Classical in
noncomputable def Gf (p:PT) (x:ItemD) (most:Int):NT:=if rendE p x most=0 then node1 x p else Qb
section
variable {p:PT} {x:ItemD} {most:Int}
theorem Ys (h:most < 1∨64 < most):rendE p x most=1:=by unfold rendE;rw [if_pos h]
theorem Afr (h:¬ (most < 1∨64 < most)) (hp:¬ ValidP p):rendE p x most=14:=by unfold rendE;rw [if_neg h,if_pos hp]
theorem Afs (h:¬ (most < 1∨64 < most)) (hp:ValidP p) (hx:¬ ItemOk x):rendE p x most=6:=by unfold rendE;rw [if_neg h,if_neg (not_not_intro hp),if_pos hx]
theorem rend_many (h:¬ (most < 1∨64 < most)) (hp:ValidP p) (hx:ItemOk x) (hc:cntF (node1 x p)=0∨most < (cntF (node1 x p):Int)):rendE p x most=14:=by
 unfold rendE;rw [if_neg h,if_neg (not_not_intro hp),if_neg (not_not_intro hx),if_pos hc]
theorem rend_ok (h:¬ (most < 1∨64 < most)) (hp:ValidP p) (hx:ItemOk x) (hc:¬ (cntF (node1 x p)=0∨most < (cntF (node1 x p):Int))):rendE p x most=0:=by
 unfold rendE;rw [if_neg h,if_neg (not_not_intro hp),if_neg (not_not_intro hx),if_neg hc]
theorem Aiy (h:rendE p x most=0):Gf p x most=node1 x p:=by unfold Gf;rw [if_pos h]
theorem Kf (h:rendE p x most≠0):Gf p x most=Qb:=by unfold Gf;rw [if_neg h]
end
theorem Dy {x:ItemD}:Gt x=0↔ItemOk x:=by
 unfold Gt
 split
 ·rename_i h;exact ⟨fun _=>h,fun _=>rfl⟩
 ·rename_i h;exact ⟨fun h2=>(by cases h2),fun h2=>absurd h2 h⟩
theorem X2 {p:PT} (h:ValidP p):∃ n,Tr.Ok Cv n p:=⟨6,h.2.1⟩
theorem Vc {a b c:Res} (R L:List Res):(a::b::c::(R++L)).Perm (R++(a::b::c::L)):=by
 have h1:(R++(a::b::c::L)).Perm (a::(R++(b::c::L))):=List.perm_middle
 have h2:(R++(b::c::L)).Perm (b::(R++(c::L))):=List.perm_middle
 have h3:(R++(c::L)).Perm (c::(R++L)):=List.perm_middle
 exact (h1.trans ((h2.trans (h3.cons b)).cons a)).symm
open Go Go.Y Go.Proofs
variable {w0 w:World} {G:A4} {L:List Res}
set_option linter.unusedSimpArgs false
set_option linter.unusedVariables false
theorem Hh (M:Mem w0 G L w) {s:List UInt8} (hs:s.length≤9223372036854775807):Calls Tryz.prog 216 #[.string (str s)] w (Cl w0 G L fun v=>∃ b:Bool,v=.bool b∧(b=true↔Dd s)):=by
 refine Az (vs:=[_]) Tryz.func216 rfl (n:=7) rfl rfl<|Ab<|Ac<|Af rfl<|Aa<|Ad<|Ab<|Ac<|Ae rfl<|Ap (fun a F=>Ba (cs:=[.int .u8 1,.string (str s),.string (str ([]:List UInt8)),.slice none 0 0,.string (str ([]:List UInt8)),.slice none 0 0]) (ps:=[(0,.int .u8 1),(1,.string (str s))]) Bd.k rfl Bd (F.evp rfl) rfl) rfl<|Br Alq rfl rfl (Hj (x:=(.mk 1 s ([]:List UInt8) [] ([]:List UInt8) []:NT)) M ⟨by show (0:Int)≤1;omega,by show 1≤(255:Int);omega⟩ ⟨by first | exact Nat.zero_le _ | assumption | (simp only [Tr.tag,Tr.key,Tr.text];omega),by first | exact Nat.zero_le _ | assumption | (simp only [Tr.tag,Tr.key,Tr.text];omega),by first | exact Nat.zero_le _ | assumption | (simp only [Tr.tag,Tr.key,Tr.text];omega)⟩ Ay.nil Ay.nil)<|?_;clear M;rintro _ w M rfl
 refine Dc rfl rfl<|Af rfl<|Aa<|Ad<|Aj<|Al rfl rfl<|?_
 exact ⟨M,(decide (Up ((.mk 1 s ([]:List UInt8) [] ([]:List UInt8) []:NT))=0)),rfl,(decide_eq_true_iff.trans (V8.trans Zb))⟩
theorem Lm (M:Mem w0 G L w) {s:List UInt8} (hs:s.length≤9223372036854775807):Calls Tryz.prog 214 #[.string (str s)] w (Cl w0 G L fun v=>∃ b:Bool,v=.bool b∧(b=true↔Str s)):=by
 refine Az (vs:=[_]) Tryz.func214 rfl (n:=7) rfl rfl<|Ab<|Ac<|Af rfl<|Aa<|Ad<|Ab<|Ac<|Ae rfl<|Ap (fun a F=>Ba (cs:=[.int .u8 2,.string (str ([]:List UInt8)),.string (str ([]:List UInt8)),.slice none 0 0,.string (str s),.slice none 0 0]) (ps:=[(0,.int .u8 2),(4,.string (str s))]) Bd.k rfl Bd (F.evp rfl) rfl) rfl<|Br Alq rfl rfl (Hj (x:=(.mk 2 ([]:List UInt8) ([]:List UInt8) [] s []:NT)) M ⟨by show (0:Int)≤2;omega,by show 2≤(255:Int);omega⟩ ⟨by first | exact Nat.zero_le _ | assumption | (simp only [Tr.tag,Tr.key,Tr.text];omega),by first | exact Nat.zero_le _ | assumption | (simp only [Tr.tag,Tr.key,Tr.text];omega),by first | exact Nat.zero_le _ | assumption | (simp only [Tr.tag,Tr.key,Tr.text];omega)⟩ Ay.nil Ay.nil)<|?_;clear M;rintro _ w M rfl
 refine Dc rfl rfl<|Af rfl<|Aa<|Ad<|Aj<|Al rfl rfl<|?_
 exact ⟨M,(decide (Up ((.mk 2 ([]:List UInt8) ([]:List UInt8) [] s []:NT))=0)),rfl,(decide_eq_true_iff.trans (V8.trans Xx))⟩
theorem Ll (M:Mem w0 G L w) {ad:Option Addr} {cd:Nat} {xs:List SlotD} (S:Ay rdSlot 3 G (.slice ad xs.length cd) xs) (hxs:xs.length≤9223372036854775807):Calls Tryz.prog 235 #[.slice ad xs.length cd] w (Cl w0 G L fun v=>∃ b:Bool,v=.bool b∧(b=true↔Hz xs)):=by
 refine Az (vs:=[_]) Tryz.func235 rfl (n:=56) rfl rfl<|Ab<|Ac<|Af rfl<|Aa<|Ad<|Ab<|Ab<|Ac<|Ae rfl<|Cg Fz.k rfl<|Dn rfl rfl<|Aa<|Ad<|Av rfl ?_ ?_
 ·intro h1b
  have h1:=dT h1b
  refine Ab<|Ac<|Af rfl<|Aa<|Ad<|Aj<|Aw<|Al rfl rfl<|?_
  exact ⟨M,false,rfl,⟨fun h_=>(by cases h_),fun h_=>(by have:=h_.1;omega)⟩⟩
 ·intro h2b
  have h2:=dF h2b
  refine Au<|Ad<|Ab<|Ab<|Ac<|Ae rfl<|Cg Fz.k rfl<|Ae rfl<|Aa<|Ad<|A3<|fun a F=>B8 (fun m a' w'=>∃ (i:Nat),m=xs.length - i∧Fits 56 a' [(0,.slice ad xs.length cd),(8,.slice ad xs.length cd),(9,.int .i64 ((xs.length:Nat):Int)),(10,.int .i64 ((i:Nat):Int))]∧Mem w0 G (L) w'∧(i≤xs.length)∧(Hy xs i)) _ ⟨0,rfl,F.to ⟨rfl,rfl,rfl,rfl,trivial⟩,M,Nat.zero_le _,Hy.zero _⟩ ?_
  clear F M
  rintro m a w ⟨i,rfl,F,M,hi,hS⟩
  revert a
  refine Ab<|Ac<|Df rfl rfl<|Aa<|Ad<|Ab<|Av rfl ?_ ?_
  ·intro h3b
   have h3:=dT h3b
   refine Au<|Ad<|Ab<|A3<|Ab<|Ac<|Ae rfl<|?_
   obtain ⟨Xe4,hXe4⟩:=Be (xs:=xs) (i:=i) (by omega)
   obtain ⟨be4,oe4,_,Ie4,_,Ae4,⟨rfl,hn1e4,hk1e4,hv1e4⟩⟩:=S.at hXe4
   refine Fp Fz.k Fr Ie4 rfl rfl<|Ap (fun a F=>Am Fr rfl (F.ev rfl) (cs:=[.string (str Xe4.n),.int .u8 Xe4.src,.string (str Xe4.v)]) rfl (M.cellsA Ae4 0 (by omega) rfl)) rfl<|Cz M Fr rfl rfl<|?_;clear M;intro b5 w M
   refine Af rfl<|fun a F=>?_
   refine Ar F M Fr (k:=0) rfl rfl rfl (us:=[.string (str Xe4.n),.int .u8 Xe4.src,.string (str Xe4.v)]) rfl rfl (by simp [Value.oneCell']) (by simp) ?_;clear F M a;intro w a M F
   change Mem w0 G (.blk b5 [.string (str Xe4.n),.int .u8 Xe4.src,.string (str Xe4.v)] 189::L) _ at M
   revert a
   refine Aa<|Ad<|Ab<|fun a F=>Fm [(.free,0),(.pure,1),(.keep,2),(.free,3),(.free,4),(.free,5),(.pure,6),(.free,7),(.free,8),(.free,9),(.free,10),(.pure,11),(.keep,12),(.free,13),(.free,14),(.free,15),(.free,16),(.pure,17),(.free,18),(.free,19),(.free,20),(.pure,21),(.free,22),(.free,23),(.free,24),(.free,25),(.free,26),(.free,27),(.free,28),(.free,29),(.pure,30),(.free,31),(.free,32),(.free,33),(.free,34),(.free,35),(.pure,36),(.free,37),(.free,38),(.free,39)] [] (Keep G [.blk b5 [.string (str Xe4.n),.int .u8 Xe4.src,.string (str Xe4.v)] 189]) rfl (by kernel_rfl) (fun c a d v w h=>by cases d <;> exact h) ((M.drew _).keep (Gle.refl _) (by simp)) ?_
   replace M:=M.drew (w.drawn+1)
   revert a
   refine k_f (fun a F w _=>Co Fr.k rfl F rfl) rfl<|k_p (fun a F w M=>Aq (agf Bq rfl) (F.ev rfl) (M.cellL (k:=0) rfl rfl)) rfl<|k_k rfl<|Br P5 rfl rfl (Hh (s:=Xe4.n) M (by omega))<|?_;clear M;rintro _ w M ⟨b7,rfl,hb7⟩
   refine Aa<|eK (C':=Keep G [.blk b5 [.string (str Xe4.n),.int .u8 Xe4.src,.string (str Xe4.v)] 189]) (M.keep (Gle.refl _) (by simp)) (fun w h=>h.mono (Gle.refl _) (by simp))<|k_f (fun a F w _=>Gn (F.ev rfl)) rfl<|k_f (fun a F w _=>Cj F rfl) rfl<|?_
   rcases bE (!(b7)) with h8b | h9b
   ·skip
    have h8:=Ag h8b
    have h8c:(b7)=false:=(Ag h8b)
    refine k_s rfl (Ak h8c)<|k_s rfl (Ak h8c)<|k_s rfl (Ak h8c)<|k_f (fun a F w _=>H4 F rfl (Ak h8c) rfl) rfl<|k_f (fun a F w _=>Cj F rfl) rfl<|k_s rfl rfl<|k_s rfl rfl<|k_s rfl rfl<|k_s rfl rfl<|k_f (fun a F w _=>H4 F rfl rfl rfl) rfl<|k_f (fun a F w _=>Cj F rfl) rfl<|k_s rfl rfl<|k_s rfl rfl<|k_s rfl rfl<|k_s rfl rfl<|k_u rfl<|k_u rfl<|k_u rfl<|k_s rfl rfl<|k_f (fun a F w _=>H4 F rfl rfl rfl) rfl<|k_f (fun a F w _=>Cj F rfl) rfl<|k_s rfl rfl<|k_s rfl rfl<|k_s rfl rfl<|?_
    refine k_u rfl<|k_u rfl<|k_u rfl<|k_u rfl<|k_u rfl<|k_u rfl<|k_u rfl<|k_u rfl<|k_u rfl<|k_s rfl rfl<|k_f (fun a F w _=>H4 F rfl rfl rfl) rfl<|D1<|Ad<|Bk rfl rfl<|Ab<|Ac<|Af rfl<|Aa<|Ad<|Aj<|Bo<|Aw<|Aw<|Bo<|?_
    refine Aw<|Al rfl rfl<|?_
    exact ⟨(M.weaken (.cons _ (sR _))),false,rfl,(by have hu:=Rl hk1e4;have q0:=Jc hXe4;have q9:=@Hv;clear M;unfold G7 at q0;grind)⟩
   ·skip
    have h9:=Ah h9b
    have h9c:(b7)=true:=(Ah h9b)
    refine Db rfl (Ai h9c) (fun a F w _=>Co Fr.k rfl F rfl)<|Ig rfl (Ai h9c) (fun a F w M=>Aq (agf Ew rfl) (F.ev rfl) (M.cellL (k:=0) rfl rfl))<|Db rfl (Ai h9c) (fun a F w _=>Ky (F.ev rfl) (F.ev rfl))<|k_f (fun a F w _=>Gy F rfl (Ai h9c) rfl) rfl<|k_f (fun a F w _=>Cj F rfl) rfl<|?_
    rcases bE (decide (3 < Xe4.src)) with h10b | h11b
    ·skip
     have h10:=dT h10b
     refine k_s rfl h10b<|k_s rfl h10b<|k_s rfl h10b<|k_s rfl h10b<|k_f (fun a F w _=>H4 F rfl h10b rfl) rfl<|k_f (fun a F w _=>Cj F rfl) rfl<|k_s rfl rfl<|k_s rfl rfl<|k_s rfl rfl<|k_s rfl rfl<|k_u rfl<|k_u rfl<|k_u rfl<|k_s rfl rfl<|k_f (fun a F w _=>H4 F rfl rfl rfl) rfl<|k_f (fun a F w _=>Cj F rfl) rfl<|k_s rfl rfl<|k_s rfl rfl<|k_s rfl rfl<|k_u rfl<|k_u rfl<|k_u rfl<|k_u rfl<|k_u rfl<|?_
     refine k_u rfl<|k_u rfl<|k_u rfl<|k_u rfl<|k_s rfl rfl<|k_f (fun a F w _=>H4 F rfl rfl rfl) rfl<|D1<|Ad<|Bk rfl rfl<|Ab<|Ac<|Af rfl<|Aa<|Ad<|Aj<|Bo<|Aw<|Aw<|Bo<|Aw<|Al rfl rfl<|?_
     exact ⟨(M.weaken (.cons _ (sR _))),false,rfl,(by have hu:=Rl hk1e4;have q0:=Jc hXe4;have q9:=@Hv;clear M;unfold G7 at q0;grind)⟩
    ·skip
     have h11:=dF h11b
     refine Db rfl h11b (fun a F w _=>Co Fr.k rfl F rfl)<|Ig rfl h11b (fun a F w M=>Aq (agf Bq rfl) (F.ev rfl) (M.cellL (k:=0) rfl rfl))<|fun a F=>Hi F rfl rfl h11b ?_
     revert a
     refine g_t rfl h11b<|Br Acs rfl rfl (Lm (s:=Xe4.v) M (by omega))<|?_;clear M;rintro _ w M ⟨b12,rfl,hb12⟩
     refine Aa<|eK (C':=Keep G [.blk b5 [.string (str Xe4.n),.int .u8 Xe4.src,.string (str Xe4.v)] 189]) (M.keep (Gle.refl _) (by simp)) (fun w h=>h.mono (Gle.refl _) (by simp))<|Db rfl h11b (fun a F w _=>Gn (F.ev rfl))<|k_f (fun a F w _=>Gy F rfl h11b rfl) rfl<|k_f (fun a F w _=>Cj F rfl) rfl<|?_
     rcases bE (!(b12)) with h13b | h14b
     ·skip
      have h13:=Ag h13b
      have h13c:(b12)=false:=(Ag h13b)
      refine k_s rfl (Ak h13c)<|k_s rfl (Ak h13c)<|k_s rfl (Ak h13c)<|k_s rfl (Ak h13c)<|k_u rfl<|k_u rfl<|k_u rfl<|k_s rfl (Ak h13c)<|k_f (fun a F w _=>H4 F rfl (Ak h13c) rfl) rfl<|k_f (fun a F w _=>Cj F rfl) rfl<|k_s rfl rfl<|k_s rfl rfl<|k_s rfl rfl<|k_u rfl<|k_u rfl<|k_u rfl<|k_u rfl<|k_u rfl<|k_u rfl<|k_u rfl<|k_u rfl<|k_u rfl<|k_s rfl rfl<|k_f (fun a F w _=>H4 F rfl rfl rfl) rfl<|?_
      refine D1<|Ad<|Bk rfl rfl<|Ab<|Ac<|Af rfl<|Aa<|Ad<|Aj<|Bo<|Aw<|Aw<|Bo<|Aw<|Al rfl rfl<|?_
      exact ⟨(M.weaken (.cons _ (sR _))),false,rfl,(by have hu:=Rl hk1e4;have q0:=Jc hXe4;have q9:=@Hv;clear M;unfold G7 at q0;grind)⟩
     ·skip
      have h14:=Ah h14b
      have h14c:(b12)=true:=(Ah h14b)
      refine Db rfl (Ai h14c) (fun a F w _=>Co Fr.k rfl F rfl)<|Ig rfl (Ai h14c) (fun a F w M=>Aq (agf Ew rfl) (F.ev rfl) (M.cellL (k:=0) rfl rfl))<|Db rfl (Ai h14c) (fun a F w _=>Ky (F.ev rfl) (F.ev rfl))<|Db rfl (Ai h14c) (fun a F w _=>Cj F rfl)<|?_
      rcases bE (decide (0 < Xe4.src)) with h15b | h24b
      ·skip
       have h15:=dT h15b
       refine Db rfl h15b (fun a F w _=>Co Fr.k rfl F rfl)<|Ig rfl h15b (fun a F w M=>Aq (agf Bq rfl) (F.ev rfl) (M.cellL (k:=0) rfl rfl))<|Db rfl h15b (fun a F w _=>Jd (F.ev rfl) (F.ev rfl))<|Db rfl (Ai h14c) (fun a F w _=>H4 F rfl h15b rfl)<|k_f (fun a F w _=>Gy F rfl (Ai h14c) rfl) rfl<|k_f (fun a F w _=>Cj F rfl) rfl<|?_
       rcases bE (!(decide (Xe4.v=([]:List UInt8)))) with h16b | h17b
       ·skip
        have h16:=dF (Ag h16b)
        have h16c:(decide (Xe4.v=([]:List UInt8)))=false:=(Ag h16b)
        refine k_s rfl (Ak h16c)<|k_s rfl (Ak h16c)<|k_s rfl (Ak h16c)<|k_u rfl<|k_u rfl<|k_u rfl<|k_u rfl<|k_u rfl<|k_u rfl<|k_u rfl<|k_u rfl<|k_u rfl<|k_s rfl (Ak h16c)<|k_f (fun a F w _=>H4 F rfl (Ak h16c) rfl) rfl<|D1<|Ad<|Bk rfl rfl<|Ab<|Ac<|Af rfl<|Aa<|Ad<|Aj<|Bo<|?_
        refine Aw<|Aw<|Bo<|Aw<|Al rfl rfl<|?_
        exact ⟨(M.weaken (.cons _ (sR _))),false,rfl,(by have hu:=Rl hk1e4;have q0:=Jc hXe4;have q9:=@Hv;clear M;unfold G7 at q0;grind)⟩
       ·skip
        have h17:=dT (Ah h17b)
        have h17c:(decide (Xe4.v=([]:List UInt8)))=true:=(Ah h17b)
        refine Db rfl (Ai h17c) (fun a F w _=>Cj F rfl)<|Db rfl (Ai h17c) (fun a F w _=>Ky (F.ev rfl) (F.ev rfl))<|Db rfl (Ai h17c) (fun a F w _=>Cj F rfl)<|?_
        rcases bE (decide (0 < ((i:Nat):Int))) with h18b | h23b
        ·skip
         have h18:=dT h18b
         refine Db rfl h18b (fun a F w _=>Co Fr.k rfl F rfl)<|Ig rfl h18b (fun a F w M=>Aq (agf Bq rfl) (F.ev rfl) (M.cellL (k:=0) rfl rfl))<|Db rfl h18b (fun a F w _=>Cj F rfl)<|Db rfl h18b (fun a F w _=>Cj F rfl)<|Db rfl h18b (fun a F w _=>Lw (F.ev rfl) (F.ev rfl) (Cr (by omega) (by omega)))<|?_
         have hs19:(((i:Nat):Int) - 1:Int)=((i - 1:Nat):Int):=by omega
         intro a F
         rw [hs19] at F
         obtain ⟨Xe20,hXe20⟩:=Be (xs:=xs) (i:=i - 1) (by omega)
         obtain ⟨be20,oe20,_,Ie20,_,Ae20,⟨rfl,hn1e20,hk1e20,hv1e20⟩⟩:=S.at hXe20
         revert a
         refine Db rfl h18b (fun a F w _=>Ca Fz.k Fr (F.ev rfl) (F.ev rfl) (by omega) Ie20)<|Db rfl h18b (fun a F w _=>Co Fr.k rfl F rfl)<|Ig rfl h18b (fun a F w M=>Aq (agf Bq rfl) (F.ev rfl) (M.cellA Ae20 0 rfl rfl))<|Db rfl h18b (fun a F w _=>Ns (F.ev rfl) (F.ev rfl))<|Db rfl (Ai h17c) (fun a F w _=>H4 F rfl h18b rfl)<|k_f (fun a F w _=>Gy F rfl (Ai h17c) rfl) rfl<|D1<|Ad<|Av rfl ?_ ?_
         ·intro h21b
          have h21:(Op.bytesLess Xe4.n Xe20.n || Xe4.n==Xe20.n)=true:=h21b
          refine Ab<|Ac<|Af rfl<|Aa<|Ad<|Aj<|Bo<|Aw<|Aw<|Bo<|Aw<|Al rfl rfl<|?_
          exact ⟨(M.weaken (.cons _ (sR _))),false,rfl,(by have hu:=Rl hk1e4;have q0:=Jc hXe4;have q1:=U0 hXe4 hXe20;have q9:=@Hv;clear M;unfold G7 at q0;grind)⟩
         ·intro h22b
          have h22:(Op.bytesLess Xe4.n Xe20.n || Xe4.n==Xe20.n)=false:=h22b
          refine Au<|C0<|Ad<|Ac<|B9 rfl rfl<|Ae rfl<|Aa<|Ad<|fun a F=>?_
          exact ⟨_,by omega,i+1,rfl,F.to ⟨rfl,rfl,rfl,rfl,trivial⟩,(M.weaken (.cons _ (sR _))),by omega,hS.step hXe4 (by have hu:=Rl hk1e4;clear F M;unfold G7;grind) (fun y h_ hy=>by rw [hXe20] at hy;simp only [Option.some.injEq] at hy;subst hy;clear F M;have q99:=@Hv;grind)⟩
        ·skip
         have h23:=dF h23b
         refine k_s rfl h23b<|k_s rfl h23b<|k_s rfl h23b<|k_s rfl h23b<|k_s rfl h23b<|k_s rfl h23b<|k_s rfl h23b<|k_s rfl h23b<|k_s rfl h23b<|Db rfl (Ai h17c) (fun a F w _=>Gy F rfl h23b rfl)<|k_f (fun a F w _=>Gy F rfl (Ai h17c) rfl) rfl<|D1<|Ad<|D2 rfl rfl<|Au<|C0<|Ad<|Ac<|B9 rfl rfl<|Ae rfl<|Aa<|Ad<|fun a F=>?_
         exact ⟨_,by omega,i+1,rfl,F.to ⟨rfl,rfl,rfl,rfl,trivial⟩,(M.weaken (.cons _ (sR _))),by omega,hS.step hXe4 (by have hu:=Rl hk1e4;clear F M;unfold G7;grind) (fun y h_=>by omega)⟩
      ·skip
       have h24:=dF h24b
       refine k_s rfl h24b<|k_s rfl h24b<|k_s rfl h24b<|Db rfl (Ai h14c) (fun a F w _=>Gy F rfl h24b rfl)<|k_f (fun a F w _=>Gy F rfl (Ai h14c) rfl) rfl<|k_f (fun a F w _=>Cj F rfl) rfl<|Db rfl rfl (fun a F w _=>Cj F rfl)<|Db rfl rfl (fun a F w _=>Ky (F.ev rfl) (F.ev rfl))<|Db rfl rfl (fun a F w _=>Cj F rfl)<|?_
       rcases bE (decide (0 < ((i:Nat):Int))) with h25b | h30b
       ·skip
        have h25:=dT h25b
        refine Db rfl h25b (fun a F w _=>Co Fr.k rfl F rfl)<|Ig rfl h25b (fun a F w M=>Aq (agf Bq rfl) (F.ev rfl) (M.cellL (k:=0) rfl rfl))<|Db rfl h25b (fun a F w _=>Cj F rfl)<|Db rfl h25b (fun a F w _=>Cj F rfl)<|Db rfl h25b (fun a F w _=>Lw (F.ev rfl) (F.ev rfl) (Cr (by omega) (by omega)))<|?_
        have hs26:(((i:Nat):Int) - 1:Int)=((i - 1:Nat):Int):=by omega
        intro a F
        rw [hs26] at F
        obtain ⟨Xe27,hXe27⟩:=Be (xs:=xs) (i:=i - 1) (by omega)
        obtain ⟨be27,oe27,_,Ie27,_,Ae27,⟨rfl,hn1e27,hk1e27,hv1e27⟩⟩:=S.at hXe27
        revert a
        refine Db rfl h25b (fun a F w _=>Ca Fz.k Fr (F.ev rfl) (F.ev rfl) (by omega) Ie27)<|Db rfl h25b (fun a F w _=>Co Fr.k rfl F rfl)<|Ig rfl h25b (fun a F w M=>Aq (agf Bq rfl) (F.ev rfl) (M.cellA Ae27 0 rfl rfl))<|Db rfl h25b (fun a F w _=>Ns (F.ev rfl) (F.ev rfl))<|Db rfl rfl (fun a F w _=>H4 F rfl h25b rfl)<|k_f (fun a F w _=>Gy F rfl rfl rfl) rfl<|D1<|Ad<|Av rfl ?_ ?_
        ·intro h28b
         have h28:(Op.bytesLess Xe4.n Xe27.n || Xe4.n==Xe27.n)=true:=h28b
         refine Ab<|Ac<|Af rfl<|Aa<|Ad<|Aj<|Bo<|Aw<|Aw<|Bo<|Aw<|Al rfl rfl<|?_
         exact ⟨(M.weaken (.cons _ (sR _))),false,rfl,(by have hu:=Rl hk1e4;have q0:=Jc hXe4;have q1:=U0 hXe4 hXe27;have q9:=@Hv;clear M;unfold G7 at q0;grind)⟩
        ·intro h29b
         have h29:(Op.bytesLess Xe4.n Xe27.n || Xe4.n==Xe27.n)=false:=h29b
         refine Au<|C0<|Ad<|Ac<|B9 rfl rfl<|Ae rfl<|Aa<|Ad<|fun a F=>?_
         exact ⟨_,by omega,i+1,rfl,F.to ⟨rfl,rfl,rfl,rfl,trivial⟩,(M.weaken (.cons _ (sR _))),by omega,hS.step hXe4 (by have hu:=Rl hk1e4;clear F M;unfold G7;grind) (fun y h_ hy=>by rw [hXe27] at hy;simp only [Option.some.injEq] at hy;subst hy;clear F M;have q99:=@Hv;grind)⟩
       ·skip
        have h30:=dF h30b
        refine k_s rfl h30b<|k_s rfl h30b<|k_s rfl h30b<|k_s rfl h30b<|k_s rfl h30b<|k_s rfl h30b<|k_s rfl h30b<|k_s rfl h30b<|k_s rfl h30b<|Db rfl rfl (fun a F w _=>Gy F rfl h30b rfl)<|k_f (fun a F w _=>Gy F rfl rfl rfl) rfl<|D1<|Ad<|D2 rfl rfl<|Au<|C0<|Ad<|Ac<|B9 rfl rfl<|Ae rfl<|Aa<|Ad<|fun a F=>?_
        exact ⟨_,by omega,i+1,rfl,F.to ⟨rfl,rfl,rfl,rfl,trivial⟩,(M.weaken (.cons _ (sR _))),by omega,hS.step hXe4 (by have hu:=Rl hk1e4;clear F M;unfold G7;grind) (fun y h_=>by omega)⟩
  ·intro h31b
   have h31:=dF h31b
   refine B1<|Bx<|Bx<|Dj<|Ad<|Ab<|Ac<|Af rfl<|Aa<|Ad<|Aj<|Al rfl rfl<|?_
   exact ⟨M,true,rfl,⟨fun _=>hS.done (by omega) (by omega),fun _=>rfl⟩⟩
theorem X7 (M:Mem w0 G L w) {rk:Rd PT} {x:PT} {ta:Option Addr} {tc:Nat} {ka:Option Addr} {kc:Nat} (hk:A2 .u8 x.kind) (hl:(x.tag.length≤9223372036854775807∧x.key.length≤9223372036854775807∧x.text.length≤9223372036854775807)) (SA:Ay rdSlot 3 G (.slice ta x.as.length tc) x.as) (SK:Ay rk 6 G (.slice ka x.kids.length kc) x.kids) {nb no:Nat} (A:At G nb no [.int .u8 x.kind,.string (str x.tag),.string (str x.key),.slice ta x.as.length tc,.string (str x.text),.slice ka x.kids.length kc]):Calls Tryz.prog 228 #[.pointer (some ⟨nb,no,none⟩)] w (Cl w0 G L fun v=>∃ bb:Bool,v=.bool bb∧(bb=true↔Cv x)):=by
 refine Az (vs:=[_]) Tryz.func228 rfl (n:=91) rfl rfl<|Ab<|Ac<|Af rfl<|Aa<|Ad<|Ab<|Ac<|Ae rfl<|Ep rfl<|Ap (fun a F=>Am Cf rfl (F.ev rfl) (cs:=[.int .u8 x.kind,.string (str x.tag),.string (str x.key),.slice ta x.as.length tc,.string (str x.text),.slice ka x.kids.length kc]) rfl (M.cellsA A 0 (by omega) rfl)) rfl<|Cz M Cf rfl rfl<|?_;clear M;intro b1 w M
 intro a F
 refine Ar F M Cf (k:=0) rfl rfl rfl (us:=[.int .u8 x.kind,.string (str x.tag),.string (str x.key),.slice ta x.as.length tc,.string (str x.text),.slice ka x.kids.length kc]) rfl rfl (by simp [Value.oneCell']) (by simp) ?_;clear F M a;intro w a M F
 change Mem w0 G (.blk b1 [.int .u8 x.kind,.string (str x.tag),.string (str x.key),.slice ta x.as.length tc,.string (str x.text),.slice ka x.kids.length kc] 79::L) _ at M
 revert a
 refine Aa<|Ad<|Ab<|Ab<|Ac<|Ae rfl<|Ep rfl<|Bc Cf.k rfl rfl<|D4 Ew M A 0 rfl rfl rfl rfl<|Aa<|Ad<|A3<|Ab<|A3<|Ab<|A3<|Ab<|A3<|Ab<|A3<|Ab<|A3<|Ab<|Ab<|?_
 refine Ab<|Ac<|Dc rfl rfl<|Af rfl<|Aa<|Ad<|Av rfl ?_ ?_
 ·intro h3b
  have h3:=dT h3b
  refine B1<|Bx<|Bx<|Dj<|Ad<|Ab<|Ab<|Ac<|Ae rfl<|Ep rfl<|Bc Cf.k rfl rfl<|D4 Bq M A 2 rfl rfl rfl rfl<|Gw rfl rfl<|Ae rfl<|?_
  rcases bE (!(decide (x.key=([]:List UInt8)))) with h4b | h18b
  ·skip
   have h4:=dF (Ag h4b)
   have h4c:(decide (x.key=([]:List UInt8)))=false:=(Ag h4b)
   refine g_t rfl (Ak h4c)<|Ae rfl<|g_t rfl (Ak h4c)<|Ep rfl<|g_t rfl (Ak h4c)<|Bc Cf.k rfl rfl<|g_t rfl (Ak h4c)<|D4 Bq M A 2 rfl rfl rfl rfl<|g_t rfl (Ak h4c)<|Br P5 rfl rfl (Hh (s:=x.key) M (by omega))<|?_;clear M;rintro _ w M ⟨b5,rfl,hb5⟩
   refine g_t rfl (Ak h4c)<|C9 rfl<|Bi rfl (Ak h4c) rfl<|Ae rfl<|?_
   rcases bE (!(b5)) with h6b | h7b
   ·skip
    have h6:=Ag h6b
    have h6c:(b5)=false:=(Ag h6b)
    refine g_f rfl (Ak h6c)<|g_f rfl (Ak h6c)<|g_f rfl (Ak h6c)<|g_f rfl (Ak h6c)<|g_f rfl (Ak h6c)<|g_f rfl (Ak h6c)<|Bi rfl (Ak h6c) rfl<|Aa<|Ad<|Bk rfl rfl<|Ab<|Ac<|Af rfl<|Aa<|Ad<|Aj<|Aw<|Bo<|Aw<|Bo<|Aw<|Bo<|Aw<|Bo<|?_
    refine Aw<|Bo<|Aw<|Al rfl rfl<|?_
    exact ⟨(M.weaken (.cons _ (sR _))),false,rfl,(by clear M;unfold Cv;grind)⟩
   ·skip
    have h7:=Ah h7b
    have h7c:(b5)=true:=(Ah h7b)
    refine g_t rfl (Ai h7c)<|Ae rfl<|g_t rfl (Ai h7c)<|Ep rfl<|g_t rfl (Ai h7c)<|Bc Cf.k rfl rfl<|g_t rfl (Ai h7c)<|D4 F5 M A 5 rfl rfl rfl rfl<|g_t rfl (Ai h7c)<|Cg F5.k rfl<|g_t rfl (Ai h7c)<|Dn rfl rfl<|Bh rfl (Ai h7c) rfl<|Aa<|Ad<|Av rfl ?_ ?_
    ·intro h8b
     have h8:=dT h8b
     refine Ab<|Ac<|Af rfl<|Aa<|Ad<|Aj<|Aw<|Bo<|Aw<|Bo<|Aw<|Bo<|Aw<|Bo<|Aw<|Bo<|Aw<|Al rfl rfl<|?_
     exact ⟨(M.weaken (.cons _ (sR _))),false,rfl,(by clear M;unfold Cv;grind)⟩
    ·intro h9b
     have h9:=dF h9b
     refine Au<|Ad<|Ac<|Bc Cf.k rfl rfl<|Fo Bq M 0 rfl rfl rfl rfl rfl rfl<|?_;clear M;intro w M
     refine Bc Cf.k rfl rfl<|Fo F5 M 0 rfl rfl rfl rfl rfl rfl<|?_;clear M;intro w M
     refine Aa<|C0<|Ad<|Ab<|Ab<|Ab<|Ac<|Ae rfl<|Ep rfl<|Bc Cf.k rfl rfl<|D4 Bq M A 1 rfl rfl rfl rfl<|Br P5 rfl rfl (Hh (s:=x.tag) M (by omega))<|?_;clear M;rintro _ w M ⟨b10,rfl,hb10⟩
     refine C9 rfl<|Ae rfl<|?_
     rcases bE (!(b10)) with h11b | h12b
     ·skip
      have h11:=Ag h11b
      have h11c:(b10)=false:=(Ag h11b)
      refine g_f rfl (Ak h11c)<|g_f rfl (Ak h11c)<|g_f rfl (Ak h11c)<|g_f rfl (Ak h11c)<|g_f rfl (Ak h11c)<|g_f rfl (Ak h11c)<|Bi rfl (Ak h11c) rfl<|Aa<|Ad<|Bk rfl rfl<|Ab<|Ac<|Af rfl<|Aa<|Ad<|Aj<|Aw<|Aw<|Bo<|Aw<|Bo<|Aw<|Bo<|Aw<|?_
      refine Bo<|Aw<|Al rfl rfl<|?_
      exact ⟨(M.weaken (.cons _ (sR _))),false,rfl,(by clear M;unfold Cv;grind)⟩
     ·skip
      have h12:=Ah h12b
      have h12c:(b10)=true:=(Ah h12b)
      refine g_t rfl (Ai h12c)<|Ae rfl<|g_t rfl (Ai h12c)<|Ep rfl<|g_t rfl (Ai h12c)<|Bc Cf.k rfl rfl<|g_t rfl (Ai h12c)<|D4 Fz M A 3 rfl rfl rfl rfl<|g_t rfl (Ai h12c)<|Br Acq rfl rfl (Ll (xs:=x.as) M SA (by have:=SA.bound;omega))<|?_;clear M;rintro _ w M ⟨b13,rfl,hb13⟩
      refine g_t rfl (Ai h12c)<|C9 rfl<|Bh rfl (Ai h12c) rfl<|Aa<|Ad<|Av rfl ?_ ?_
      ·intro h14b
       have h14:=Ag h14b
       have h14c:(b13)=false:=(Ag h14b)
       refine Ab<|Ac<|Af rfl<|Aa<|Ad<|Aj<|Aw<|Aw<|Bo<|Aw<|Bo<|Aw<|Bo<|Aw<|Bo<|Aw<|Al rfl rfl<|?_
       exact ⟨(M.weaken (.cons _ (sR _))),false,rfl,(by clear M;unfold Cv;grind)⟩
      ·intro h15b
       have h15:=Ah h15b
       have h15c:(b13)=true:=(Ah h15b)
       refine Au<|Ad<|Ac<|Bc Cf.k rfl rfl<|Fo Bq M 0 rfl rfl rfl rfl rfl rfl<|?_;clear M;intro w M
       refine Bc Cf.k rfl rfl<|Fo Fz M 0 rfl rfl rfl rfl rfl rfl<|?_;clear M;intro w M
       refine Aa<|Ad<|B1<|Ih rfl<|Bx<|Ih rfl<|Bx<|Ih rfl<|Bx<|Dj<|Ad<|Ab<|Ac<|Bc Cf.k rfl rfl<|Bl Bq M 0 rfl rfl rfl rfl<|F0 rfl rfl<|Ae rfl<|g_t rfl (by decide)<|Bc Cf.k rfl rfl<|g_t rfl (by decide)<|Bl Bq M 0 rfl rfl rfl rfl<|g_t rfl (by decide)<|F0 rfl rfl<|Bi rfl (by decide) rfl<|?_
       refine Ae rfl<|g_t rfl (by decide)<|Bc Cf.k rfl rfl<|g_t rfl (by decide)<|Bl Bq M 0 rfl rfl rfl rfl<|g_t rfl (by decide)<|F0 rfl rfl<|Bi rfl (by decide) rfl<|Ae rfl<|?_
       rcases bE (decide (x.text=([]:List UInt8))) with h16b | h17b
       ·skip
        have h16:=dT h16b
        refine g_t rfl h16b<|Bc Cf.k rfl rfl<|g_t rfl h16b<|Bl Fz M 0 rfl rfl rfl rfl<|g_t rfl h16b<|Cg Fz.k rfl<|g_t rfl h16b<|Dc rfl rfl<|Bi rfl h16b rfl<|Ae rfl<|g_t rfl (decide_eq_true (by decide))<|Bc Cf.k rfl rfl<|g_t rfl (decide_eq_true (by decide))<|Bl F5 M 0 rfl rfl rfl rfl<|g_t rfl (decide_eq_true (by decide))<|Cg F5.k rfl<|g_t rfl (decide_eq_true (by decide))<|Dc rfl rfl<|Bi rfl (decide_eq_true (by decide)) rfl<|Af rfl<|Aa<|Ad<|Aj<|Al rfl rfl<|?_
        exact ⟨(M.weaken (.cons _ (sR _))),(decide (((0:Nat):Int)=0)),rfl,(by clear M;unfold Cv;grind)⟩
       ·skip
        have h17:=dF h17b
        refine g_f rfl h17b<|g_f rfl h17b<|g_f rfl h17b<|g_f rfl h17b<|Bh rfl h17b rfl<|Ae rfl<|g_f rfl rfl<|g_f rfl rfl<|g_f rfl rfl<|g_f rfl rfl<|Bh rfl rfl rfl<|Af rfl<|Aa<|Ad<|Aj<|Al rfl rfl<|?_
        exact ⟨(M.weaken (.cons _ (sR _))),false,rfl,(by clear M;unfold Cv;grind)⟩
  ·skip
   have h18:=dT (Ah h18b)
   have h18c:(decide (x.key=([]:List UInt8)))=true:=(Ah h18b)
   refine g_f rfl (Ai h18c)<|g_f rfl (Ai h18c)<|g_f rfl (Ai h18c)<|g_f rfl (Ai h18c)<|g_f rfl (Ai h18c)<|g_f rfl (Ai h18c)<|Bh rfl (Ai h18c) rfl<|Ae rfl<|g_t rfl rfl<|Ae rfl<|g_t rfl rfl<|Ep rfl<|g_t rfl rfl<|Bc Cf.k rfl rfl<|g_t rfl rfl<|D4 F5 M A 5 rfl rfl rfl rfl<|g_t rfl rfl<|Cg F5.k rfl<|g_t rfl rfl<|Dn rfl rfl<|Bh rfl rfl rfl<|Aa<|Ad<|Av rfl ?_ ?_
   ·intro h19b
    have h19:=dT h19b
    refine Ab<|Ac<|Af rfl<|Aa<|Ad<|Aj<|Aw<|Bo<|Aw<|Bo<|Aw<|Bo<|Aw<|Bo<|Aw<|Bo<|Aw<|Al rfl rfl<|?_
    exact ⟨(M.weaken (.cons _ (sR _))),false,rfl,(by clear M;unfold Cv;grind)⟩
   ·intro h20b
    have h20:=dF h20b
    refine Au<|Ad<|Ac<|Bc Cf.k rfl rfl<|Fo Bq M 0 rfl rfl rfl rfl rfl rfl<|?_;clear M;intro w M
    refine Bc Cf.k rfl rfl<|Fo F5 M 0 rfl rfl rfl rfl rfl rfl<|?_;clear M;intro w M
    refine Aa<|C0<|Ad<|Ab<|Ab<|Ab<|Ac<|Ae rfl<|Ep rfl<|Bc Cf.k rfl rfl<|D4 Bq M A 1 rfl rfl rfl rfl<|Br P5 rfl rfl (Hh (s:=x.tag) M (by omega))<|?_;clear M;rintro _ w M ⟨b21,rfl,hb21⟩
    refine C9 rfl<|Ae rfl<|?_
    rcases bE (!(b21)) with h22b | h23b
    ·skip
     have h22:=Ag h22b
     have h22c:(b21)=false:=(Ag h22b)
     refine g_f rfl (Ak h22c)<|g_f rfl (Ak h22c)<|g_f rfl (Ak h22c)<|g_f rfl (Ak h22c)<|g_f rfl (Ak h22c)<|g_f rfl (Ak h22c)<|Bi rfl (Ak h22c) rfl<|Aa<|Ad<|Bk rfl rfl<|Ab<|Ac<|Af rfl<|Aa<|Ad<|Aj<|Aw<|Aw<|Bo<|Aw<|Bo<|Aw<|Bo<|Aw<|?_
     refine Bo<|Aw<|Al rfl rfl<|?_
     exact ⟨(M.weaken (.cons _ (sR _))),false,rfl,(by clear M;unfold Cv;grind)⟩
    ·skip
     have h23:=Ah h23b
     have h23c:(b21)=true:=(Ah h23b)
     refine g_t rfl (Ai h23c)<|Ae rfl<|g_t rfl (Ai h23c)<|Ep rfl<|g_t rfl (Ai h23c)<|Bc Cf.k rfl rfl<|g_t rfl (Ai h23c)<|D4 Fz M A 3 rfl rfl rfl rfl<|g_t rfl (Ai h23c)<|Br Acq rfl rfl (Ll (xs:=x.as) M SA (by have:=SA.bound;omega))<|?_;clear M;rintro _ w M ⟨b24,rfl,hb24⟩
     refine g_t rfl (Ai h23c)<|C9 rfl<|Bh rfl (Ai h23c) rfl<|Aa<|Ad<|Av rfl ?_ ?_
     ·intro h25b
      have h25:=Ag h25b
      have h25c:(b24)=false:=(Ag h25b)
      refine Ab<|Ac<|Af rfl<|Aa<|Ad<|Aj<|Aw<|Aw<|Bo<|Aw<|Bo<|Aw<|Bo<|Aw<|Bo<|Aw<|Al rfl rfl<|?_
      exact ⟨(M.weaken (.cons _ (sR _))),false,rfl,(by clear M;unfold Cv;grind)⟩
     ·intro h26b
      have h26:=Ah h26b
      have h26c:(b24)=true:=(Ah h26b)
      refine Au<|Ad<|Ac<|Bc Cf.k rfl rfl<|Fo Bq M 0 rfl rfl rfl rfl rfl rfl<|?_;clear M;intro w M
      refine Bc Cf.k rfl rfl<|Fo Fz M 0 rfl rfl rfl rfl rfl rfl<|?_;clear M;intro w M
      refine Aa<|Ad<|B1<|Ih rfl<|Bx<|Ih rfl<|Bx<|Ih rfl<|Bx<|Dj<|Ad<|Ab<|Ac<|Bc Cf.k rfl rfl<|Bl Bq M 0 rfl rfl rfl rfl<|F0 rfl rfl<|Ae rfl<|g_t rfl (by decide)<|Bc Cf.k rfl rfl<|g_t rfl (by decide)<|Bl Bq M 0 rfl rfl rfl rfl<|g_t rfl (by decide)<|F0 rfl rfl<|Bi rfl (by decide) rfl<|?_
      refine Ae rfl<|g_t rfl (by decide)<|Bc Cf.k rfl rfl<|g_t rfl (by decide)<|Bl Bq M 0 rfl rfl rfl rfl<|g_t rfl (by decide)<|F0 rfl rfl<|Bi rfl (by decide) rfl<|Ae rfl<|?_
      rcases bE (decide (x.text=([]:List UInt8))) with h27b | h28b
      ·skip
       have h27:=dT h27b
       refine g_t rfl h27b<|Bc Cf.k rfl rfl<|g_t rfl h27b<|Bl Fz M 0 rfl rfl rfl rfl<|g_t rfl h27b<|Cg Fz.k rfl<|g_t rfl h27b<|Dc rfl rfl<|Bi rfl h27b rfl<|Ae rfl<|g_t rfl (decide_eq_true (by decide))<|Bc Cf.k rfl rfl<|g_t rfl (decide_eq_true (by decide))<|Bl F5 M 0 rfl rfl rfl rfl<|g_t rfl (decide_eq_true (by decide))<|Cg F5.k rfl<|g_t rfl (decide_eq_true (by decide))<|Dc rfl rfl<|Bi rfl (decide_eq_true (by decide)) rfl<|Af rfl<|Aa<|Ad<|Aj<|Al rfl rfl<|?_
       exact ⟨(M.weaken (.cons _ (sR _))),(decide (((0:Nat):Int)=0)),rfl,(by clear M;unfold Cv;grind)⟩
      ·skip
       have h28:=dF h28b
       refine g_f rfl h28b<|g_f rfl h28b<|g_f rfl h28b<|g_f rfl h28b<|Bh rfl h28b rfl<|Ae rfl<|g_f rfl rfl<|g_f rfl rfl<|g_f rfl rfl<|g_f rfl rfl<|Bh rfl rfl rfl<|Af rfl<|Aa<|Ad<|Aj<|Al rfl rfl<|?_
       exact ⟨(M.weaken (.cons _ (sR _))),false,rfl,(by clear M;unfold Cv;grind)⟩
 ·intro h29b
  have h29:=dF h29b
  refine Au<|Ad<|Ab<|Ab<|Ac<|Dc rfl rfl<|Af rfl<|Aa<|Ad<|Av rfl ?_ ?_
  ·intro h30b
   have h30:=dT h30b
   refine B1<|Bx<|Bx<|Ih rfl<|Bx<|Dj<|Ad<|Ab<|Ab<|Ab<|Ac<|Ae rfl<|Ep rfl<|Bc Cf.k rfl rfl<|D4 Bq M A 1 rfl rfl rfl rfl<|Br P5 rfl rfl (Hh (s:=x.tag) M (by omega))<|?_;clear M;rintro _ w M ⟨b31,rfl,hb31⟩
   refine C9 rfl<|Ae rfl<|?_
   rcases bE (!(b31)) with h32b | h33b
   ·skip
    have h32:=Ag h32b
    have h32c:(b31)=false:=(Ag h32b)
    refine g_f rfl (Ak h32c)<|g_f rfl (Ak h32c)<|g_f rfl (Ak h32c)<|g_f rfl (Ak h32c)<|g_f rfl (Ak h32c)<|g_f rfl (Ak h32c)<|Bi rfl (Ak h32c) rfl<|Aa<|Ad<|Bk rfl rfl<|Ab<|Ac<|Af rfl<|Aa<|Ad<|Aj<|Aw<|Aw<|Bo<|Aw<|Bo<|Aw<|Bo<|Aw<|?_
    refine Bo<|Aw<|Al rfl rfl<|?_
    exact ⟨(M.weaken (.cons _ (sR _))),false,rfl,(by clear M;unfold Cv;grind)⟩
   ·skip
    have h33:=Ah h33b
    have h33c:(b31)=true:=(Ah h33b)
    refine g_t rfl (Ai h33c)<|Ae rfl<|g_t rfl (Ai h33c)<|Ep rfl<|g_t rfl (Ai h33c)<|Bc Cf.k rfl rfl<|g_t rfl (Ai h33c)<|D4 Fz M A 3 rfl rfl rfl rfl<|g_t rfl (Ai h33c)<|Br Acq rfl rfl (Ll (xs:=x.as) M SA (by have:=SA.bound;omega))<|?_;clear M;rintro _ w M ⟨b34,rfl,hb34⟩
    refine g_t rfl (Ai h33c)<|C9 rfl<|Bh rfl (Ai h33c) rfl<|Aa<|Ad<|Av rfl ?_ ?_
    ·intro h35b
     have h35:=Ag h35b
     have h35c:(b34)=false:=(Ag h35b)
     refine Ab<|Ac<|Af rfl<|Aa<|Ad<|Aj<|Aw<|Aw<|Bo<|Aw<|Bo<|Aw<|Bo<|Aw<|Bo<|Aw<|Al rfl rfl<|?_
     exact ⟨(M.weaken (.cons _ (sR _))),false,rfl,(by clear M;unfold Cv;grind)⟩
    ·intro h36b
     have h36:=Ah h36b
     have h36c:(b34)=true:=(Ah h36b)
     refine Au<|Ad<|Ac<|Bc Cf.k rfl rfl<|Fo Bq M 0 rfl rfl rfl rfl rfl rfl<|?_;clear M;intro w M
     refine Bc Cf.k rfl rfl<|Fo Fz M 0 rfl rfl rfl rfl rfl rfl<|?_;clear M;intro w M
     refine Aa<|Ad<|B1<|Ih rfl<|Bx<|Ih rfl<|Bx<|Ih rfl<|Bx<|Dj<|Ad<|Ab<|Ac<|Bc Cf.k rfl rfl<|Bl Bq M 0 rfl rfl rfl rfl<|F0 rfl rfl<|Ae rfl<|g_t rfl (by decide)<|Bc Cf.k rfl rfl<|g_t rfl (by decide)<|Bl Bq M 0 rfl rfl rfl rfl<|g_t rfl (by decide)<|F0 rfl rfl<|Bi rfl (by decide) rfl<|?_
     refine Ae rfl<|?_
     rcases bE (decide (x.key=([]:List UInt8))) with h37b | h40b
     ·skip
      have h37:=dT h37b
      refine g_t rfl h37b<|Bc Cf.k rfl rfl<|g_t rfl h37b<|Bl Bq M 0 rfl rfl rfl rfl<|g_t rfl h37b<|F0 rfl rfl<|Bi rfl h37b rfl<|Ae rfl<|?_
      rcases bE (decide (x.text=([]:List UInt8))) with h38b | h39b
      ·skip
       have h38:=dT h38b
       refine g_t rfl h38b<|Bc Cf.k rfl rfl<|g_t rfl h38b<|Bl Fz M 0 rfl rfl rfl rfl<|g_t rfl h38b<|Cg Fz.k rfl<|g_t rfl h38b<|Dc rfl rfl<|Bi rfl h38b rfl<|Ae rfl<|g_t rfl (decide_eq_true (by decide))<|Bc Cf.k rfl rfl<|g_t rfl (decide_eq_true (by decide))<|Bl F5 M 0 rfl rfl rfl rfl<|g_t rfl (decide_eq_true (by decide))<|Cg F5.k rfl<|g_t rfl (decide_eq_true (by decide))<|Dc rfl rfl<|Bi rfl (decide_eq_true (by decide)) rfl<|Af rfl<|Aa<|Ad<|Aj<|Al rfl rfl<|?_
       exact ⟨(M.weaken (.cons _ (sR _))),(decide (((x.kids.length:Nat):Int)=0)),rfl,(by clear M;unfold Cv;grind)⟩
      ·skip
       have h39:=dF h39b
       refine g_f rfl h39b<|g_f rfl h39b<|g_f rfl h39b<|g_f rfl h39b<|Bh rfl h39b rfl<|Ae rfl<|g_f rfl rfl<|g_f rfl rfl<|g_f rfl rfl<|g_f rfl rfl<|Bh rfl rfl rfl<|Af rfl<|Aa<|Ad<|Aj<|Al rfl rfl<|?_
       exact ⟨(M.weaken (.cons _ (sR _))),false,rfl,(by clear M;unfold Cv;grind)⟩
     ·skip
      have h40:=dF h40b
      refine g_f rfl h40b<|g_f rfl h40b<|g_f rfl h40b<|Bh rfl h40b rfl<|Ae rfl<|g_f rfl rfl<|g_f rfl rfl<|g_f rfl rfl<|g_f rfl rfl<|Bh rfl rfl rfl<|Ae rfl<|g_f rfl rfl<|g_f rfl rfl<|g_f rfl rfl<|g_f rfl rfl<|Bh rfl rfl rfl<|Af rfl<|Aa<|Ad<|Aj<|Al rfl rfl<|?_
      exact ⟨(M.weaken (.cons _ (sR _))),false,rfl,(by clear M;unfold Cv;grind)⟩
  ·intro h41b
   have h41:=dF h41b
   refine Au<|Ad<|Ab<|Ab<|Ac<|Dc rfl rfl<|Af rfl<|Aa<|Ad<|Av rfl ?_ ?_
   ·intro h42b
    have h42:=dT h42b
    refine B1<|Bx<|Bx<|Ih rfl<|Bx<|Ih rfl<|Bx<|Dj<|Ad<|Ab<|Ab<|Ab<|Ac<|Ae rfl<|Ep rfl<|Bc Cf.k rfl rfl<|D4 Bq M A 4 rfl rfl rfl rfl<|Br Acs rfl rfl (Lm (s:=x.text) M (by omega))<|?_;clear M;rintro _ w M ⟨b43,rfl,hb43⟩
    refine C9 rfl<|Aa<|Ad<|Av rfl ?_ ?_
    ·intro h44b
     have h44:=Ag h44b
     have h44c:(b43)=false:=(Ag h44b)
     refine Ab<|Ac<|Af rfl<|Aa<|Ad<|Aj<|Aw<|Aw<|Bo<|Aw<|Bo<|Aw<|Bo<|Aw<|Al rfl rfl<|?_
     exact ⟨(M.weaken (.cons _ (sR _))),false,rfl,(by clear M;unfold Cv;grind)⟩
    ·intro h45b
     have h45:=Ah h45b
     have h45c:(b43)=true:=(Ah h45b)
     refine Au<|Ad<|Ac<|Bc Cf.k rfl rfl<|Fo Bq M 0 rfl rfl rfl rfl rfl rfl<|?_;clear M;intro w M
     refine Aa<|Ad<|B1<|Ih rfl<|Bx<|Ih rfl<|Bx<|Dj<|Ad<|Ab<|Ac<|Bc Cf.k rfl rfl<|Bl Bq M 0 rfl rfl rfl rfl<|F0 rfl rfl<|Ae rfl<|?_
     rcases bE (decide (x.tag=([]:List UInt8))) with h46b | h51b
     ·skip
      have h46:=dT h46b
      refine g_t rfl h46b<|Bc Cf.k rfl rfl<|g_t rfl h46b<|Bl Bq M 0 rfl rfl rfl rfl<|g_t rfl h46b<|F0 rfl rfl<|Bi rfl h46b rfl<|Ae rfl<|?_
      rcases bE (decide (x.key=([]:List UInt8))) with h47b | h50b
      ·skip
       have h47:=dT h47b
       refine g_t rfl h47b<|Bc Cf.k rfl rfl<|g_t rfl h47b<|Bl Bq M 0 rfl rfl rfl rfl<|g_t rfl h47b<|F0 rfl rfl<|Bi rfl h47b rfl<|Ae rfl<|g_t rfl (by decide)<|Bc Cf.k rfl rfl<|g_t rfl (by decide)<|Bl Fz M 0 rfl rfl rfl rfl<|g_t rfl (by decide)<|Cg Fz.k rfl<|g_t rfl (by decide)<|Dc rfl rfl<|Bi rfl (by decide) rfl<|Ae rfl<|?_
       rcases bE (decide (((x.as.length:Nat):Int)=0)) with h48b | h49b
       ·skip
        have h48:=dT h48b
        refine g_t rfl h48b<|Bc Cf.k rfl rfl<|g_t rfl h48b<|Bl F5 M 0 rfl rfl rfl rfl<|g_t rfl h48b<|Cg F5.k rfl<|g_t rfl h48b<|Dc rfl rfl<|Bi rfl h48b rfl<|Af rfl<|Aa<|Ad<|Aj<|Al rfl rfl<|?_
        exact ⟨(M.weaken (.cons _ (sR _))),(decide (((x.kids.length:Nat):Int)=0)),rfl,(by clear M;unfold Cv;grind)⟩
       ·skip
        have h49:=dF h49b
        refine g_f rfl h49b<|g_f rfl h49b<|g_f rfl h49b<|g_f rfl h49b<|Bh rfl h49b rfl<|Af rfl<|Aa<|Ad<|Aj<|Al rfl rfl<|?_
        exact ⟨(M.weaken (.cons _ (sR _))),false,rfl,(by clear M;unfold Cv;grind)⟩
      ·skip
       have h50:=dF h50b
       refine g_f rfl h50b<|g_f rfl h50b<|g_f rfl h50b<|Bh rfl h50b rfl<|Ae rfl<|g_f rfl rfl<|g_f rfl rfl<|g_f rfl rfl<|g_f rfl rfl<|Bh rfl rfl rfl<|Ae rfl<|g_f rfl rfl<|g_f rfl rfl<|g_f rfl rfl<|g_f rfl rfl<|Bh rfl rfl rfl<|Af rfl<|Aa<|Ad<|Aj<|Al rfl rfl<|?_
       exact ⟨(M.weaken (.cons _ (sR _))),false,rfl,(by clear M;unfold Cv;grind)⟩
     ·skip
      have h51:=dF h51b
      refine g_f rfl h51b<|g_f rfl h51b<|g_f rfl h51b<|Bh rfl h51b rfl<|Ae rfl<|g_f rfl rfl<|g_f rfl rfl<|g_f rfl rfl<|Bh rfl rfl rfl<|Ae rfl<|g_f rfl rfl<|g_f rfl rfl<|g_f rfl rfl<|g_f rfl rfl<|Bh rfl rfl rfl<|Ae rfl<|g_f rfl rfl<|g_f rfl rfl<|g_f rfl rfl<|g_f rfl rfl<|Bh rfl rfl rfl<|Af rfl<|Aa<|Ad<|?_
      refine Aj<|Al rfl rfl<|?_
      exact ⟨(M.weaken (.cons _ (sR _))),false,rfl,(by clear M;unfold Cv;grind)⟩
   ·intro h52b
    have h52:=dF h52b
    refine Au<|Ad<|Ab<|Ab<|Ac<|Dc rfl rfl<|Af rfl<|Aa<|Ad<|Av rfl ?_ ?_
    ·intro h53b
     have h53:=dT h53b
     refine Au<|Ad<|Bk rfl h53b<|B1<|Bx<|Ih rfl<|Bx<|Ih rfl<|Bx<|Ih rfl<|Bx<|Dj<|Ad<|B1<|Ih rfl<|Bx<|Dj<|Ad<|Ab<|Ac<|Bc Cf.k rfl rfl<|Bl Bq M 0 rfl rfl rfl rfl<|F0 rfl rfl<|Ae rfl<|?_
     rcases bE (decide (x.tag=([]:List UInt8))) with h54b | h61b
     ·skip
      have h54:=dT h54b
      refine g_t rfl h54b<|Bc Cf.k rfl rfl<|g_t rfl h54b<|Bl Bq M 0 rfl rfl rfl rfl<|g_t rfl h54b<|F0 rfl rfl<|Bi rfl h54b rfl<|Ae rfl<|?_
      rcases bE (decide (x.key=([]:List UInt8))) with h55b | h60b
      ·skip
       have h55:=dT h55b
       refine g_t rfl h55b<|Bc Cf.k rfl rfl<|g_t rfl h55b<|Bl Bq M 0 rfl rfl rfl rfl<|g_t rfl h55b<|F0 rfl rfl<|Bi rfl h55b rfl<|Ae rfl<|?_
       rcases bE (decide (x.text=([]:List UInt8))) with h56b | h59b
       ·skip
        have h56:=dT h56b
        refine g_t rfl h56b<|Bc Cf.k rfl rfl<|g_t rfl h56b<|Bl Fz M 0 rfl rfl rfl rfl<|g_t rfl h56b<|Cg Fz.k rfl<|g_t rfl h56b<|Dc rfl rfl<|Bi rfl h56b rfl<|Ae rfl<|?_
        rcases bE (decide (((x.as.length:Nat):Int)=0)) with h57b | h58b
        ·skip
         have h57:=dT h57b
         refine g_t rfl h57b<|Bc Cf.k rfl rfl<|g_t rfl h57b<|Bl F5 M 0 rfl rfl rfl rfl<|g_t rfl h57b<|Cg F5.k rfl<|g_t rfl h57b<|Dc rfl rfl<|Bi rfl h57b rfl<|Af rfl<|Aa<|Ad<|Aj<|Al rfl rfl<|?_
         exact ⟨(M.weaken (.cons _ (sR _))),(decide (((x.kids.length:Nat):Int)=0)),rfl,(by clear M;unfold Cv;grind)⟩
        ·skip
         have h58:=dF h58b
         refine g_f rfl h58b<|g_f rfl h58b<|g_f rfl h58b<|g_f rfl h58b<|Bh rfl h58b rfl<|Af rfl<|Aa<|Ad<|Aj<|Al rfl rfl<|?_
         exact ⟨(M.weaken (.cons _ (sR _))),false,rfl,(by clear M;unfold Cv;grind)⟩
       ·skip
        have h59:=dF h59b
        refine g_f rfl h59b<|g_f rfl h59b<|g_f rfl h59b<|g_f rfl h59b<|Bh rfl h59b rfl<|Ae rfl<|g_f rfl rfl<|g_f rfl rfl<|g_f rfl rfl<|g_f rfl rfl<|Bh rfl rfl rfl<|Af rfl<|Aa<|Ad<|Aj<|Al rfl rfl<|?_
        exact ⟨(M.weaken (.cons _ (sR _))),false,rfl,(by clear M;unfold Cv;grind)⟩
      ·skip
       have h60:=dF h60b
       refine g_f rfl h60b<|g_f rfl h60b<|g_f rfl h60b<|Bh rfl h60b rfl<|Ae rfl<|g_f rfl rfl<|g_f rfl rfl<|g_f rfl rfl<|g_f rfl rfl<|Bh rfl rfl rfl<|Ae rfl<|g_f rfl rfl<|g_f rfl rfl<|g_f rfl rfl<|g_f rfl rfl<|Bh rfl rfl rfl<|Af rfl<|Aa<|Ad<|Aj<|Al rfl rfl<|?_
       exact ⟨(M.weaken (.cons _ (sR _))),false,rfl,(by clear M;unfold Cv;grind)⟩
     ·skip
      have h61:=dF h61b
      refine g_f rfl h61b<|g_f rfl h61b<|g_f rfl h61b<|Bh rfl h61b rfl<|Ae rfl<|g_f rfl rfl<|g_f rfl rfl<|g_f rfl rfl<|Bh rfl rfl rfl<|Ae rfl<|g_f rfl rfl<|g_f rfl rfl<|g_f rfl rfl<|g_f rfl rfl<|Bh rfl rfl rfl<|Ae rfl<|g_f rfl rfl<|g_f rfl rfl<|g_f rfl rfl<|g_f rfl rfl<|Bh rfl rfl rfl<|Af rfl<|Aa<|Ad<|?_
      refine Aj<|Al rfl rfl<|?_
      exact ⟨(M.weaken (.cons _ (sR _))),false,rfl,(by clear M;unfold Cv;grind)⟩
    ·intro h62b
     have h62:=dF h62b
     refine Ac<|Dc rfl rfl<|Af rfl<|Aa<|Ad<|Av rfl ?_ ?_
     ·intro h63b
      have h63:=dT h63b
      refine B1<|Bx<|Ih rfl<|Bx<|Ih rfl<|Bx<|Ih rfl<|Bx<|Dj<|Ad<|B1<|Ih rfl<|Bx<|Dj<|Ad<|Ab<|Ac<|Bc Cf.k rfl rfl<|Bl Bq M 0 rfl rfl rfl rfl<|F0 rfl rfl<|Ae rfl<|?_
      rcases bE (decide (x.tag=([]:List UInt8))) with h64b | h71b
      ·skip
       have h64:=dT h64b
       refine g_t rfl h64b<|Bc Cf.k rfl rfl<|g_t rfl h64b<|Bl Bq M 0 rfl rfl rfl rfl<|g_t rfl h64b<|F0 rfl rfl<|Bi rfl h64b rfl<|Ae rfl<|?_
       rcases bE (decide (x.key=([]:List UInt8))) with h65b | h70b
       ·skip
        have h65:=dT h65b
        refine g_t rfl h65b<|Bc Cf.k rfl rfl<|g_t rfl h65b<|Bl Bq M 0 rfl rfl rfl rfl<|g_t rfl h65b<|F0 rfl rfl<|Bi rfl h65b rfl<|Ae rfl<|?_
        rcases bE (decide (x.text=([]:List UInt8))) with h66b | h69b
        ·skip
         have h66:=dT h66b
         refine g_t rfl h66b<|Bc Cf.k rfl rfl<|g_t rfl h66b<|Bl Fz M 0 rfl rfl rfl rfl<|g_t rfl h66b<|Cg Fz.k rfl<|g_t rfl h66b<|Dc rfl rfl<|Bi rfl h66b rfl<|Ae rfl<|?_
         rcases bE (decide (((x.as.length:Nat):Int)=0)) with h67b | h68b
         ·skip
          have h67:=dT h67b
          refine g_t rfl h67b<|Bc Cf.k rfl rfl<|g_t rfl h67b<|Bl F5 M 0 rfl rfl rfl rfl<|g_t rfl h67b<|Cg F5.k rfl<|g_t rfl h67b<|Dc rfl rfl<|Bi rfl h67b rfl<|Af rfl<|Aa<|Ad<|Aj<|Al rfl rfl<|?_
          exact ⟨(M.weaken (.cons _ (sR _))),(decide (((x.kids.length:Nat):Int)=0)),rfl,(by clear M;unfold Cv;grind)⟩
         ·skip
          have h68:=dF h68b
          refine g_f rfl h68b<|g_f rfl h68b<|g_f rfl h68b<|g_f rfl h68b<|Bh rfl h68b rfl<|Af rfl<|Aa<|Ad<|Aj<|Al rfl rfl<|?_
          exact ⟨(M.weaken (.cons _ (sR _))),false,rfl,(by clear M;unfold Cv;grind)⟩
        ·skip
         have h69:=dF h69b
         refine g_f rfl h69b<|g_f rfl h69b<|g_f rfl h69b<|g_f rfl h69b<|Bh rfl h69b rfl<|Ae rfl<|g_f rfl rfl<|g_f rfl rfl<|g_f rfl rfl<|g_f rfl rfl<|Bh rfl rfl rfl<|Af rfl<|Aa<|Ad<|Aj<|Al rfl rfl<|?_
         exact ⟨(M.weaken (.cons _ (sR _))),false,rfl,(by clear M;unfold Cv;grind)⟩
       ·skip
        have h70:=dF h70b
        refine g_f rfl h70b<|g_f rfl h70b<|g_f rfl h70b<|Bh rfl h70b rfl<|Ae rfl<|g_f rfl rfl<|g_f rfl rfl<|g_f rfl rfl<|g_f rfl rfl<|Bh rfl rfl rfl<|Ae rfl<|g_f rfl rfl<|g_f rfl rfl<|g_f rfl rfl<|g_f rfl rfl<|Bh rfl rfl rfl<|Af rfl<|Aa<|Ad<|Aj<|Al rfl rfl<|?_
        exact ⟨(M.weaken (.cons _ (sR _))),false,rfl,(by clear M;unfold Cv;grind)⟩
      ·skip
       have h71:=dF h71b
       refine g_f rfl h71b<|g_f rfl h71b<|g_f rfl h71b<|Bh rfl h71b rfl<|Ae rfl<|g_f rfl rfl<|g_f rfl rfl<|g_f rfl rfl<|Bh rfl rfl rfl<|Ae rfl<|g_f rfl rfl<|g_f rfl rfl<|g_f rfl rfl<|g_f rfl rfl<|Bh rfl rfl rfl<|Ae rfl<|g_f rfl rfl<|g_f rfl rfl<|g_f rfl rfl<|g_f rfl rfl<|Bh rfl rfl rfl<|Af rfl<|Aa<|Ad<|?_
       refine Aj<|Al rfl rfl<|?_
       exact ⟨(M.weaken (.cons _ (sR _))),false,rfl,(by clear M;unfold Cv;grind)⟩
     ·intro h72b
      have h72:=dF h72b
      refine Au<|Ad<|B1<|Ih rfl<|Bx<|Ih rfl<|Bx<|Ih rfl<|Bx<|Ih rfl<|Bx<|Dj<|Ad<|Ab<|Ab<|Ac<|Af rfl<|Aa<|Ad<|Aj<|Aw<|Bo<|Aw<|Al rfl rfl<|?_
      exact ⟨(M.weaken (.cons _ (sR _))),false,rfl,(by clear M;unfold Cv;grind)⟩
open Go Go.Y Go.Proofs
variable {w0 w:World} {G:A4} {L:List Res}
set_option linter.unusedSimpArgs false
set_option linter.unusedVariables false
/-- What the function that is called for each part does: it takes a state further. -/
structure FEff (w0:World) (ff:FuncId) (caps:List Value) {σ:Type} (Rs:σ→List Res) (stp:σ→PT→σ):Prop where
 ent:Ent Tryz.prog ff
 run:∀ {w:World} {G:A4} {L:List Res} {nb no:Nat} {s:σ} {x:PT} {ta ka:Option Addr} {tc kc:Nat},Mem w0 G (Rs s++L) w→A2 .u8 x.kind→(x.tag.length≤9223372036854775807∧x.key.length≤9223372036854775807∧x.text.length≤9223372036854775807)→Ay rdSlot 3 G (.slice ta x.as.length tc) x.as→Ay rdP 6 G (.slice ka x.kids.length kc) x.kids→At G nb no [.int .u8 x.kind,.string (str x.tag),.string (str x.key),.slice ta x.as.length tc,.string (str x.text),.slice ka x.kids.length kc]→Cv x →
  Calls Tryz.prog ff (.pointer (some ⟨nb,no,none⟩)::caps).toArray w (J7 w0 G fun L' v=>v=.tuple #[]∧L' = Rs (stp s x)++L)
def WalkP (w0:World) (ff:FuncId) (caps:List Value) {σ:Type} (Rs:σ→List Res) (stp:σ→PT→σ) (x:PT):Prop:=∀ (w:World) (G:A4) (L:List Res) (cb fb eb nb no c lev:Nat) (s:σ) (ta ka:Option Addr) (tc kc:Nat),Mem w0 G (.blk cb [.int .i64 ((c:Nat):Int)] 3::.blk fb [.func (.func ff) #[] caps.toArray] 286::.blk eb [.func (.func 227) #[] #[.pointer (some ⟨cb,0,none⟩),.pointer (some ⟨fb,0,none⟩),.pointer (some ⟨eb,0,none⟩)]] 297::(Rs s++L)) w →
  A2 .u8 x.kind→(x.tag.length≤9223372036854775807∧x.key.length≤9223372036854775807∧x.text.length≤9223372036854775807)→Ay rdSlot 3 G (.slice ta x.as.length tc) x.as→Ay rdP 6 G (.slice ka x.kids.length kc) x.kids→At G nb no [.int .u8 x.kind,.string (str x.tag),.string (str x.key),.slice ta x.as.length tc,.string (str x.text),.slice ka x.kids.length kc]→c≤64→1≤lev→lev≤7→Calls Tryz.prog 227 #[.pointer (some ⟨nb,no,none⟩),.int .i64 (lev:Int),.pointer (some ⟨cb,0,none⟩),.pointer (some ⟨fb,0,none⟩),.pointer (some ⟨eb,0,none⟩)] w (J7 w0 G fun L' v=>∃ (bb:Bool) (c':Nat) (s':σ),v=.bool bb∧L' = (.blk cb [.int .i64 ((c':Nat):Int)] 3::.blk fb [.func (.func ff) #[] caps.toArray] 286::.blk eb [.func (.func 227) #[] #[.pointer (some ⟨cb,0,none⟩),.pointer (some ⟨fb,0,none⟩),.pointer (some ⟨eb,0,none⟩)]] 297::(Rs s'++L))∧(bb=true↔Tr.Ok Cv (7 - lev) x∧c+x.size≤64)∧(bb=true→c' = c+x.size∧s' = Rj stp s x))
theorem tw_step {w0:World} {ff:FuncId} {caps:List Value} {σ:Type} {Rs:σ→List Res} {stp:σ→PT→σ} (hF:FEff w0 ff caps Rs stp) {x:PT} (ih:∀ y∈x.kids,WalkP w0 ff caps Rs stp y) {w:World} {G:A4} {L:List Res} {cb fb eb nb no c lev:Nat} {s:σ} {ta ka:Option Addr} {tc kc:Nat} (M:Mem w0 G (.blk cb [.int .i64 ((c:Nat):Int)] 3::.blk fb [.func (.func ff) #[] caps.toArray] 286::.blk eb [.func (.func 227) #[] #[.pointer (some ⟨cb,0,none⟩),.pointer (some ⟨fb,0,none⟩),.pointer (some ⟨eb,0,none⟩)]] 297::(Rs s++L)) w) (hk:A2 .u8 x.kind) (hl:(x.tag.length≤9223372036854775807∧x.key.length≤9223372036854775807∧x.text.length≤9223372036854775807))
  (SA:Ay rdSlot 3 G (.slice ta x.as.length tc) x.as) (SK:Ay rdP 6 G (.slice ka x.kids.length kc) x.kids) (A:At G nb no [.int .u8 x.kind,.string (str x.tag),.string (str x.key),.slice ta x.as.length tc,.string (str x.text),.slice ka x.kids.length kc]) (hc:c≤64) (hl1:1≤lev) (hl2:lev≤7) :
  Calls Tryz.prog 227 #[.pointer (some ⟨nb,no,none⟩),.int .i64 (lev:Int),.pointer (some ⟨cb,0,none⟩),.pointer (some ⟨fb,0,none⟩),.pointer (some ⟨eb,0,none⟩)] w (J7 w0 G fun L' v=>∃ (bb:Bool) (c':Nat) (s':σ),v=.bool bb∧L' = (.blk cb [.int .i64 ((c':Nat):Int)] 3::.blk fb [.func (.func ff) #[] caps.toArray] 286::.blk eb [.func (.func 227) #[] #[.pointer (some ⟨cb,0,none⟩),.pointer (some ⟨fb,0,none⟩),.pointer (some ⟨eb,0,none⟩)]] 297::(Rs s'++L))∧(bb=true↔Tr.Ok Cv (7 - lev) x∧c+x.size≤64)∧(bb=true→c' = c+x.size∧s' = Rj stp s x)):=by
 refine Az (vs:=[_,_,_,_,_]) Tryz.func227 rfl (n:=45) rfl rfl<|Ab<|Ac<|Af rfl<|Aa<|Ad<|Ab<|Ac<|Bl B7 M 0 rfl rfl rfl rfl<|B9 rfl rfl<|Fo B7 M 0 rfl rfl rfl rfl rfl rfl<|?_;clear M;intro w M
 refine Aa<|Ad<|Ab<|Ab<|Ac<|Ae rfl<|Dn rfl rfl<|Ae rfl<|?_
 rcases bE (decide (6 < (lev:Int))) with h1b | h2b
 ·skip
  have h1:=dT h1b
  refine g_f rfl h1b<|g_f rfl h1b<|Bi rfl h1b rfl<|Ae rfl<|g_f rfl rfl<|g_f rfl rfl<|g_f rfl rfl<|Bi rfl rfl rfl<|Aa<|Ad<|Bk rfl rfl<|Ab<|Ac<|Af rfl<|Aa<|Ad<|Aj<|Aw<|Al rfl rfl<|?_
  replace M:=M.perm (Ao _ 2 _ rfl)
  replace M:=M.perm (Ao _ 2 _ rfl)
  replace M:=M.perm (Ao _ 2 _ rfl)
  change Mem w0 G (.blk cb [.int .i64 (((c:Nat):Int)+1)] 3::_::_::(Rs s++L)) _ at M
  exact ⟨_,M,false,_,_,rfl,rfl,⟨fun h_=>(by cases h_),fun h_=>absurd h_ (Ki (by clear M;grind))⟩,fun h_=>(by cases h_)⟩
 ·skip
  have h2:=dF h2b
  refine g_t rfl h2b<|Bl B7 M 0 rfl rfl rfl rfl<|g_t rfl h2b<|Dn rfl rfl<|Bh rfl h2b rfl<|Ae rfl<|?_
  rcases bE (decide (64 < ((c:Nat):Int)+1)) with h3b | h4b
  ·skip
   have h3:=dT h3b
   refine g_f rfl h3b<|g_f rfl h3b<|g_f rfl h3b<|Bi rfl h3b rfl<|Aa<|Ad<|Bk rfl rfl<|Ab<|Ac<|Af rfl<|Aa<|Ad<|Aj<|Aw<|Al rfl rfl<|?_
   replace M:=M.perm (Ao _ 2 _ rfl)
   replace M:=M.perm (Ao _ 2 _ rfl)
   replace M:=M.perm (Ao _ 2 _ rfl)
   change Mem w0 G (.blk cb [.int .i64 (((c:Nat):Int)+1)] 3::_::_::(Rs s++L)) _ at M
   exact ⟨_,M,false,_,_,rfl,rfl,⟨fun h_=>(by cases h_),fun h_=>absurd h_ (Ki (by clear M;grind))⟩,fun h_=>(by cases h_)⟩
  ·skip
   have h4:=dF h4b
   refine g_t rfl h4b<|Ae rfl<|g_t rfl h4b<|Br ent228 rfl rfl (X7 (x:=x) M hk hl SA SK A)<|?_;clear M;rintro _ w M ⟨b5,rfl,hb5⟩
   refine g_t rfl h4b<|C9 rfl<|Bh rfl h4b rfl<|Aa<|Ad<|Av rfl ?_ ?_
   ·intro h6b
    have h6:=Ag h6b
    have h6c:(b5)=false:=(Ag h6b)
    refine Ab<|Ac<|Af rfl<|Aa<|Ad<|Aj<|Aw<|Al rfl rfl<|?_
    replace M:=M.perm (Ao _ 2 _ rfl)
    replace M:=M.perm (Ao _ 2 _ rfl)
    replace M:=M.perm (Ao _ 2 _ rfl)
    change Mem w0 G (.blk cb [.int .i64 (((c:Nat):Int)+1)] 3::_::_::(Rs s++L)) _ at M
    exact ⟨_,M,false,_,_,rfl,rfl,⟨fun h_=>(by cases h_),fun h_=>absurd h_ (Ki (by clear M;grind))⟩,fun h_=>(by cases h_)⟩
   ·intro h7b
    have h7:=Ah h7b
    have h7c:(b5)=true:=(Ah h7b)
    refine Au<|Ad<|Ab<|?_
    have hAl:Cv x:=by clear M;grind
    have hl6:lev≤6:=by omega
    have hkl:=T3 hAl
    refine Ac<|Bl tok286 M 1 rfl rfl rfl rfl<|Ae rfl<|?_
    replace M:=M.perm (Ao _ 2 _ rfl)
    replace M:=M.perm (Ao _ 2 _ rfl)
    replace M:=M.perm (Ao _ 2 _ rfl)
    change Mem w0 G (.blk cb [.int .i64 (((c:Nat):Int)+1)] 3::_::_::(Rs s++L)) _ at M
    replace M:=M.perm (Vc _ _)
    intro a F
    refine Po F hF.ent (caps:=caps) rfl rfl rfl (hF.run (s:=s) (x:=x) M hk hl SA SK A hAl) ?_;clear F M a;rintro _ _ w a M ⟨rfl,rfl⟩ F
    replace M:=M.perm (Vc _ _).symm
    revert a
    refine Aa<|Ad<|Ab<|Ab<|Ac<|Ae rfl<|Ep rfl<|Bc Cf.k rfl rfl<|D4 F5 M A 5 rfl rfl rfl rfl<|Cg F5.k rfl<|Ae rfl<|Aa<|Ad<|A3<|fun a F=>B8 (fun m a' w'=>∃ (i:Nat),∃ (ci:Nat),∃ (si:σ),m=x.kids.length - i∧Fits 45 a' [(0,.pointer (some ⟨nb,no,none⟩)),(1,.int .i64 ((lev:Int))),(2,.pointer (some ⟨cb,0,none⟩)),(3,.pointer (some ⟨fb,0,none⟩)),(4,.pointer (some ⟨eb,0,none⟩)),(28,.slice ka x.kids.length kc),(29,.int .i64 ((x.kids.length:Nat):Int)),(30,.int .i64 ((i:Nat):Int))]∧Mem w0 G (.blk cb [.int .i64 ((ci:Nat):Int)] 3::.blk fb [.func (.func ff) #[] caps.toArray] 286::.blk eb [.func (.func 227) #[] #[.pointer (some ⟨cb,0,none⟩),.pointer (some ⟨fb,0,none⟩),.pointer (some ⟨eb,0,none⟩)]] 297::(Rs si++L)) w'∧(i≤x.kids.length)∧(ci=c+1+Tr.sizes (x.kids.take i)∧ci≤64)∧(si=H7 stp (stp s x) (x.kids.take i))∧(∀ (m:Nat) (y:PT),m < i→x.kids[m]?=some y→Tr.Ok Cv (7 - (lev+1)) y)) _ ⟨0,c+1,(stp s x),rfl,F.to ⟨rfl,rfl,rfl,rfl,rfl,rfl,rfl,rfl,trivial⟩,M,Nat.zero_le _,⟨by simp [Tr.sizes],by omega⟩,by simp [H7],fun m y h=>by omega⟩ ?_
    clear F M
    rintro m a w ⟨i,ci,si,rfl,F,M,hi,hci,hsi,hO⟩
    revert a
    refine Ab<|Ac<|Df rfl rfl<|Aa<|Ad<|Ab<|Av rfl ?_ ?_
    ·intro h8b
     have h8:=dT h8b
     refine Au<|Ad<|Ab<|A3<|Ab<|Ac<|Ae rfl<|Af rfl<|Aa<|Ad<|Ab<|fun a F=>Fm [(.pure,0),(.free,1),(.free,2),(.free,3),(.pure,4),(.free,5),(.free,6),(.free,7),(.free,8),(.keep,9),(.free,10)] [] (Keep G [.blk eb [.func (.func 227) #[] #[.pointer (some ⟨cb,0,none⟩),.pointer (some ⟨fb,0,none⟩),.pointer (some ⟨eb,0,none⟩)]] 297]) rfl (by kernel_rfl) (fun c a d v w h=>by cases d <;> exact h) ((M.drew _).keep (Gle.refl _) (by simp)) ?_
     replace M:=M.drew (w.drawn+1)
     revert a
     refine k_p (fun a F w M=>Aq (agf Wm rfl) (F.ev rfl) (M.cellL (k:=0) rfl rfl)) rfl<|k_f (fun a F w _=>Cj F rfl) rfl<|k_f (fun a F w _=>D3 (F.ev rfl)) rfl<|k_f (fun a F w _=>Co Cf.k rfl F rfl) rfl<|k_p (fun a F w M=>Aq (agf F5 rfl) (F.ev rfl) (M.cellA A 5 rfl rfl)) rfl<|k_f (fun a F w _=>Cj F rfl) rfl<|?_
     obtain ⟨Xe9,hXe9⟩:=Be (xs:=x.kids) (i:=i) (by omega)
     obtain ⟨be9,oe9,_,Ie9,_,Ae9,hTe9⟩:=SK.at hXe9
     obtain ⟨tae9,tce9,kae9,kce9,rfl,hke9,hle9,SAe9,SKe9⟩:=F1 hTe9
     refine k_f (fun a F w _=>Ca F5.k Cf (F.ev rfl) (F.ev rfl) (by omega) Ie9) rfl<|k_f (fun a F w _=>Cj F rfl) rfl<|k_f (fun a F w _=>Fj (F.ev rfl) (F.ev rfl) (Cr (by omega) (by omega))) rfl<|k_k rfl<|?_
     replace M:=M.perm (Ao _ 2 _ rfl)
     replace M:=M.perm (Ao _ 2 _ rfl)
     replace M:=M.perm (Ao _ 2 _ rfl)
     change Mem w0 G (_::_::_::(Rs si++L)) _ at M
     refine s_vL Alr (caps:=[.pointer (some ⟨cb,0,none⟩),.pointer (some ⟨fb,0,none⟩),.pointer (some ⟨eb,0,none⟩)]) rfl rfl rfl (ih Xe9 (List.mem_of_getElem? hXe9) _ _ L _ _ _ _ _ ci (lev+1) si _ _ _ _ M hke9 hle9 SAe9 SKe9 Ae9 (by omega) (by omega) (by omega))<|?_;clear M;rintro _ _ w M ⟨b10,cb10,sb10,rfl,rfl,hb10,eb10⟩
     refine Aa<|eK (C':=Keep G [.blk eb [.func (.func 227) #[] #[.pointer (some ⟨cb,0,none⟩),.pointer (some ⟨fb,0,none⟩),.pointer (some ⟨eb,0,none⟩)]] 297]) (M.keep (Gle.refl _) (by simp)) (fun w h=>h.mono (Gle.refl _) (by simp))<|k_f (fun a F w _=>Gn (F.ev rfl)) rfl<|D1<|Ad<|Av rfl ?_ ?_
     ·intro h11b
      have h11:=Ag h11b
      have h11c:(b10)=false:=(Ag h11b)
      refine Ab<|Ac<|Af rfl<|Aa<|Ad<|Aj<|Bo<|Aw<|Aw<|Bo<|Aw<|Al rfl rfl<|?_
      replace M:=M.perm (Ao _ 2 _ rfl)
      replace M:=M.perm (Ao _ 2 _ rfl)
      replace M:=M.perm (Ao _ 2 _ rfl)
      change Mem w0 G (_::_::_::(Rs sb10++L)) _ at M
      exact ⟨_,M,false,_,_,rfl,rfl,⟨fun h_=>(by cases h_),fun h_=>absurd h_ (Qr hXe9 hl6 (by rw [← hci.1];exact fun h_=>by have h9:=hb10.2 h_;simp_all))⟩,fun h_=>(by cases h_)⟩
     ·intro h12b
      have h12:=Ah h12b
      have h12c:(b10)=true:=(Ah h12b)
      refine Au<|C0<|Ad<|Ac<|B9 rfl rfl<|Ae rfl<|Aa<|Ad<|?_
      have hq:=hb10.1 (by assumption)
      obtain ⟨hc2,hd2⟩:=eb10 (by assumption)
      have hs2:=Tr.sizes_snoc hXe9
      intro a F
      exact ⟨_,by omega,i+1,cb10,sb10,rfl,F.to ⟨rfl,rfl,rfl,rfl,rfl,rfl,rfl,rfl,trivial⟩,M,by omega,by omega,by rw [X0 stp hXe9,← hsi];exact hd2,W9 hO hXe9 hq.1⟩
    ·intro h13b
     have h13:=dF h13b
     refine B1<|Bx<|Bx<|Dj<|Ad<|Ab<|Ac<|Af rfl<|Aa<|Ad<|Aj<|Al rfl rfl<|?_
     replace M:=M.perm (Ao _ 2 _ rfl)
     replace M:=M.perm (Ao _ 2 _ rfl)
     replace M:=M.perm (Ao _ 2 _ rfl)
     change Mem w0 G (_::_::_::(Rs si++L)) _ at M
     have hf:=Kv (x:=x) (i:=i) (by omega)
     rw [List.take_of_length_le (by omega)] at hsi
     exact ⟨_,M,true,_,_,rfl,rfl,⟨fun _=>⟨Zh hl6 hAl (by omega) hO,by omega⟩,fun _=>rfl⟩,fun _=>⟨by omega,by rw [Aig];exact hsi⟩⟩
theorem tw_all {w0:World} {ff:FuncId} {caps:List Value} {σ:Type} {Rs:σ→List Res} {stp:σ→PT→σ} (hF:FEff w0 ff caps Rs stp) (x:PT):WalkP w0 ff caps Rs stp x:=by
 induction x using Tr.ind with
 | _ x ih=>intro w G L cb fb eb nb no c lev s ta ka tc kc M hk hl SA SK A hc hl1 hl2;exact tw_step hF ih M hk hl SA SK A hc hl1 hl2
theorem Aao {w0:World} {ff:FuncId} {caps:List Value} {σ:Type} {Rs:σ→List Res} {stp:σ→PT→σ} (hF:FEff w0 ff caps Rs stp) {x:PT} {w:World} {G:A4} {L:List Res} {nb no:Nat} {s:σ} {ta ka:Option Addr} {tc kc:Nat} (M:Mem w0 G (Rs s++L) w) (hk:A2 .u8 x.kind) (hl:(x.tag.length≤9223372036854775807∧x.key.length≤9223372036854775807∧x.text.length≤9223372036854775807))
  (SA:Ay rdSlot 3 G (.slice ta x.as.length tc) x.as) (SK:Ay rdP 6 G (.slice ka x.kids.length kc) x.kids) (A:At G nb no [.int .u8 x.kind,.string (str x.tag),.string (str x.key),.slice ta x.as.length tc,.string (str x.text),.slice ka x.kids.length kc]) :
  Calls Tryz.prog 212 #[.pointer (some ⟨nb,no,none⟩),.func (.func ff) #[] caps.toArray] w (J7 w0 G fun L' v=>∃ (k:Nat) (s':σ),v=.int .i64 (k:Int)∧L' = (Rs s'++L)∧k=cntP x∧(ValidP x→s' = Rj stp s x)):=by
 refine Az (vs:=[_,_]) Tryz.func212 rfl (n:=18) rfl rfl<|Ab<|Ac<|C4 M rfl rfl rfl<|?_;clear M;intro b1 w M
 refine Af rfl<|Aa<|Ad<|Ab<|Ab<|Ac<|Ae rfl<|Ep rfl<|Bc Cf.k rfl rfl<|D4 Ew M A 0 rfl rfl rfl rfl<|D9 rfl rfl<|Aa<|Ad<|Av rfl ?_ ?_
 ·intro h2b
  have h2:=dF (Ag h2b)
  have h2c:(decide (x.kind=1))=false:=(Ag h2b)
  refine Ab<|Ac<|Af rfl<|Aa<|Ad<|Aj<|Aw<|Al rfl rfl<|?_
  have hV:¬ ValidP x:=fun h_=>by have:=h_.1;omega
  exact ⟨_,M.weaken (.cons _ (sR _)),0,s,rfl,rfl,(Xt hV).symm,fun h_=>absurd h_ hV⟩
 ·intro h3b
  have h3:=dT (Ah h3b)
  have h3c:(decide (x.kind=1))=true:=(Ah h3b)
  refine Au<|Ad<|Ab<|Ac<|Cz M B7 rfl rfl<|?_;clear M;intro b4 w M
  refine Fo B7 M 0 rfl rfl rfl rfl rfl rfl<|?_;clear M;intro w M
  refine Aa<|Ad<|Ab<|Ac<|Cz M Wm rfl rfl<|?_;clear M;intro b6 w M
  refine Aa<|Ad<|Ab<|Ac<|Ap (fun a F=>Dk (vs:=#[.pointer (some ⟨b4,0,none⟩),.pointer (some ⟨b1,0,none⟩),.pointer (some ⟨b6,0,none⟩)]) (by simp only [List.map_toArray,List.map_cons,List.map_nil,F.ev (x:=.tmp 5) rfl,F.ev (x:=.tmp 3) rfl,F.ev (x:=.tmp 6) rfl])) rfl<|Fo Wm M 0 rfl rfl rfl rfl rfl rfl<|?_;clear M;intro w M
  refine Aa<|Ad<|Ab<|Ab<|Ac<|Bl Wm M 0 rfl rfl rfl rfl<|Ae rfl<|?_
  replace M:=M.perm (Ao _ 2 _ rfl)
  replace M:=M.perm (Ao _ 2 _ rfl)
  change Mem w0 G (.blk b4 [.int .i64 0] 3::_::.blk b6 [.func (.func 227) #[] #[.pointer (some ⟨b4,0,none⟩),.pointer (some ⟨b1,0,none⟩),.pointer (some ⟨b6,0,none⟩)]] 297::(Rs s++L)) _ at M
  refine s_vL Alr (caps:=[.pointer (some ⟨b4,0,none⟩),.pointer (some ⟨b1,0,none⟩),.pointer (some ⟨b6,0,none⟩)]) rfl rfl rfl (tw_all hF x _ _ L _ _ _ _ _ 0 1 s _ _ _ _ M hk hl SA SK A (by omega) (by omega) (by omega))<|?_;clear M;rintro _ _ w M ⟨b8,cb8,sb8,rfl,rfl,hb8,eb8⟩
  refine C9 rfl<|Aa<|Ad<|Av rfl ?_ ?_
  ·intro h9b
   have h9:=Ag h9b
   have h9c:(b8)=false:=(Ag h9b)
   refine Ab<|Ac<|Af rfl<|Aa<|Ad<|Aj<|Aw<|Al rfl rfl<|?_
   have hV:¬ ValidP x:=fun h_=>by have h9:=hb8.2 ⟨h_.2.1,by have:=h_.2.2;omega⟩;simp_all
   exact ⟨_,M.weaken (.cons _ (.cons _ (.cons _ (sR _)))),0,_,rfl,rfl,(Xt hV).symm,fun h_=>absurd h_ hV⟩
  ·intro h10b
   have h10:=Ah h10b
   have h10c:(b8)=true:=(Ah h10b)
   refine Au<|Ad<|Ab<|Ac<|Bl B7 M 0 rfl rfl rfl rfl<|Af rfl<|Aa<|Ad<|Aj<|Al rfl rfl<|?_
   have hq:=hb8.1 (by assumption)
   have hV:ValidP x:=⟨by omega,hq.1,by omega⟩
   obtain ⟨hc2,hd2⟩:=eb8 (by assumption)
   exact ⟨_,M.weaken (.cons _ (.cons _ (.cons _ (sR _)))),_,_,rfl,rfl,by rw [Z6 hV];omega,fun _=>hd2⟩
theorem Aba (M:Mem w0 G L w) {v:Value}:Calls Tryz.prog 213 #[v] w (J7 w0 G fun L' v=>v=.tuple #[]∧L' = L):=by
 refine Az (vs:=[_]) Tryz.func213 rfl (n:=2) rfl rfl<|Au<|fun a F=>Alf F rfl ?_
 exact ⟨_,M,rfl,rfl⟩
theorem Acm {w0:World}:FEff w0 213 [] (fun _:Unit=>[]) (fun _ _=>()):=⟨ent213,fun M _ _ _ _ _ _=>Aba M⟩
theorem Aaz (M:Mem w0 G L w) {x:PT} {ta:Option Addr} {tc:Nat} {ka:Option Addr} {kc:Nat} (hk:A2 .u8 x.kind) (hl:(x.tag.length≤9223372036854775807∧x.key.length≤9223372036854775807∧x.text.length≤9223372036854775807)) (SA:Ay rdSlot 3 G (.slice ta x.as.length tc) x.as) (SK:Ay rdP 6 G (.slice ka x.kids.length kc) x.kids):Calls Tryz.prog 189 #[.agg #[.int .u8 x.kind,.string (str x.tag),.string (str x.key),.slice ta x.as.length tc,.string (str x.text),.slice ka x.kids.length kc]] w (Ret w0 G L fun _ v=>v=.int .i64 ((cntP x:Nat):Int)):=by
 refine Az (vs:=[_]) Tryz.func189 rfl (n:=4) rfl rfl<|Ab<|Ac<|C4 M rfl rfl rfl<|?_;clear M;intro b1 w M
 refine Af rfl<|Aa<|Ad<|Ab<|?_
 obtain ⟨Gq2,hGq2,hbq2,M⟩:=M.freeze (k:=0) rfl
 have Aq2:At Gq2 b1 0 [.int .u8 x.kind,.string (str x.tag),.string (str x.key),.slice ta x.as.length tc,.string (str x.text),.slice ka x.kids.length kc]:=At.of_cells hbq2
 clear hbq2
 replace SA:=SA.mono Fc hGq2
 replace SK:=SK.mono mono_rdP hGq2
 change Mem w0 Gq2 (L) _ at M
 refine Ac<|?_
 change Mem w0 Gq2 (L) _ at M
 refine Pi ent212 rfl rfl (Aao Acm (x:=x) (s:=()) (L:=L) M hk hl SA SK Aq2)<|?_;clear M;rintro _ _ w M ⟨k3,sk3,rfl,hLk3,hk3,ek3⟩
 intro a F
 rw [hLk3] at M;clear hLk3
 replace M:Mem w0 Gq2 (L) _:=M
 revert a
 refine Af rfl<|Aa<|Ad<|Aj<|Al rfl rfl<|?_
 exact ⟨_,hGq2,M.weaken (sR _),by rw [hk3]⟩
theorem X6 (M:Mem w0 G L w) {x:PT} {ta:Option Addr} {tc:Nat} {ka:Option Addr} {kc:Nat} (hk:A2 .u8 x.kind) (hl:(x.tag.length≤9223372036854775807∧x.key.length≤9223372036854775807∧x.text.length≤9223372036854775807)) (SA:Ay rdSlot 3 G (.slice ta x.as.length tc) x.as) (SK:Ay rdP 6 G (.slice ka x.kids.length kc) x.kids):Calls Tryz.prog 189 #[.agg #[.int .u8 x.kind,.string (str x.tag),.string (str x.key),.slice ta x.as.length tc,.string (str x.text),.slice ka x.kids.length kc]] w (Cl w0 G L fun v=>v=.int .i64 ((cntP x:Nat):Int)):=Ret.plain M (Aaz M hk hl SA SK)
theorem tcheck_spec (M:Mem w0 G L w) {x:PT} {ta:Option Addr} {tc:Nat} {ka:Option Addr} {kc:Nat} (hk:A2 .u8 x.kind) (hl:(x.tag.length≤9223372036854775807∧x.key.length≤9223372036854775807∧x.text.length≤9223372036854775807)) (SA:Ay rdSlot 3 G (.slice ta x.as.length tc) x.as) (SK:Ay rdP 6 G (.slice ka x.kids.length kc) x.kids):Calls Tryz.prog 155 #[.agg #[.int .u8 x.kind,.string (str x.tag),.string (str x.key),.slice ta x.as.length tc,.string (str x.text),.slice ka x.kids.length kc]] w (Cl w0 G L fun v=>v=.int .i64 (Z9 x)):=by
 refine Az (vs:=[_]) Tryz.func155 rfl (n:=6) rfl rfl<|Ab<|Ac<|C4 M rfl rfl rfl<|?_;clear M;intro b1 w M
 refine Af rfl<|Aa<|Ad<|Ab<|Ab<|Ac<|Ap (fun a F=>Am Cf rfl (F.ev rfl) (cs:=[.int .u8 x.kind,.string (str x.tag),.string (str x.key),.slice ta x.as.length tc,.string (str x.text),.slice ka x.kids.length kc]) rfl (M.cellsL (k:=0) rfl rfl)) rfl<|Br ent189 rfl rfl (X6 (x:=x) M hk hl SA SK)<|?_;clear M;rintro _ w M rfl
 refine Dc rfl rfl<|Aa<|Ad<|Av rfl ?_ ?_
 ·intro h2b
  have h2:=dT h2b
  refine Ab<|Ac<|Af rfl<|Aa<|Ad<|Aj<|Aw<|Al rfl rfl<|?_
  exact ⟨M.weaken (.cons _ (sR _)),by rw [Aey fun h_=>by have:=Z7.2 h_;omega]⟩
 ·intro h3b
  have h3:=dF h3b
  refine Au<|Ad<|Ab<|Ac<|Af rfl<|Aa<|Ad<|Aj<|Al rfl rfl<|?_
  exact ⟨M.weaken (.cons _ (sR _)),by rw [Amt (Z7.1 (by omega))]⟩
open Go Go.Y Go.Proofs
variable {w0 w:World} {G:A4} {L:List Res}
set_option linter.unusedSimpArgs false
set_option linter.unusedVariables false
theorem Ams (M:Mem w0 G L w) {s:List UInt8} (hs:s.length≤9223372036854775807):Calls Tryz.prog 215 #[.string (str s)] w (Cl w0 G L fun v=>∃ b:Bool,v=.bool b∧(b=true↔¬ Dd s)):=by
 refine Az (vs:=[_]) Tryz.func215 rfl (n:=6) rfl rfl<|Ab<|Ac<|Af rfl<|Aa<|Ad<|Ab<|Ac<|Ae rfl<|Br P5 rfl rfl (Hh (s:=s) M (by assumption))<|?_;clear M;rintro _ w M ⟨b1,rfl,hb1⟩
 refine C9 rfl<|Af rfl<|Aa<|Ad<|Aj<|Al rfl rfl<|?_
 exact ⟨M,(!(b1)),rfl,(by clear M;grind)⟩
theorem P0 (M:Mem w0 G L w) {ad:Option Addr} {cd:Nat} {xs:List (List UInt8)} (S:Ay Dw 1 G (.slice ad xs.length cd) xs):Calls Tryz.prog 104 #[.slice ad xs.length cd,.func (.func 215) #[] #[]] w (Cl w0 G L fun v=>∃ z:Int,v=.int .i64 z∧(0≤z↔¬ ∀ s∈xs,Dd s)):=by
 have bS:=S.bound
 refine Az (vs:=[_,_]) Tryz.func104 rfl (n:=19) rfl rfl<|Ab<|Ac<|Af rfl<|Aa<|Ad<|Ab<|Ab<|Ac<|Ae rfl<|Cg Cd.k rfl<|Ae rfl<|Aa<|Ad<|A3<|fun a F=>B8 (fun m a' w'=>∃ (i:Nat),m=xs.length - i∧Fits 19 a' [(0,.slice ad xs.length cd),(1,.func (.func 215) #[] #[]),(7,.int .i64 ((xs.length:Nat):Int)),(8,.int .i64 ((i:Nat):Int))]∧Mem w0 G (L) w'∧(i≤xs.length)∧(∀ (m:Nat) (s:List UInt8),m < i→xs[m]?=some s→Dd s)) _ ⟨0,rfl,F.to ⟨rfl,rfl,rfl,rfl,trivial⟩,M,Nat.zero_le _,fun m d h=>by omega⟩ ?_
 clear F M
 rintro m a w ⟨i,rfl,F,M,hi,hA⟩
 revert a
 refine Ab<|Ac<|Df rfl rfl<|Aa<|Ad<|Ab<|Av rfl ?_ ?_
 ·intro h1b
  have h1:=dT h1b
  refine Au<|Ad<|Ab<|A3<|Ab<|Ac<|Ae rfl<|Af rfl<|Aa<|Ad<|Ab<|Ac<|Ae rfl<|Ae rfl<|Ae rfl<|?_
  obtain ⟨Xe2,hXe2⟩:=Be (xs:=xs) (i:=i) (by omega)
  obtain ⟨be2,oe2,_,Ie2,_,Ae2,⟨rfl,hsle2⟩⟩:=S.at hXe2
  refine Fp Cd.k Bq Ie2 rfl rfl<|D4 Bq M Ae2 0 rfl rfl (by omega) rfl<|Abg ent215 (caps:=[]) rfl rfl rfl (Ams (s:=Xe2) M (by omega))<|?_;clear M;rintro _ w M ⟨b3,rfl,hb3⟩
  refine Aa<|Ad<|Av rfl ?_ ?_
  ·intro h4b
   have h4:(b3)=true:=h4b
   refine Ab<|Ac<|Ae rfl<|Af rfl<|Aa<|Ad<|Aj<|Bo<|Aw<|Aw<|Bo<|Aw<|Al rfl rfl<|?_
   exact ⟨M,_,rfl,⟨fun _ h_=>(hb3.1 (by assumption)) (h_ _ (List.mem_of_getElem? hXe2)),fun _=>by omega⟩⟩
  ·intro h5b
   have h5:(b3)=false:=h5b
   refine Au<|C0<|Ad<|Ac<|B9 rfl rfl<|Ae rfl<|Aa<|Ad<|fun a F=>?_
   exact ⟨_,by omega,i+1,rfl,F.to ⟨rfl,rfl,rfl,rfl,trivial⟩,M,by omega,Pq hA hXe2 (by clear F M;grind)⟩
 ·intro h6b
  have h6:=dF h6b
  refine B1<|Bx<|Bx<|Dj<|Ad<|Ab<|Ac<|Af rfl<|Aa<|Ad<|Aj<|Al rfl rfl<|?_
  exact ⟨M,_,rfl,⟨fun h=>by omega,fun h=>absurd (Gs hA (by omega)) h⟩⟩
theorem N7 (M:Mem w0 G L w) {ad:Option Addr} {cd:Nat} {xs:List (List UInt8)} (S:Ay Dw 1 G (.slice ad xs.length cd) xs):Calls Tryz.prog 51 #[.slice ad xs.length cd,.func (.func 215) #[] #[]] w (Cl w0 G L fun v=>∃ b:Bool,v=.bool b∧(b=true↔¬ ∀ s∈xs,Dd s)):=by
 refine Az (vs:=[_,_]) Tryz.func51 rfl (n:=9) rfl rfl<|Ab<|Ac<|Af rfl<|Aa<|Ad<|Ab<|Ac<|Ae rfl<|Ae rfl<|Br Amh rfl rfl (P0 (xs:=xs) M S)<|?_;clear M;rintro _ w M ⟨z1,rfl,hz1⟩
 refine Li rfl rfl<|Af rfl<|Aa<|Ad<|Aj<|Al rfl rfl<|?_
 exact ⟨M,_,rfl,decide_eq_true_iff.trans hz1⟩
theorem Ty (M:Mem w0 G L w) {x:ItemD} {ma:Option Addr} {mc:Nat} (ht:x.text.length≤9223372036854775807) (SM:Ay Dw 1 G (.slice ma x.marks.length mc) x.marks):Calls Tryz.prog 191 #[.agg #[.int .u64 x.key,.int .u8 x.typ,.string (str x.text),.slice ma x.marks.length mc]] w (Cl w0 G L fun v=>v=.int .i64 (Gt x)):=by
 refine Az (vs:=[_]) Tryz.func191 rfl (n:=23) rfl rfl<|Ab<|Ac<|C4 M rfl rfl rfl<|?_;clear M;intro b1 w M
 refine Af rfl<|Aa<|Ad<|Ab<|Ab<|Ac<|Bc A1.k rfl rfl<|Bl Eh M 0 rfl rfl rfl rfl<|Dc rfl rfl<|Ae rfl<|?_
 rcases bE (decide (x.key=0)) with h2b | h3b
 ·skip
  have h2:=dT h2b
  refine g_f rfl h2b<|g_f rfl h2b<|g_f rfl h2b<|g_f rfl h2b<|Bi rfl h2b rfl<|Ae rfl<|g_f rfl rfl<|g_f rfl rfl<|g_f rfl rfl<|g_f rfl rfl<|Bi rfl rfl rfl<|Ae rfl<|g_f rfl rfl<|g_f rfl rfl<|g_f rfl rfl<|Bi rfl rfl rfl<|Aa<|Ad<|Bk rfl rfl<|Ab<|Ac<|Af rfl<|Aa<|Ad<|?_
  refine Aj<|Aw<|Al rfl rfl<|?_
  exact ⟨M.weaken (.cons _ (sR _)),by rw [Fv (by clear M;unfold ItemOk;grind)]⟩
 ·skip
  have h3:=dF h3b
  refine g_t rfl h3b<|Bc A1.k rfl rfl<|g_t rfl h3b<|Bl Bq M 0 rfl rfl rfl rfl<|g_t rfl h3b<|Br Acs rfl rfl (Lm (s:=x.text) M (by omega))<|?_;clear M;rintro _ w M ⟨b4,rfl,hb4⟩
  refine g_t rfl h3b<|C9 rfl<|Bh rfl h3b rfl<|Ae rfl<|?_
  rcases bE (!(b4)) with h5b | h6b
  ·skip
   have h5:=Ag h5b
   have h5c:(b4)=false:=(Ag h5b)
   refine g_f rfl (Ak h5c)<|g_f rfl (Ak h5c)<|g_f rfl (Ak h5c)<|g_f rfl (Ak h5c)<|Bi rfl (Ak h5c) rfl<|Ae rfl<|g_f rfl rfl<|g_f rfl rfl<|g_f rfl rfl<|Bi rfl rfl rfl<|Aa<|Ad<|Bk rfl rfl<|Ab<|Ac<|Af rfl<|Aa<|Ad<|Aj<|Aw<|Al rfl rfl<|?_
   exact ⟨M.weaken (.cons _ (sR _)),by rw [Fv (by clear M;unfold ItemOk;grind)]⟩
  ·skip
   have h6:=Ah h6b
   have h6c:(b4)=true:=(Ah h6b)
   refine g_t rfl (Ai h6c)<|Bc A1.k rfl rfl<|g_t rfl (Ai h6c)<|Bl Cd M 0 rfl rfl rfl rfl<|g_t rfl (Ai h6c)<|Cg Cd.k rfl<|g_t rfl (Ai h6c)<|Dn rfl rfl<|Bh rfl (Ai h6c) rfl<|Ae rfl<|?_
   rcases bE (decide (8 < ((x.marks.length:Nat):Int))) with h7b | h8b
   ·skip
    have h7:=dT h7b
    refine g_f rfl h7b<|g_f rfl h7b<|g_f rfl h7b<|Bi rfl h7b rfl<|Aa<|Ad<|Bk rfl rfl<|Ab<|Ac<|Af rfl<|Aa<|Ad<|Aj<|Aw<|Al rfl rfl<|?_
    exact ⟨M.weaken (.cons _ (sR _)),by rw [Fv (by clear M;unfold ItemOk;grind)]⟩
   ·skip
    have h8:=dF h8b
    refine g_t rfl h8b<|Bc A1.k rfl rfl<|g_t rfl h8b<|Bl Cd M 0 rfl rfl rfl rfl<|g_t rfl h8b<|Br ent51 rfl rfl (N7 (xs:=x.marks) M SM)<|?_;clear M;rintro _ w M ⟨b9,rfl,hb9⟩
    refine Bh rfl h8b rfl<|Aa<|Ad<|Av rfl ?_ ?_
    ·intro h10b
     have h10:(b9)=true:=h10b
     refine Ab<|Ac<|Af rfl<|Aa<|Ad<|Aj<|Aw<|Al rfl rfl<|?_
     exact ⟨M.weaken (.cons _ (sR _)),by rw [Fv (by clear M;unfold ItemOk;grind)]⟩
    ·intro h11b
     have h11:(b9)=false:=h11b
     refine Au<|Ad<|Ab<|Ac<|Af rfl<|Aa<|Ad<|Aj<|Al rfl rfl<|?_
     exact ⟨M.weaken (.cons _ (sR _)),by rw [Dp (by first | (clear M;unfold ItemOk;grind) | exact ⟨by omega,by clear M;grind,by omega,Gs hA (by omega)⟩)]⟩
open Go Go.Y Go.Proofs
set_option linter.unusedSimpArgs false
set_option linter.unusedVariables false
theorem P7 {w0 w:World} {G:A4} {L:List Res} (M:Mem w0 G L w) {u:Nat} (hu:u < 18446744073709551616):Calls Tryz.prog 219 #[.int .u64 (u:Int)] w (Cl w0 G L fun v=>v=.string (str (Lib.decDigits u))):=by
 refine Az (vs:=[_]) Tryz.func219 rfl (n:=19) rfl rfl<|Ab<|Ac<|Af rfl<|Aa<|Ad<|Ab<|Ac<|Cz M Aar rfl rfl<|?_;clear M;intro b1 w M
 refine Aa<|Ad<|Ab<|?_
 replace M:Mem w0 G (.blk b1 (bc (List.replicate 20 0)) 302::L) w:=M
 refine Ac<|Af rfl<|Aa<|Ad<|A3<|fun a F=>B8 (fun m a' w'=>∃ (i:Nat),∃ (n:Nat),∃ (ls:List UInt8),m=i+1∧Fits 19 a' [(3,.pointer (some ⟨b1,0,none⟩)),(0,.int .u64 ((n:Nat):Int)),(4,.int .i64 ((i:Nat):Int))]∧Mem w0 G (.blk b1 (bc (ls)) 302::L) w'∧(i≤20)∧(ls.length=20)∧(n < 18446744073709551616)∧(Lib.decDigits u=Lib.decDigits n++ls.drop i)) _ ⟨20,u,List.replicate 20 0,rfl,F.to ⟨rfl,rfl,rfl,trivial⟩,M,Nat.le_refl _,by simp,hu,by simp⟩ ?_
 clear F M
 rintro m a w ⟨i,n,ls,rfl,F,M,hi,hl20,hn64,hD⟩
 revert a
 refine A3<|Ab<|?_
 have h1i:=Amo hD hu hl20 hi
 refine Ac<|Ae rfl<|Lu rfl rfl<|?_
 have hs3:(((i:Nat):Int) - 1:Int)=((i - 1:Nat):Int):=by omega
 intro a F
 rw [hs3] at F
 revert a
 refine Af rfl<|Aa<|Ad<|Ab<|Ac<|Ae rfl<|Ae rfl<|Ap (fun a F=>Yg (F.ev rfl) (F.ev rfl) (by omega) (by omega)) rfl<|?_
 obtain ⟨B4,hB4⟩:=Be (xs:=([48,49,50,51,52,53,54,55,56,57]:List UInt8)) (i:=n % 10) (by (show n % 10 < 10;omega))
 have lB4:=Ox B4
 refine Ap (fun a F=>Cx (i:=n % 10) Bq.k (F.ev rfl) (F.ev rfl) hB4) rfl<|Ap (fun a F=>Fi (j:=i - 1) Aar.k Ew rfl (F.ev rfl) (F.ev rfl) (by omega) (by omega)) rfl<|fun a F=>?_
 refine Dm F M Ew rfl (k:=0) rfl rfl rfl rfl (List.getElem?_eq_getElem (by rw [T0];omega)) ?_;clear F M a;intro w a M F
 rw [Nat.zero_add,bc_set] at M
 change Mem w0 G (.blk b1 (bc ((ls).set (i - 1) B4)) 302::L) _ at M
 have hBt:=hB4
 revert a
 refine Aa<|Ad<|Ab<|Ac<|Ae rfl<|Ap (fun a F=>Yh (F.ev rfl) (F.ev rfl) (by omega) (by omega) (J5 (by omega) (by omega))) rfl<|Af rfl<|Aa<|Ad<|Ab<|Ac<|Ae rfl<|Dc rfl rfl<|Aa<|Ad<|Av rfl ?_ ?_
 ·intro h5b
  have h5:=dT h5b
  refine Ab<|Ac<|Ae rfl<|Ap (fun a F=>Ua (l:=i - 1) Aar.k Ew rfl (F.ev rfl) (F.ev rfl) (by omega) (by omega)) rfl<|Ap (fun a F=>T8 M (k:=0) rfl Kc.k Ew.k Bq.k (F.ev rfl) (by rw [List.length_set];omega)) rfl<|Af rfl<|Aa<|Ad<|Aj<|Bo<|Aw<|Bo<|Al rfl rfl<|?_
  have h_:=V5 hD h1i hi hl20 hBt
  rw [if_pos (by omega),List.nil_append] at h_
  exact ⟨M.weaken (.cons _ (sR _)),by rw [h_]⟩
 ·intro h6b
  have h6:=dF h6b
  refine Au<|C0<|Ad<|fun a F=>?_
  exact ⟨_,by omega,i - 1,n / 10,(ls).set (i - 1) B4,rfl,F.to ⟨rfl,rfl,rfl,trivial⟩,M,by omega,by rw [List.length_set];exact hl20,by omega,by have h_:=V5 hD h1i hi hl20 hBt;rw [if_neg (by omega)] at h_;exact h_⟩
end Go.Proofs.YtmmhmcplegpenaaGreatDoor.T
