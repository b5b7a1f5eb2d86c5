/- Templates: slots, valid parts; what a walk over all parts does. · The walks, part TD. · The walks, part TE. · The walks, part TH. · The walks, part TI. -/
import Derived.Test.YtmmhmcplegpenaaGreatDoorJ1
import Derived.Test.YtmmhmcplegpenaaGreatDoorJ2
namespace Go.Proofs.YtmmhmcplegpenaaGreatDoor.T
open Go Go.Y
theorem u8_1:Aw .u8 1:=⟨by decide,by decide⟩
theorem u8_2:Aw .u8 2:=⟨by decide,by decide⟩
theorem Qs {x:Int} (h:Aw .u8 x):0≤x∧x≤255:=h
theorem Ye {s:List UInt8}:Hn (.mk 1 s [] [] [] [])↔Da s:=by
 unfold Hn
 constructor
 ·rintro ⟨⟨h,_⟩,_⟩
  rcases h with ⟨h1,_⟩ | ⟨_,_,h,_⟩
  ·exact absurd h1 (by simp [Tr.kind])
  ·exact h
 ·intro h
  refine ⟨⟨Or.inr ⟨by simp [Tr.kind],rfl,h,Or.inl rfl,rfl,by simp [Tr.as],by simp [Tr.kids],fun i x hx=>?_,fun i j a b _ ha=>?_⟩,fun c hc=>?_⟩,by simp [Tr.size,Tr.sizes]⟩
  ·simp [Tr.as] at hx
  ·simp [Tr.kids] at ha
  ·simp [Tr.kids] at hc
theorem Ww {s:List UInt8}:Hn (.mk 2 [] [] [] s [])↔Str s:=by
 unfold Hn
 constructor
 ·rintro ⟨⟨h,_⟩,_⟩
  rcases h with ⟨_,h,_⟩ | ⟨_,h1,_⟩
  ·exact h
  ·exact absurd h1 (by simp [Tr.kind])
 ·intro h
  refine ⟨⟨Or.inl ⟨rfl,h,rfl,rfl,rfl,rfl⟩,fun c hc=>?_⟩,by simp [Tr.size,Tr.sizes]⟩
  simp [Tr.kids] at hc
theorem U7 {x:NT}:Ts x=0↔Hn x:=by
 unfold Ts
 split
 ·rename_i h;exact ⟨fun _=>h,fun _=>rfl⟩
 ·rename_i h;exact ⟨fun h2=>(by cases h2),fun h2=>absurd h2 h⟩
/-! ### Slots and parts -/
def Gt (x:SlotD):Prop:=Da x.n∧x.src≤3∧Str x.v∧(x.src=0∨x.v=[])
def Ho (l:List SlotD) (i:Nat):Prop:=∀ (m:Nat) (x:SlotD),m < i→l[m]?=some x→Gt x∧∀ y,0 < m→l[m - 1]?=some y→Op.bytesLess y.n x.n=true
def Hp (l:List SlotD):Prop:=l.length≤8∧Ho l l.length
theorem Ho.zero (l:List SlotD):Ho l 0:=fun m x h=>by omega
theorem Ho.step {l:List SlotD} {i:Nat} {x:SlotD} (h:Ho l i) (hx:l[i]?=some x) (hn:Gt x) (ho:∀ y,0 < i→l[i - 1]?=some y→Op.bytesLess y.n x.n=true):Ho l (i+1):=by
 intro m z hm hz
 rcases Nat.eq_or_lt_of_le (show m≤i by omega) with e | e
 ·subst e;rw [hx] at hz;simp only [Option.some.injEq] at hz;subst hz;exact ⟨hn,ho⟩
 ·exact h m z e hz
theorem Ho.done {l:List SlotD} {i:Nat} (h:Ho l i) (h8:l.length≤8) (hi:l.length≤i):Hp l:=⟨h8,fun m x hm hx=>h m x (by omega) hx⟩
theorem Iz {l:List SlotD} {i:Nat} {x:SlotD} (hx:l[i]?=some x) (h:¬ Gt x):¬ Hp l:=fun ho=>h (ho.2 i x (Bl hx) hx).1
theorem T0 {l:List SlotD} {i:Nat} {x y:SlotD} (hx:l[i]?=some x) (hy:l[i - 1]?=some y) (hi:0 < i) (h:¬ Op.bytesLess y.n x.n=true):¬ Hp l:=fun ho=>h ((ho.2 i x (Bl hx) hx).2 y hi hy)
def Cq (x:PT):Prop :=
 (x.kind=1∧Da x.tag∧(x.key=[]∨Da x.key)∧Hp x.as∧x.text=[]∧x.kids.length≤16) ∨
 (x.kind=2∧Str x.text∧x.tag=[]∧x.key=[]∧x.as.length=0∧x.kids.length=0) ∨
 ((x.kind=3∨x.kind=4)∧x.text=[]∧x.tag=[]∧x.key=[]∧x.as.length=0∧x.kids.length=0) ∨
 (x.kind=5∧Da x.tag∧Hp x.as∧x.key=[]∧x.text=[]∧x.kids.length=0)
theorem S4 {x:PT} (h:Cq x):x.kids.length≤16∧x.as.length≤8:=by
 rcases h with ⟨_,_,_,h,_,h2⟩ | ⟨_,_,_,_,h,h2⟩ | ⟨_,_,_,_,h,h2⟩ | ⟨_,_,h,_,_,h2⟩
 ·exact ⟨h2,h.1⟩
 ·omega
 ·omega
 ·exact ⟨by omega,h.1⟩
def ValidP (x:PT):Prop:=x.kind=1∧Tr.Ok Cq 6 x∧x.size≤64
open Classical in
/-- The number of parts of a valid template, 0 for another one. -/
noncomputable def cntP (x:PT):Nat:=if ValidP x then x.size else 0
open Classical in
noncomputable def Zb (x:PT):Int:=if ValidP x then 0 else 14
theorem Y8 {x:PT} (h:ValidP x):cntP x=x.size:=by unfold cntP;rw [if_pos h]
theorem Ws {x:PT} (h:¬ ValidP x):cntP x=0:=by unfold cntP;rw [if_neg h]
theorem Akr {x:PT} (h:ValidP x):Zb x=0:=by unfold Zb;rw [if_pos h]
theorem Ade {x:PT} (h:¬ ValidP x):Zb x=14:=by unfold Zb;rw [if_neg h]
theorem Y9 {x:PT}:0 < cntP x↔ValidP x:=by
 unfold cntP
 split
 ·rename_i h;exact ⟨fun _=>h,fun _=>Tr.size_pos x⟩
 ·rename_i h;exact ⟨fun h2=>(by omega),fun h2=>absurd h2 h⟩
theorem chkP_zero {x:PT}:Zb x=0↔ValidP x:=by
 unfold Zb
 split
 ·rename_i h;exact ⟨fun _=>h,fun _=>rfl⟩
 ·rename_i h;exact ⟨fun h2=>(by cases h2),fun h2=>absurd h2 h⟩
theorem Cnt.cntP {x:PT} {r:Nat} (h:Cnt Cq x 6 r):(x.kind≠1∨64 < r→_root_.Go.Proofs.YtmmhmcplegpenaaGreatDoor.T.cntP x=0)∧(x.kind=1→r≤64→_root_.Go.Proofs.YtmmhmcplegpenaaGreatDoor.T.cntP x=r):=by
 refine ⟨fun h1=>Ws fun h2=>?_,fun h0 h1=>?_⟩
 ·rcases h1 with h1 | h1
  ·exact h1 h2.1
  ·have:=h.ok.2 h2.2;omega
 ·rw [Y8 ⟨h0,h.ok.1 h1⟩,h.eq h1]
/-! ### A walk over all parts -/
section
variable {β σ:Type} (f:σ→Tr β→σ)
mutual
/-- What is there behind all nodes of a tree, a node ahead of those below it. -/
def Qr (s:σ):Tr β→σ
 | .mk k t y a x l=>Hw (f s (.mk k t y a x l)) l
def Hw (s:σ):List (Tr β)→σ
 | []=>s
 | c::l=>Hw (Qr s c) l
end
theorem Ago (s:σ) (x:Tr β):Qr f s x=Hw f (f s x) x.kids:=by cases x;simp only [Qr,Tr.kids]
theorem Md:∀ (l m:List (Tr β)) (s:σ),Hw f s (l++m)=Hw f (Hw f s l) m
 | [],m,s=>by simp [Hw]
 | x::l,m,s=>by simp only [List.cons_append,Hw,Md l m]
theorem Wz {l:List (Tr β)} {i:Nat} {x:Tr β} (h:l[i]?=some x) (s:σ):Hw f s (l.take (i+1))=Qr f (Hw f s (l.take i)) x:=by
 rw [Tr.take_snoc' h,Md];simp [Hw]
end
/-! ### How many nodes a template makes -/
theorem Tr.Ok.kid {β:Type} {A:Tr β→Prop} {n:Nat} {x c:Tr β} (h:Tr.Ok A n x) (hc:c∈x.kids):∃ m,Tr.Ok A m c:=by
 cases n with
 | zero=>exact h.elim
 | succ n=>exact ⟨n,h.2 c hc⟩
/-! ### What a template uses -/
theorem Ov {α:Type} {p:α→Prop} {l:List α} {i:Nat} {x:α} (h:∀ (m:Nat) (y:α),m < i→l[m]?=some y→p y) (hx:l[i]?=some x) (hp:p x):∀ (m:Nat) (y:α),m < i+1→l[m]?=some y→p y:=by
 intro m y hm hy
 rcases Nat.eq_or_lt_of_le (show m≤i by omega) with e | e
 ·subst e;rw [hx] at hy;simp only [Option.some.injEq] at hy;subst hy;exact hp
 ·exact h m y e hy
/-! ### Items -/
structure ItemD where
 key:Int
 typ:Int
 text:List UInt8
 marks:List (List UInt8)
def ItemOk (x:ItemD):Prop:=¬ x.key=0∧Str x.text∧x.marks.length≤8∧∀ s∈x.marks,Da s
open Classical in
/-- The error of an item. -/
noncomputable def Gy (x:ItemD):Int:=if ItemOk x then 0 else 6
theorem Dh {x:ItemD} (h:ItemOk x):Gy x=0:=by unfold Gy;rw [if_pos h]
theorem Fo {x:ItemD} (h:¬ ItemOk x):Gy x=6:=by unfold Gy;rw [if_neg h]
theorem Gn {l:List (List UInt8)} {i:Nat} (h:∀ (m:Nat) (s:List UInt8),m < i→l[m]?=some s→Da s) (hi:l.length≤i):∀ s∈l,Da s:=by
 intro s hs
 obtain ⟨m,hm⟩:=List.mem_iff_getElem?.1 hs
 exact h m s (by have:=Bl hm;omega) hm
/-! ### Decimal numbers -/
theorem He (u:Nat):Lib.decDigits u=(if u / 10=0 then [] else Lib.decDigits (u / 10))++[UInt8.ofNat (48+u % 10)]:=by
 rw [Lib.decDigits]
 split
 ·rename_i h
  rw [if_pos (by omega),Nat.mod_eq_of_lt h]
  rfl
 ·rename_i h
  rw [if_neg (by omega)]
theorem Fh (u:Nat) (h:u < 18446744073709551616):(Lib.decDigits u).length≤20:=by
 rw [Lib.decDigits_length]
 rcases Nat.eq_zero_or_pos u with h0 | h0
 ·subst h0;rw [Lib.nDigits_small (by decide)];omega
 ·have h1:=Lib.numDigits_eq u h0 h
  split at h1 <;> omega
theorem dig_at:∀ k:Nat,k < 10→([48,49,50,51,52,53,54,55,56,57]:List UInt8)[k]?=some (UInt8.ofNat (48+k)):=by decide
theorem U2:∀ k:Nat,k < 10→(([48,49,50,51,52,53,54,55,56,57]:List UInt8).take (k+1)).drop k=[UInt8.ofNat (48+k)]:=by decide
theorem U5 {k:Nat} (h:k < 10):Lib.decDigits k=[UInt8.ofNat (48+k)]:=by
 rw [He,if_pos (by omega),Nat.mod_eq_of_lt h];rfl
theorem Agu {l:List UInt8} {k:Nat} {b:UInt8} (h:k < l.length):(l.set k b).drop k=b::l.drop (k+1):=by
 rw [List.drop_eq_getElem_cons (by rw [List.length_set];exact h),List.getElem_set_self,List.drop_set_of_lt (by omega)]
theorem U4 {u n i:Nat} {l:List UInt8} {b:UInt8} (h:Lib.decDigits u=Lib.decDigits n++l.drop i) (hi:1≤i) (hi2:i≤20) (hl:l.length=20) (hb:([48,49,50,51,52,53,54,55,56,57]:List UInt8)[n % 10]?=some b) :
  Lib.decDigits u=(if n / 10=0 then [] else Lib.decDigits (n / 10))++(l.set (i - 1) b).drop (i - 1):=by
 rw [dig_at _ (by omega)] at hb
 simp only [Option.some.injEq] at hb
 rw [h,He n,Agu (by omega),← hb,show i - 1+1=i by omega]
 simp
theorem Akm {u n i:Nat} {l:List UInt8} (h:Lib.decDigits u=Lib.decDigits n++l.drop i) (hu:u < 18446744073709551616) (hl:l.length=20) (hi:i≤20):1≤i:=by
 have h1:=Fh u hu
 rw [h,List.length_append,List.length_drop,Lib.decDigits_length] at h1
 have:=Lib.nDigits_pos n
 omega
/-! ### Attributes of an item -/
def Od (x:ItemD) (s:SlotD):List UInt8:=if s.src=1 then x.text else if s.src=2 then Lib.decDigits x.key.toNat else if s.src=3 then Lib.decDigits x.marks.length else s.v
def Du (x:ItemD) (s:SlotD):AttrD:=⟨s.n,Od x s⟩
theorem Abo {x:ItemD} {xs:List SlotD} {i:Nat} {s:SlotD} (h:xs[i]?=some s) :
  ((xs.take i).map (Du x)++List.replicate (xs.length - i) (⟨[],[]⟩:AttrD)).set i (Du x s)=(xs.take (i+1)).map (Du x)++List.replicate (xs.length - (i+1)) (⟨[],[]⟩:AttrD):=by
 have hi:=Bl h
 rw [Tr.take_snoc' h,List.map_append,List.set_append_right _ _ (by simp;omega)]
 have e:xs.length - i=(xs.length - (i+1))+1:=by omega
 have e2:i - ((xs.take i).map (Du x)).length=0:=by simp;omega
 rw [e,e2,List.replicate_succ]
 simp
theorem pick4 {x:ItemD} {s:SlotD} (h0:0≤s.src) (h3:s.src≤3):(#[Value.string (str s.v),Value.string (str x.text),Value.string (str (Lib.decDigits x.key.toNat)),Value.string (str (Lib.decDigits x.marks.length))]:Array Value)[s.src.toNat]?=some (.string (str (Od x s))):=by
 unfold Od
 have h:s.src=0∨s.src=1∨s.src=2∨s.src=3:=by omega
 rcases h with h | h | h | h <;> rw [h] <;> rfl
theorem Agg {x:ItemD} (ht:x.text.length≤9223372036854775807) (hk:Aw .u64 x.key) (hm:x.marks.length≤9223372036854775807) (s:SlotD) (hv:s.v.length≤9223372036854775807):(Od x s).length≤9223372036854775807:=by
 obtain ⟨h1,h2⟩:0≤x.key∧x.key≤18446744073709551615:=hk
 have a:=Fh x.key.toNat (by omega)
 have b:=Fh x.marks.length (by omega)
 unfold Od
 split
 ·exact ht
 ·split
  ·omega
  ·split
   ·omega
   ·exact hv
theorem Adq {l:List SlotD} (h:Hp l) {s:SlotD} (hs:s∈l):s.src≤3:=by
 obtain ⟨m,hm⟩:=List.mem_iff_getElem?.1 hs
 exact (h.2 m s (Bl hm) hm).1.2.1
/-! ### What is made of an item -/
def Bz (s:List UInt8):NT:=.mk 2 [] [] [] s []
def Adb (x:ItemD) (tag:List UInt8) (al:List SlotD) (m:List UInt8):NT:=.mk 1 tag m (al.map (Du x)) [] [Bz m]
mutual
def Im (x:ItemD):PT→List NT
 | .mk k tag key al text kids=>if k=1 then [.mk 1 tag key (al.map (Du x)) [] (madesF x kids)] else if k=2 then [Bz text] else if k=3 then [Bz x.text] else if k=4 then [Bz (Lib.decDigits x.key.toNat)] else
   if k=5 then x.marks.map (Adb x tag al) else []
def madesF (x:ItemD):List PT→List NT
 | []=>[]
 | c::l=>Im x c++madesF x l
end
theorem Nz (x:ItemD):∀ (l r:List PT),madesF x (l++r)=madesF x l++madesF x r
 | [],r=>by simp [madesF]
 | c::l,r=>by simp only [List.cons_append,madesF,Nz x l r,List.append_assoc]
theorem E6 {x:ItemD} {l:List PT} {i:Nat} {c:PT} (h:l[i]?=some c):madesF x (l.take (i+1))=madesF x (l.take i)++Im x c:=by
 rw [Tr.take_snoc' h,Nz];simp [madesF]
theorem Aih {x:ItemD} {p:PT} (h:p.kind=1):Im x p=[.mk 1 p.tag p.key (p.as.map (Du x)) [] (madesF x p.kids)]:=by
 cases p;simp only [Tr.kind] at h;subst h;simp [Im,Tr.tag,Tr.key,Tr.as,Tr.kids]
theorem made2 {x:ItemD} {p:PT} (h:p.kind=2):Im x p=[Bz p.text]:=by
 cases p;simp only [Tr.kind] at h;subst h;simp [Im,Tr.text]
theorem made3 {x:ItemD} {p:PT} (h:p.kind=3):Im x p=[Bz x.text]:=by
 cases p;simp only [Tr.kind] at h;subst h;simp [Im]
theorem made4 {x:ItemD} {p:PT} (h:p.kind=4):Im x p=[Bz (Lib.decDigits x.key.toNat)]:=by
 cases p;simp only [Tr.kind] at h;subst h;simp [Im]
theorem made5 {x:ItemD} {p:PT} (h:p.kind=5):Im x p=x.marks.map (Adb x p.tag p.as):=by
 cases p;simp only [Tr.kind] at h;subst h;simp [Im,Tr.tag,Tr.as]
theorem made0 {x:ItemD} {p:PT} (h1:¬ p.kind=1) (h2:¬ p.kind=2) (h3:¬ p.kind=3) (h4:¬ p.kind=4) (h5:¬ p.kind=5):Im x p=[]:=by
 cases p;simp only [Tr.kind] at h1 h2 h3 h4 h5;simp [Im,h1,h2,h3,h4,h5]
theorem Aig {x:ItemD} (hm:x.marks.length≤8) (p:PT):(Im x p).length≤8:=by
 cases p with
 | mk k tag key al text kids =>
  simp only [Im]
  repeat' split
  all_goals simp
  exact hm
theorem Un {x:ItemD} (hm:x.marks.length≤8):∀ l:List PT,(madesF x l).length≤8 * l.length
 | []=>by simp [madesF]
 | c::l=>by
  have h1:=Aig hm c
  have h2:=Un hm l
  simp only [madesF,List.length_append,List.length_cons];omega
theorem Ue {p:PT} {n:Nat} (h:Tr.Ok Cq n p) (hk:p.kind=1∨p.kind=5):Hp p.as:=by
 cases n with
 | zero=>exact h.elim
 | succ n =>
  rcases h.1 with ⟨_,_,_,h,_⟩ | ⟨h,_⟩ | ⟨h,_⟩ | ⟨_,_,h,_⟩
  ·exact h
  ·omega
  ·omega
  ·exact h
theorem okP_len {p:PT} {n:Nat} (h:Tr.Ok Cq n p):p.kids.length≤16:=by
 cases n with
 | zero=>exact h.elim
 | succ n=>exact (S4 h.1).1
theorem Ahp {p:PT} {n:Nat} (h:Tr.Ok Cq n p):∀ c∈p.kids,∃ m,Tr.Ok Cq m c:=fun c hc=>Tr.Ok.kid h hc
theorem U1 {l:List (List UInt8)} {j:Nat} {s:List UInt8} (h:l[j]?=some s) (f:List UInt8→NT):(l.take (j+1)).map f=(l.take j).map f++[f s]:=by
 rw [Tr.take_snoc' h,List.map_append];rfl
theorem Mg {ps:List PT} {p:PT} (h:p∈ps):Tr.sizes p.kids < Tr.sizes ps:=by
 have h1:=Tr.size_mem h
 rw [Tr.size_eq] at h1;omega
/-! ### Render -/
def node1 (x:ItemD) (p:PT):NT:=.mk 1 p.tag p.key (p.as.map (Du x)) [] (madesF x p.kids)
def Pj:NT:=.mk 0 [] [] [] [] []
theorem Afd {x:ItemD} {p:PT} (h:p.kind=1):madesF x [p]=[node1 x p]:=by simp [madesF,Aih h,node1]
open Classical in
/-- The error of Render. -/
noncomputable def rendE (p:PT) (x:ItemD) (most:Int):Int :=
 if most < 1∨64 < most then 1 else if ¬ ValidP p then 14 else if ¬ ItemOk x then 6 else if cntF (node1 x p)=0∨most < (cntF (node1 x p):Int) then 14 else 0
open Classical in
noncomputable def F8 (p:PT) (x:ItemD) (most:Int):NT:=if rendE p x most=0 then node1 x p else Pj
section
variable {p:PT} {x:ItemD} {most:Int}
theorem Xy (h:most < 1∨64 < most):rendE p x most=1:=by unfold rendE;rw [if_pos h]
theorem Aeb (h:¬ (most < 1∨64 < most)) (hp:¬ ValidP p):rendE p x most=14:=by unfold rendE;rw [if_neg h,if_pos hp]
theorem Aec (h:¬ (most < 1∨64 < most)) (hp:ValidP p) (hx:¬ ItemOk x):rendE p x most=6:=by unfold rendE;rw [if_neg h,if_neg (not_not_intro hp),if_pos hx]
theorem rend_many (h:¬ (most < 1∨64 < most)) (hp:ValidP p) (hx:ItemOk x) (hc:cntF (node1 x p)=0∨most < (cntF (node1 x p):Int)):rendE p x most=14:=by
 unfold rendE;rw [if_neg h,if_neg (not_not_intro hp),if_neg (not_not_intro hx),if_pos hc]
theorem rend_ok (h:¬ (most < 1∨64 < most)) (hp:ValidP p) (hx:ItemOk x) (hc:¬ (cntF (node1 x p)=0∨most < (cntF (node1 x p):Int))):rendE p x most=0:=by
 unfold rendE;rw [if_neg h,if_neg (not_not_intro hp),if_neg (not_not_intro hx),if_neg hc]
theorem Ahc (h:rendE p x most=0):F8 p x most=node1 x p:=by unfold F8;rw [if_pos h]
theorem J1 (h:rendE p x most≠0):F8 p x most=Pj:=by unfold F8;rw [if_neg h]
end
theorem Dp {x:ItemD}:Gy x=0↔ItemOk x:=by
 unfold Gy
 split
 ·rename_i h;exact ⟨fun _=>h,fun _=>rfl⟩
 ·rename_i h;exact ⟨fun h2=>(by cases h2),fun h2=>absurd h2 h⟩
theorem W4 {p:PT} (h:ValidP p):∃ n,Tr.Ok Cq n p:=⟨6,h.2.1⟩
theorem Ua {a b c:Res} (R L:List Res):(a::b::c::(R++L)).Perm (R++(a::b::c::L)):=by
 have h1:(R++(a::b::c::L)).Perm (a::(R++(b::c::L))):=List.perm_middle
 have h2:(R++(b::c::L)).Perm (b::(R++(c::L))):=List.perm_middle
 have h3:(R++(c::L)).Perm (c::(R++L)):=List.perm_middle
 exact (h1.trans ((h2.trans (h3.cons b)).cons a)).symm
open Go Go.Y Go.Proofs
variable {w0 w:World} {G:A4} {L:List Res}
set_option linter.unusedSimpArgs false
set_option linter.unusedVariables false
theorem G7 (M:Mem w0 G L w) {s:List UInt8} (hs:s.length≤9223372036854775807):Calls Tryz.prog 216 #[.string (str s)] w (Ci w0 G L fun v=>∃ b:Bool,v=.bool b∧(b=true↔Da s)):=by
 refine A0 (vs:=[_]) Tryz.func216 rfl (n:=7) rfl rfl<|Ab<|Ac<|Af rfl<|Aa<|Ad<|Ab<|Ac<|Ae rfl<|Ar (fun a F=>Be (cs:=[.int .u8 1,.string (str s),.string (str ([]:List UInt8)),.slice none 0 0,.string (str ([]:List UInt8)),.slice none 0 0]) (ps:=[(0,.int .u8 1),(1,.string (str s))]) Bb.k rfl Bb (F.evp rfl) rfl) rfl<|Bw Ajn rfl rfl (Ha (x:=(.mk 1 s ([]:List UInt8) [] ([]:List UInt8) []:NT)) M ⟨by show (0:Int)≤1;omega,by show 1≤(255:Int);omega⟩ ⟨by first | exact Nat.zero_le _ | assumption | (simp only [Tr.tag,Tr.key,Tr.text];omega),by first | exact Nat.zero_le _ | assumption | (simp only [Tr.tag,Tr.key,Tr.text];omega),by first | exact Nat.zero_le _ | assumption | (simp only [Tr.tag,Tr.key,Tr.text];omega)⟩ Az.nil Az.nil)<|?_;clear M;rintro _ w M rfl
 refine Dy rfl rfl<|Af rfl<|Aa<|Ad<|Ak<|Aj rfl rfl<|?_
 exact ⟨M,(decide (Ts ((.mk 1 s ([]:List UInt8) [] ([]:List UInt8) []:NT))=0)),rfl,(decide_eq_true_iff.trans (U7.trans Ye))⟩
theorem K1 (M:Mem w0 G L w) {s:List UInt8} (hs:s.length≤9223372036854775807):Calls Tryz.prog 214 #[.string (str s)] w (Ci w0 G L fun v=>∃ b:Bool,v=.bool b∧(b=true↔Str s)):=by
 refine A0 (vs:=[_]) Tryz.func214 rfl (n:=7) rfl rfl<|Ab<|Ac<|Af rfl<|Aa<|Ad<|Ab<|Ac<|Ae rfl<|Ar (fun a F=>Be (cs:=[.int .u8 2,.string (str ([]:List UInt8)),.string (str ([]:List UInt8)),.slice none 0 0,.string (str s),.slice none 0 0]) (ps:=[(0,.int .u8 2),(4,.string (str s))]) Bb.k rfl Bb (F.evp rfl) rfl) rfl<|Bw Ajn rfl rfl (Ha (x:=(.mk 2 ([]:List UInt8) ([]:List UInt8) [] s []:NT)) M ⟨by show (0:Int)≤2;omega,by show 2≤(255:Int);omega⟩ ⟨by first | exact Nat.zero_le _ | assumption | (simp only [Tr.tag,Tr.key,Tr.text];omega),by first | exact Nat.zero_le _ | assumption | (simp only [Tr.tag,Tr.key,Tr.text];omega),by first | exact Nat.zero_le _ | assumption | (simp only [Tr.tag,Tr.key,Tr.text];omega)⟩ Az.nil Az.nil)<|?_;clear M;rintro _ w M rfl
 refine Dy rfl rfl<|Af rfl<|Aa<|Ad<|Ak<|Aj rfl rfl<|?_
 exact ⟨M,(decide (Ts ((.mk 2 ([]:List UInt8) ([]:List UInt8) [] s []:NT))=0)),rfl,(decide_eq_true_iff.trans (U7.trans Ww))⟩
theorem K0 (M:Mem w0 G L w) {ad:Option Addr} {cd:Nat} {xs:List SlotD} (S:Az rdSlot 3 G (.slice ad xs.length cd) xs) (hxs:xs.length≤9223372036854775807):Calls Tryz.prog 235 #[.slice ad xs.length cd] w (Ci w0 G L fun v=>∃ b:Bool,v=.bool b∧(b=true↔Hp xs)):=by
 refine A0 (vs:=[_]) Tryz.func235 rfl (n:=56) rfl rfl<|Ab<|Ac<|Af rfl<|Aa<|Ad<|Ab<|Ab<|Ac<|Ae rfl<|B8 Fr.k rfl<|Df rfl rfl<|Aa<|Ad<|Ax rfl ?_ ?_
 ·intro h1b
  have h1:=dT h1b
  refine Ab<|Ac<|Af rfl<|Aa<|Ad<|Ak<|Au<|Aj rfl rfl<|?_
  exact ⟨M,false,rfl,⟨fun h_=>(by cases h_),fun h_=>(by have:=h_.1;omega)⟩⟩
 ·intro h2b
  have h2:=dF h2b
  refine Aq<|Ad<|Ab<|Ab<|Ac<|Ae rfl<|B8 Fr.k rfl<|Ae rfl<|Aa<|Ad<|A1<|fun a F=>B2 (fun m a' w'=>∃ (i:Nat),m=xs.length - i∧Fits 56 a' [(0,.slice ad xs.length cd),(8,.slice ad xs.length cd),(9,.int .i64 ((xs.length:Nat):Int)),(10,.int .i64 ((i:Nat):Int))]∧Mem w0 G (L) w'∧(i≤xs.length)∧(Ho xs i)) _ ⟨0,rfl,F.to ⟨rfl,rfl,rfl,rfl,trivial⟩,M,Nat.zero_le _,Ho.zero _⟩ ?_
  clear F M
  rintro m a w ⟨i,rfl,F,M,hi,hS⟩
  revert a
  refine Ab<|Ac<|C9 rfl rfl<|Aa<|Ad<|Ab<|Ax rfl ?_ ?_
  ·intro h3b
   have h3:=dT h3b
   refine Aq<|Ad<|Ab<|A1<|Ab<|Ac<|Ae rfl<|?_
   obtain ⟨Xe4,hXe4⟩:=Bc (xs:=xs) (i:=i) (by omega)
   obtain ⟨be4,oe4,_,Ie4,_,Ae4,⟨rfl,hn1e4,hk1e4,hv1e4⟩⟩:=S.at hXe4
   refine Ds Fr.k Fj Ie4 rfl rfl<|Ar (fun a F=>Ao Fj rfl (F.ev rfl) (cs:=[.string (str Xe4.n),.int .u8 Xe4.src,.string (str Xe4.v)]) rfl (M.cellsA Ae4 0 (by omega) rfl)) rfl<|C6 M Fj rfl rfl<|?_;clear M;intro b5 w M
   refine Af rfl<|fun a F=>?_
   refine Av F M Fj (k:=0) rfl rfl rfl (us:=[.string (str Xe4.n),.int .u8 Xe4.src,.string (str Xe4.v)]) rfl rfl (by simp [Value.oneCell']) (by simp) ?_;clear F M a;intro w a M F
   change Mem w0 G (.blk b5 [.string (str Xe4.n),.int .u8 Xe4.src,.string (str Xe4.v)] 189::L) _ at M
   revert a
   refine Aa<|Ad<|Ab<|fun a F=>Fb [(.free,0),(.pure,1),(.keep,2),(.free,3),(.free,4),(.free,5),(.pure,6),(.free,7),(.free,8),(.free,9),(.free,10),(.pure,11),(.keep,12),(.free,13),(.free,14),(.free,15),(.free,16),(.pure,17),(.free,18),(.free,19),(.free,20),(.pure,21),(.free,22),(.free,23),(.free,24),(.free,25),(.free,26),(.free,27),(.free,28),(.free,29),(.pure,30),(.free,31),(.free,32),(.free,33),(.free,34),(.free,35),(.pure,36),(.free,37),(.free,38),(.free,39)] [] (Keep G [.blk b5 [.string (str Xe4.n),.int .u8 Xe4.src,.string (str Xe4.v)] 189]) rfl (by kernel_rfl) (fun c a d v w h=>by cases d <;> exact h) ((M.drew _).keep (Gle.refl _) (by simp)) ?_
   replace M:=M.drew (w.drawn+1)
   revert a
   refine k_f (fun a F w _=>Cm Fj.k rfl F rfl) rfl<|k_p (fun a F w M=>Ap (agf Bq rfl) (F.ev rfl) (M.cellL (k:=0) rfl rfl)) rfl<|k_k rfl<|Bw Pd rfl rfl (G7 (s:=Xe4.n) M (by omega))<|?_;clear M;rintro _ w M ⟨b7,rfl,hb7⟩
   refine Aa<|eK (C':=Keep G [.blk b5 [.string (str Xe4.n),.int .u8 Xe4.src,.string (str Xe4.v)] 189]) (M.keep (Gle.refl _) (by simp)) (fun w h=>h.mono (Gle.refl _) (by simp))<|k_f (fun a F w _=>Gi (F.ev rfl)) rfl<|k_f (fun a F w _=>Cg F rfl) rfl<|?_
   rcases bE (!(b7)) with h8b | h9b
   ·skip
    have h8:=Ah h8b
    have h8c:(b7)=false:=(Ah h8b)
    refine k_s rfl (Al h8c)<|k_s rfl (Al h8c)<|k_s rfl (Al h8c)<|k_f (fun a F w _=>Ht F rfl (Al h8c) rfl) rfl<|k_f (fun a F w _=>Cg F rfl) rfl<|k_s rfl rfl<|k_s rfl rfl<|k_s rfl rfl<|k_s rfl rfl<|k_f (fun a F w _=>Ht F rfl rfl rfl) rfl<|k_f (fun a F w _=>Cg F rfl) rfl<|k_s rfl rfl<|k_s rfl rfl<|k_s rfl rfl<|k_s rfl rfl<|k_u rfl<|k_u rfl<|k_u rfl<|k_s rfl rfl<|k_f (fun a F w _=>Ht F rfl rfl rfl) rfl<|k_f (fun a F w _=>Cg F rfl) rfl<|k_s rfl rfl<|k_s rfl rfl<|k_s rfl rfl<|?_
    refine k_u rfl<|k_u rfl<|k_u rfl<|k_u rfl<|k_u rfl<|k_u rfl<|k_u rfl<|k_u rfl<|k_u rfl<|k_s rfl rfl<|k_f (fun a F w _=>Ht F rfl rfl rfl) rfl<|D1<|Ad<|Bo rfl rfl<|Ab<|Ac<|Af rfl<|Aa<|Ad<|Ak<|Bk<|Au<|Au<|Bk<|?_
    refine Au<|Aj rfl rfl<|?_
    exact ⟨(M.weaken (.cons _ (sR _))),false,rfl,(by have hu:=Qs hk1e4;have q0:=Iz hXe4;have q9:=@Hm;clear M;unfold Gt at q0;grind)⟩
   ·skip
    have h9:=Ai h9b
    have h9c:(b7)=true:=(Ai h9b)
    refine C7 rfl (Ag h9c) (fun a F w _=>Cm Fj.k rfl F rfl)<|H2 rfl (Ag h9c) (fun a F w M=>Ap (agf Ev rfl) (F.ev rfl) (M.cellL (k:=0) rfl rfl))<|C7 rfl (Ag h9c) (fun a F w _=>Kd (F.ev rfl) (F.ev rfl))<|k_f (fun a F w _=>Gq F rfl (Ag h9c) rfl) rfl<|k_f (fun a F w _=>Cg F rfl) rfl<|?_
    rcases bE (decide (3 < Xe4.src)) with h10b | h11b
    ·skip
     have h10:=dT h10b
     refine k_s rfl h10b<|k_s rfl h10b<|k_s rfl h10b<|k_s rfl h10b<|k_f (fun a F w _=>Ht F rfl h10b rfl) rfl<|k_f (fun a F w _=>Cg F rfl) rfl<|k_s rfl rfl<|k_s rfl rfl<|k_s rfl rfl<|k_s rfl rfl<|k_u rfl<|k_u rfl<|k_u rfl<|k_s rfl rfl<|k_f (fun a F w _=>Ht F rfl rfl rfl) rfl<|k_f (fun a F w _=>Cg F rfl) rfl<|k_s rfl rfl<|k_s rfl rfl<|k_s rfl rfl<|k_u rfl<|k_u rfl<|k_u rfl<|k_u rfl<|k_u rfl<|?_
     refine k_u rfl<|k_u rfl<|k_u rfl<|k_u rfl<|k_s rfl rfl<|k_f (fun a F w _=>Ht F rfl rfl rfl) rfl<|D1<|Ad<|Bo rfl rfl<|Ab<|Ac<|Af rfl<|Aa<|Ad<|Ak<|Bk<|Au<|Au<|Bk<|Au<|Aj rfl rfl<|?_
     exact ⟨(M.weaken (.cons _ (sR _))),false,rfl,(by have hu:=Qs hk1e4;have q0:=Iz hXe4;have q9:=@Hm;clear M;unfold Gt at q0;grind)⟩
    ·skip
     have h11:=dF h11b
     refine C7 rfl h11b (fun a F w _=>Cm Fj.k rfl F rfl)<|H2 rfl h11b (fun a F w M=>Ap (agf Bq rfl) (F.ev rfl) (M.cellL (k:=0) rfl rfl))<|fun a F=>G8 F rfl rfl h11b ?_
     revert a
     refine g_t rfl h11b<|Bw Abg rfl rfl (K1 (s:=Xe4.v) M (by omega))<|?_;clear M;rintro _ w M ⟨b12,rfl,hb12⟩
     refine Aa<|eK (C':=Keep G [.blk b5 [.string (str Xe4.n),.int .u8 Xe4.src,.string (str Xe4.v)] 189]) (M.keep (Gle.refl _) (by simp)) (fun w h=>h.mono (Gle.refl _) (by simp))<|C7 rfl h11b (fun a F w _=>Gi (F.ev rfl))<|k_f (fun a F w _=>Gq F rfl h11b rfl) rfl<|k_f (fun a F w _=>Cg F rfl) rfl<|?_
     rcases bE (!(b12)) with h13b | h14b
     ·skip
      have h13:=Ah h13b
      have h13c:(b12)=false:=(Ah h13b)
      refine k_s rfl (Al h13c)<|k_s rfl (Al h13c)<|k_s rfl (Al h13c)<|k_s rfl (Al h13c)<|k_u rfl<|k_u rfl<|k_u rfl<|k_s rfl (Al h13c)<|k_f (fun a F w _=>Ht F rfl (Al h13c) rfl) rfl<|k_f (fun a F w _=>Cg F rfl) rfl<|k_s rfl rfl<|k_s rfl rfl<|k_s rfl rfl<|k_u rfl<|k_u rfl<|k_u rfl<|k_u rfl<|k_u rfl<|k_u rfl<|k_u rfl<|k_u rfl<|k_u rfl<|k_s rfl rfl<|k_f (fun a F w _=>Ht F rfl rfl rfl) rfl<|?_
      refine D1<|Ad<|Bo rfl rfl<|Ab<|Ac<|Af rfl<|Aa<|Ad<|Ak<|Bk<|Au<|Au<|Bk<|Au<|Aj rfl rfl<|?_
      exact ⟨(M.weaken (.cons _ (sR _))),false,rfl,(by have hu:=Qs hk1e4;have q0:=Iz hXe4;have q9:=@Hm;clear M;unfold Gt at q0;grind)⟩
     ·skip
      have h14:=Ai h14b
      have h14c:(b12)=true:=(Ai h14b)
      refine C7 rfl (Ag h14c) (fun a F w _=>Cm Fj.k rfl F rfl)<|H2 rfl (Ag h14c) (fun a F w M=>Ap (agf Ev rfl) (F.ev rfl) (M.cellL (k:=0) rfl rfl))<|C7 rfl (Ag h14c) (fun a F w _=>Kd (F.ev rfl) (F.ev rfl))<|C7 rfl (Ag h14c) (fun a F w _=>Cg F rfl)<|?_
      rcases bE (decide (0 < Xe4.src)) with h15b | h24b
      ·skip
       have h15:=dT h15b
       refine C7 rfl h15b (fun a F w _=>Cm Fj.k rfl F rfl)<|H2 rfl h15b (fun a F w M=>Ap (agf Bq rfl) (F.ev rfl) (M.cellL (k:=0) rfl rfl))<|C7 rfl h15b (fun a F w _=>I0 (F.ev rfl) (F.ev rfl))<|C7 rfl (Ag h14c) (fun a F w _=>Ht F rfl h15b rfl)<|k_f (fun a F w _=>Gq F rfl (Ag h14c) rfl) rfl<|k_f (fun a F w _=>Cg F rfl) rfl<|?_
       rcases bE (!(decide (Xe4.v=([]:List UInt8)))) with h16b | h17b
       ·skip
        have h16:=dF (Ah h16b)
        have h16c:(decide (Xe4.v=([]:List UInt8)))=false:=(Ah h16b)
        refine k_s rfl (Al h16c)<|k_s rfl (Al h16c)<|k_s rfl (Al h16c)<|k_u rfl<|k_u rfl<|k_u rfl<|k_u rfl<|k_u rfl<|k_u rfl<|k_u rfl<|k_u rfl<|k_u rfl<|k_s rfl (Al h16c)<|k_f (fun a F w _=>Ht F rfl (Al h16c) rfl) rfl<|D1<|Ad<|Bo rfl rfl<|Ab<|Ac<|Af rfl<|Aa<|Ad<|Ak<|Bk<|?_
        refine Au<|Au<|Bk<|Au<|Aj rfl rfl<|?_
        exact ⟨(M.weaken (.cons _ (sR _))),false,rfl,(by have hu:=Qs hk1e4;have q0:=Iz hXe4;have q9:=@Hm;clear M;unfold Gt at q0;grind)⟩
       ·skip
        have h17:=dT (Ai h17b)
        have h17c:(decide (Xe4.v=([]:List UInt8)))=true:=(Ai h17b)
        refine C7 rfl (Ag h17c) (fun a F w _=>Cg F rfl)<|C7 rfl (Ag h17c) (fun a F w _=>Kd (F.ev rfl) (F.ev rfl))<|C7 rfl (Ag h17c) (fun a F w _=>Cg F rfl)<|?_
        rcases bE (decide (0 < ((i:Nat):Int))) with h18b | h23b
        ·skip
         have h18:=dT h18b
         refine C7 rfl h18b (fun a F w _=>Cm Fj.k rfl F rfl)<|H2 rfl h18b (fun a F w M=>Ap (agf Bq rfl) (F.ev rfl) (M.cellL (k:=0) rfl rfl))<|C7 rfl h18b (fun a F w _=>Cg F rfl)<|C7 rfl h18b (fun a F w _=>Cg F rfl)<|C7 rfl h18b (fun a F w _=>K5 (F.ev rfl) (F.ev rfl) (Cu (by omega) (by omega)))<|?_
         have hs19:(((i:Nat):Int) - 1:Int)=((i - 1:Nat):Int):=by omega
         intro a F
         rw [hs19] at F
         obtain ⟨Xe20,hXe20⟩:=Bc (xs:=xs) (i:=i - 1) (by omega)
         obtain ⟨be20,oe20,_,Ie20,_,Ae20,⟨rfl,hn1e20,hk1e20,hv1e20⟩⟩:=S.at hXe20
         revert a
         refine C7 rfl h18b (fun a F w _=>Ce Fr.k Fj (F.ev rfl) (F.ev rfl) (by omega) Ie20)<|C7 rfl h18b (fun a F w _=>Cm Fj.k rfl F rfl)<|H2 rfl h18b (fun a F w M=>Ap (agf Bq rfl) (F.ev rfl) (M.cellA Ae20 0 rfl rfl))<|C7 rfl h18b (fun a F w _=>Mp (F.ev rfl) (F.ev rfl))<|C7 rfl (Ag h17c) (fun a F w _=>Ht F rfl h18b rfl)<|k_f (fun a F w _=>Gq F rfl (Ag h17c) rfl) rfl<|D1<|Ad<|Ax rfl ?_ ?_
         ·intro h21b
          have h21:(Op.bytesLess Xe4.n Xe20.n || Xe4.n==Xe20.n)=true:=h21b
          refine Ab<|Ac<|Af rfl<|Aa<|Ad<|Ak<|Bk<|Au<|Au<|Bk<|Au<|Aj rfl rfl<|?_
          exact ⟨(M.weaken (.cons _ (sR _))),false,rfl,(by have hu:=Qs hk1e4;have q0:=Iz hXe4;have q1:=T0 hXe4 hXe20;have q9:=@Hm;clear M;unfold Gt at q0;grind)⟩
         ·intro h22b
          have h22:(Op.bytesLess Xe4.n Xe20.n || Xe4.n==Xe20.n)=false:=h22b
          refine Aq<|C0<|Ad<|Ac<|B9 rfl rfl<|Ae rfl<|Aa<|Ad<|fun a F=>?_
          exact ⟨_,by omega,i+1,rfl,F.to ⟨rfl,rfl,rfl,rfl,trivial⟩,(M.weaken (.cons _ (sR _))),by omega,hS.step hXe4 (by have hu:=Qs hk1e4;clear F M;unfold Gt;grind) (fun y h_ hy=>by rw [hXe20] at hy;simp only [Option.some.injEq] at hy;subst hy;clear F M;have q99:=@Hm;grind)⟩
        ·skip
         have h23:=dF h23b
         refine k_s rfl h23b<|k_s rfl h23b<|k_s rfl h23b<|k_s rfl h23b<|k_s rfl h23b<|k_s rfl h23b<|k_s rfl h23b<|k_s rfl h23b<|k_s rfl h23b<|C7 rfl (Ag h17c) (fun a F w _=>Gq F rfl h23b rfl)<|k_f (fun a F w _=>Gq F rfl (Ag h17c) rfl) rfl<|D1<|Ad<|El rfl rfl<|Aq<|C0<|Ad<|Ac<|B9 rfl rfl<|Ae rfl<|Aa<|Ad<|fun a F=>?_
         exact ⟨_,by omega,i+1,rfl,F.to ⟨rfl,rfl,rfl,rfl,trivial⟩,(M.weaken (.cons _ (sR _))),by omega,hS.step hXe4 (by have hu:=Qs hk1e4;clear F M;unfold Gt;grind) (fun y h_=>by omega)⟩
      ·skip
       have h24:=dF h24b
       refine k_s rfl h24b<|k_s rfl h24b<|k_s rfl h24b<|C7 rfl (Ag h14c) (fun a F w _=>Gq F rfl h24b rfl)<|k_f (fun a F w _=>Gq F rfl (Ag h14c) rfl) rfl<|k_f (fun a F w _=>Cg F rfl) rfl<|C7 rfl rfl (fun a F w _=>Cg F rfl)<|C7 rfl rfl (fun a F w _=>Kd (F.ev rfl) (F.ev rfl))<|C7 rfl rfl (fun a F w _=>Cg F rfl)<|?_
       rcases bE (decide (0 < ((i:Nat):Int))) with h25b | h30b
       ·skip
        have h25:=dT h25b
        refine C7 rfl h25b (fun a F w _=>Cm Fj.k rfl F rfl)<|H2 rfl h25b (fun a F w M=>Ap (agf Bq rfl) (F.ev rfl) (M.cellL (k:=0) rfl rfl))<|C7 rfl h25b (fun a F w _=>Cg F rfl)<|C7 rfl h25b (fun a F w _=>Cg F rfl)<|C7 rfl h25b (fun a F w _=>K5 (F.ev rfl) (F.ev rfl) (Cu (by omega) (by omega)))<|?_
        have hs26:(((i:Nat):Int) - 1:Int)=((i - 1:Nat):Int):=by omega
        intro a F
        rw [hs26] at F
        obtain ⟨Xe27,hXe27⟩:=Bc (xs:=xs) (i:=i - 1) (by omega)
        obtain ⟨be27,oe27,_,Ie27,_,Ae27,⟨rfl,hn1e27,hk1e27,hv1e27⟩⟩:=S.at hXe27
        revert a
        refine C7 rfl h25b (fun a F w _=>Ce Fr.k Fj (F.ev rfl) (F.ev rfl) (by omega) Ie27)<|C7 rfl h25b (fun a F w _=>Cm Fj.k rfl F rfl)<|H2 rfl h25b (fun a F w M=>Ap (agf Bq rfl) (F.ev rfl) (M.cellA Ae27 0 rfl rfl))<|C7 rfl h25b (fun a F w _=>Mp (F.ev rfl) (F.ev rfl))<|C7 rfl rfl (fun a F w _=>Ht F rfl h25b rfl)<|k_f (fun a F w _=>Gq F rfl rfl rfl) rfl<|D1<|Ad<|Ax rfl ?_ ?_
        ·intro h28b
         have h28:(Op.bytesLess Xe4.n Xe27.n || Xe4.n==Xe27.n)=true:=h28b
         refine Ab<|Ac<|Af rfl<|Aa<|Ad<|Ak<|Bk<|Au<|Au<|Bk<|Au<|Aj rfl rfl<|?_
         exact ⟨(M.weaken (.cons _ (sR _))),false,rfl,(by have hu:=Qs hk1e4;have q0:=Iz hXe4;have q1:=T0 hXe4 hXe27;have q9:=@Hm;clear M;unfold Gt at q0;grind)⟩
        ·intro h29b
         have h29:(Op.bytesLess Xe4.n Xe27.n || Xe4.n==Xe27.n)=false:=h29b
         refine Aq<|C0<|Ad<|Ac<|B9 rfl rfl<|Ae rfl<|Aa<|Ad<|fun a F=>?_
         exact ⟨_,by omega,i+1,rfl,F.to ⟨rfl,rfl,rfl,rfl,trivial⟩,(M.weaken (.cons _ (sR _))),by omega,hS.step hXe4 (by have hu:=Qs hk1e4;clear F M;unfold Gt;grind) (fun y h_ hy=>by rw [hXe27] at hy;simp only [Option.some.injEq] at hy;subst hy;clear F M;have q99:=@Hm;grind)⟩
       ·skip
        have h30:=dF h30b
        refine k_s rfl h30b<|k_s rfl h30b<|k_s rfl h30b<|k_s rfl h30b<|k_s rfl h30b<|k_s rfl h30b<|k_s rfl h30b<|k_s rfl h30b<|k_s rfl h30b<|C7 rfl rfl (fun a F w _=>Gq F rfl h30b rfl)<|k_f (fun a F w _=>Gq F rfl rfl rfl) rfl<|D1<|Ad<|El rfl rfl<|Aq<|C0<|Ad<|Ac<|B9 rfl rfl<|Ae rfl<|Aa<|Ad<|fun a F=>?_
        exact ⟨_,by omega,i+1,rfl,F.to ⟨rfl,rfl,rfl,rfl,trivial⟩,(M.weaken (.cons _ (sR _))),by omega,hS.step hXe4 (by have hu:=Qs hk1e4;clear F M;unfold Gt;grind) (fun y h_=>by omega)⟩
  ·intro h31b
   have h31:=dF h31b
   refine B5<|B0<|B0<|Dr<|Ad<|Ab<|Ac<|Af rfl<|Aa<|Ad<|Ak<|Aj rfl rfl<|?_
   exact ⟨M,true,rfl,⟨fun _=>hS.done (by omega) (by omega),fun _=>rfl⟩⟩
theorem Xb (M:Mem w0 G L w) {rk:Rd PT} {x:PT} {ta:Option Addr} {tc:Nat} {ka:Option Addr} {kc:Nat} (hk:Aw .u8 x.kind) (hl:(x.tag.length≤9223372036854775807∧x.key.length≤9223372036854775807∧x.text.length≤9223372036854775807)) (SA:Az rdSlot 3 G (.slice ta x.as.length tc) x.as) (SK:Az rk 6 G (.slice ka x.kids.length kc) x.kids) {nb no:Nat} (A:At G nb no [.int .u8 x.kind,.string (str x.tag),.string (str x.key),.slice ta x.as.length tc,.string (str x.text),.slice ka x.kids.length kc]):Calls Tryz.prog 228 #[.pointer (some ⟨nb,no,none⟩)] w (Ci w0 G L fun v=>∃ bb:Bool,v=.bool bb∧(bb=true↔Cq x)):=by
 refine A0 (vs:=[_]) Tryz.func228 rfl (n:=91) rfl rfl<|Ab<|Ac<|Af rfl<|Aa<|Ad<|Ab<|Ac<|Ae rfl<|Em rfl<|Ar (fun a F=>Ao Cd rfl (F.ev rfl) (cs:=[.int .u8 x.kind,.string (str x.tag),.string (str x.key),.slice ta x.as.length tc,.string (str x.text),.slice ka x.kids.length kc]) rfl (M.cellsA A 0 (by omega) rfl)) rfl<|C6 M Cd rfl rfl<|?_;clear M;intro b1 w M
 intro a F
 refine Av F M Cd (k:=0) rfl rfl rfl (us:=[.int .u8 x.kind,.string (str x.tag),.string (str x.key),.slice ta x.as.length tc,.string (str x.text),.slice ka x.kids.length kc]) rfl rfl (by simp [Value.oneCell']) (by simp) ?_;clear F M a;intro w a M F
 change Mem w0 G (.blk b1 [.int .u8 x.kind,.string (str x.tag),.string (str x.key),.slice ta x.as.length tc,.string (str x.text),.slice ka x.kids.length kc] 79::L) _ at M
 revert a
 refine Aa<|Ad<|Ab<|Ab<|Ac<|Ae rfl<|Em rfl<|A2 Cd.k rfl rfl<|C2 Ev M A 0 rfl rfl rfl rfl<|Aa<|Ad<|A1<|Ab<|A1<|Ab<|A1<|Ab<|A1<|Ab<|A1<|Ab<|A1<|Ab<|Ab<|?_
 refine Ab<|Ac<|Dy rfl rfl<|Af rfl<|Aa<|Ad<|Ax rfl ?_ ?_
 ·intro h3b
  have h3:=dT h3b
  refine B5<|B0<|B0<|Dr<|Ad<|Ab<|Ab<|Ac<|Ae rfl<|Em rfl<|A2 Cd.k rfl rfl<|C2 Bq M A 2 rfl rfl rfl rfl<|Jz rfl rfl<|Ae rfl<|?_
  rcases bE (!(decide (x.key=([]:List UInt8)))) with h4b | h18b
  ·skip
   have h4:=dF (Ah h4b)
   have h4c:(decide (x.key=([]:List UInt8)))=false:=(Ah h4b)
   refine g_t rfl (Al h4c)<|Ae rfl<|g_t rfl (Al h4c)<|Em rfl<|g_t rfl (Al h4c)<|A2 Cd.k rfl rfl<|g_t rfl (Al h4c)<|C2 Bq M A 2 rfl rfl rfl rfl<|g_t rfl (Al h4c)<|Bw Pd rfl rfl (G7 (s:=x.key) M (by omega))<|?_;clear M;rintro _ w M ⟨b5,rfl,hb5⟩
   refine g_t rfl (Al h4c)<|C5 rfl<|Bj rfl (Al h4c) rfl<|Ae rfl<|?_
   rcases bE (!(b5)) with h6b | h7b
   ·skip
    have h6:=Ah h6b
    have h6c:(b5)=false:=(Ah h6b)
    refine g_f rfl (Al h6c)<|g_f rfl (Al h6c)<|g_f rfl (Al h6c)<|g_f rfl (Al h6c)<|g_f rfl (Al h6c)<|g_f rfl (Al h6c)<|Bj rfl (Al h6c) rfl<|Aa<|Ad<|Bo rfl rfl<|Ab<|Ac<|Af rfl<|Aa<|Ad<|Ak<|Au<|Bk<|Au<|Bk<|Au<|Bk<|Au<|Bk<|?_
    refine Au<|Bk<|Au<|Aj rfl rfl<|?_
    exact ⟨(M.weaken (.cons _ (sR _))),false,rfl,(by clear M;unfold Cq;grind)⟩
   ·skip
    have h7:=Ai h7b
    have h7c:(b5)=true:=(Ai h7b)
    refine g_t rfl (Ag h7c)<|Ae rfl<|g_t rfl (Ag h7c)<|Em rfl<|g_t rfl (Ag h7c)<|A2 Cd.k rfl rfl<|g_t rfl (Ag h7c)<|C2 Fw M A 5 rfl rfl rfl rfl<|g_t rfl (Ag h7c)<|B8 Fw.k rfl<|g_t rfl (Ag h7c)<|Df rfl rfl<|Bh rfl (Ag h7c) rfl<|Aa<|Ad<|Ax rfl ?_ ?_
    ·intro h8b
     have h8:=dT h8b
     refine Ab<|Ac<|Af rfl<|Aa<|Ad<|Ak<|Au<|Bk<|Au<|Bk<|Au<|Bk<|Au<|Bk<|Au<|Bk<|Au<|Aj rfl rfl<|?_
     exact ⟨(M.weaken (.cons _ (sR _))),false,rfl,(by clear M;unfold Cq;grind)⟩
    ·intro h9b
     have h9:=dF h9b
     refine Aq<|Ad<|Ac<|A2 Cd.k rfl rfl<|Fp Bq M 0 rfl rfl rfl rfl rfl rfl<|?_;clear M;intro w M
     refine A2 Cd.k rfl rfl<|Fp Fw M 0 rfl rfl rfl rfl rfl rfl<|?_;clear M;intro w M
     refine Aa<|C0<|Ad<|Ab<|Ab<|Ab<|Ac<|Ae rfl<|Em rfl<|A2 Cd.k rfl rfl<|C2 Bq M A 1 rfl rfl rfl rfl<|Bw Pd rfl rfl (G7 (s:=x.tag) M (by omega))<|?_;clear M;rintro _ w M ⟨b10,rfl,hb10⟩
     refine C5 rfl<|Ae rfl<|?_
     rcases bE (!(b10)) with h11b | h12b
     ·skip
      have h11:=Ah h11b
      have h11c:(b10)=false:=(Ah h11b)
      refine g_f rfl (Al h11c)<|g_f rfl (Al h11c)<|g_f rfl (Al h11c)<|g_f rfl (Al h11c)<|g_f rfl (Al h11c)<|g_f rfl (Al h11c)<|Bj rfl (Al h11c) rfl<|Aa<|Ad<|Bo rfl rfl<|Ab<|Ac<|Af rfl<|Aa<|Ad<|Ak<|Au<|Au<|Bk<|Au<|Bk<|Au<|Bk<|Au<|?_
      refine Bk<|Au<|Aj rfl rfl<|?_
      exact ⟨(M.weaken (.cons _ (sR _))),false,rfl,(by clear M;unfold Cq;grind)⟩
     ·skip
      have h12:=Ai h12b
      have h12c:(b10)=true:=(Ai h12b)
      refine g_t rfl (Ag h12c)<|Ae rfl<|g_t rfl (Ag h12c)<|Em rfl<|g_t rfl (Ag h12c)<|A2 Cd.k rfl rfl<|g_t rfl (Ag h12c)<|C2 Fr M A 3 rfl rfl rfl rfl<|g_t rfl (Ag h12c)<|Bw Abe rfl rfl (K0 (xs:=x.as) M SA (by have:=SA.bound;omega))<|?_;clear M;rintro _ w M ⟨b13,rfl,hb13⟩
      refine g_t rfl (Ag h12c)<|C5 rfl<|Bh rfl (Ag h12c) rfl<|Aa<|Ad<|Ax rfl ?_ ?_
      ·intro h14b
       have h14:=Ah h14b
       have h14c:(b13)=false:=(Ah h14b)
       refine Ab<|Ac<|Af rfl<|Aa<|Ad<|Ak<|Au<|Au<|Bk<|Au<|Bk<|Au<|Bk<|Au<|Bk<|Au<|Aj rfl rfl<|?_
       exact ⟨(M.weaken (.cons _ (sR _))),false,rfl,(by clear M;unfold Cq;grind)⟩
      ·intro h15b
       have h15:=Ai h15b
       have h15c:(b13)=true:=(Ai h15b)
       refine Aq<|Ad<|Ac<|A2 Cd.k rfl rfl<|Fp Bq M 0 rfl rfl rfl rfl rfl rfl<|?_;clear M;intro w M
       refine A2 Cd.k rfl rfl<|Fp Fr M 0 rfl rfl rfl rfl rfl rfl<|?_;clear M;intro w M
       refine Aa<|Ad<|B5<|Ie rfl<|B0<|Ie rfl<|B0<|Ie rfl<|B0<|Dr<|Ad<|Ab<|Ac<|A2 Cd.k rfl rfl<|Bi Bq M 0 rfl rfl rfl rfl<|F0 rfl rfl<|Ae rfl<|g_t rfl (by decide)<|A2 Cd.k rfl rfl<|g_t rfl (by decide)<|Bi Bq M 0 rfl rfl rfl rfl<|g_t rfl (by decide)<|F0 rfl rfl<|Bj rfl (by decide) rfl<|?_
       refine Ae rfl<|g_t rfl (by decide)<|A2 Cd.k rfl rfl<|g_t rfl (by decide)<|Bi Bq M 0 rfl rfl rfl rfl<|g_t rfl (by decide)<|F0 rfl rfl<|Bj rfl (by decide) rfl<|Ae rfl<|?_
       rcases bE (decide (x.text=([]:List UInt8))) with h16b | h17b
       ·skip
        have h16:=dT h16b
        refine g_t rfl h16b<|A2 Cd.k rfl rfl<|g_t rfl h16b<|Bi Fr M 0 rfl rfl rfl rfl<|g_t rfl h16b<|B8 Fr.k rfl<|g_t rfl h16b<|Dy rfl rfl<|Bj rfl h16b rfl<|Ae rfl<|g_t rfl (decide_eq_true (by decide))<|A2 Cd.k rfl rfl<|g_t rfl (decide_eq_true (by decide))<|Bi Fw M 0 rfl rfl rfl rfl<|g_t rfl (decide_eq_true (by decide))<|B8 Fw.k rfl<|g_t rfl (decide_eq_true (by decide))<|Dy rfl rfl<|Bj rfl (decide_eq_true (by decide)) rfl<|Af rfl<|Aa<|Ad<|Ak<|Aj rfl rfl<|?_
        exact ⟨(M.weaken (.cons _ (sR _))),(decide (((0:Nat):Int)=0)),rfl,(by clear M;unfold Cq;grind)⟩
       ·skip
        have h17:=dF h17b
        refine g_f rfl h17b<|g_f rfl h17b<|g_f rfl h17b<|g_f rfl h17b<|Bh rfl h17b rfl<|Ae rfl<|g_f rfl rfl<|g_f rfl rfl<|g_f rfl rfl<|g_f rfl rfl<|Bh rfl rfl rfl<|Af rfl<|Aa<|Ad<|Ak<|Aj rfl rfl<|?_
        exact ⟨(M.weaken (.cons _ (sR _))),false,rfl,(by clear M;unfold Cq;grind)⟩
  ·skip
   have h18:=dT (Ai h18b)
   have h18c:(decide (x.key=([]:List UInt8)))=true:=(Ai h18b)
   refine g_f rfl (Ag h18c)<|g_f rfl (Ag h18c)<|g_f rfl (Ag h18c)<|g_f rfl (Ag h18c)<|g_f rfl (Ag h18c)<|g_f rfl (Ag h18c)<|Bh rfl (Ag h18c) rfl<|Ae rfl<|g_t rfl rfl<|Ae rfl<|g_t rfl rfl<|Em rfl<|g_t rfl rfl<|A2 Cd.k rfl rfl<|g_t rfl rfl<|C2 Fw M A 5 rfl rfl rfl rfl<|g_t rfl rfl<|B8 Fw.k rfl<|g_t rfl rfl<|Df rfl rfl<|Bh rfl rfl rfl<|Aa<|Ad<|Ax rfl ?_ ?_
   ·intro h19b
    have h19:=dT h19b
    refine Ab<|Ac<|Af rfl<|Aa<|Ad<|Ak<|Au<|Bk<|Au<|Bk<|Au<|Bk<|Au<|Bk<|Au<|Bk<|Au<|Aj rfl rfl<|?_
    exact ⟨(M.weaken (.cons _ (sR _))),false,rfl,(by clear M;unfold Cq;grind)⟩
   ·intro h20b
    have h20:=dF h20b
    refine Aq<|Ad<|Ac<|A2 Cd.k rfl rfl<|Fp Bq M 0 rfl rfl rfl rfl rfl rfl<|?_;clear M;intro w M
    refine A2 Cd.k rfl rfl<|Fp Fw M 0 rfl rfl rfl rfl rfl rfl<|?_;clear M;intro w M
    refine Aa<|C0<|Ad<|Ab<|Ab<|Ab<|Ac<|Ae rfl<|Em rfl<|A2 Cd.k rfl rfl<|C2 Bq M A 1 rfl rfl rfl rfl<|Bw Pd rfl rfl (G7 (s:=x.tag) M (by omega))<|?_;clear M;rintro _ w M ⟨b21,rfl,hb21⟩
    refine C5 rfl<|Ae rfl<|?_
    rcases bE (!(b21)) with h22b | h23b
    ·skip
     have h22:=Ah h22b
     have h22c:(b21)=false:=(Ah h22b)
     refine g_f rfl (Al h22c)<|g_f rfl (Al h22c)<|g_f rfl (Al h22c)<|g_f rfl (Al h22c)<|g_f rfl (Al h22c)<|g_f rfl (Al h22c)<|Bj rfl (Al h22c) rfl<|Aa<|Ad<|Bo rfl rfl<|Ab<|Ac<|Af rfl<|Aa<|Ad<|Ak<|Au<|Au<|Bk<|Au<|Bk<|Au<|Bk<|Au<|?_
     refine Bk<|Au<|Aj rfl rfl<|?_
     exact ⟨(M.weaken (.cons _ (sR _))),false,rfl,(by clear M;unfold Cq;grind)⟩
    ·skip
     have h23:=Ai h23b
     have h23c:(b21)=true:=(Ai h23b)
     refine g_t rfl (Ag h23c)<|Ae rfl<|g_t rfl (Ag h23c)<|Em rfl<|g_t rfl (Ag h23c)<|A2 Cd.k rfl rfl<|g_t rfl (Ag h23c)<|C2 Fr M A 3 rfl rfl rfl rfl<|g_t rfl (Ag h23c)<|Bw Abe rfl rfl (K0 (xs:=x.as) M SA (by have:=SA.bound;omega))<|?_;clear M;rintro _ w M ⟨b24,rfl,hb24⟩
     refine g_t rfl (Ag h23c)<|C5 rfl<|Bh rfl (Ag h23c) rfl<|Aa<|Ad<|Ax rfl ?_ ?_
     ·intro h25b
      have h25:=Ah h25b
      have h25c:(b24)=false:=(Ah h25b)
      refine Ab<|Ac<|Af rfl<|Aa<|Ad<|Ak<|Au<|Au<|Bk<|Au<|Bk<|Au<|Bk<|Au<|Bk<|Au<|Aj rfl rfl<|?_
      exact ⟨(M.weaken (.cons _ (sR _))),false,rfl,(by clear M;unfold Cq;grind)⟩
     ·intro h26b
      have h26:=Ai h26b
      have h26c:(b24)=true:=(Ai h26b)
      refine Aq<|Ad<|Ac<|A2 Cd.k rfl rfl<|Fp Bq M 0 rfl rfl rfl rfl rfl rfl<|?_;clear M;intro w M
      refine A2 Cd.k rfl rfl<|Fp Fr M 0 rfl rfl rfl rfl rfl rfl<|?_;clear M;intro w M
      refine Aa<|Ad<|B5<|Ie rfl<|B0<|Ie rfl<|B0<|Ie rfl<|B0<|Dr<|Ad<|Ab<|Ac<|A2 Cd.k rfl rfl<|Bi Bq M 0 rfl rfl rfl rfl<|F0 rfl rfl<|Ae rfl<|g_t rfl (by decide)<|A2 Cd.k rfl rfl<|g_t rfl (by decide)<|Bi Bq M 0 rfl rfl rfl rfl<|g_t rfl (by decide)<|F0 rfl rfl<|Bj rfl (by decide) rfl<|?_
      refine Ae rfl<|g_t rfl (by decide)<|A2 Cd.k rfl rfl<|g_t rfl (by decide)<|Bi Bq M 0 rfl rfl rfl rfl<|g_t rfl (by decide)<|F0 rfl rfl<|Bj rfl (by decide) rfl<|Ae rfl<|?_
      rcases bE (decide (x.text=([]:List UInt8))) with h27b | h28b
      ·skip
       have h27:=dT h27b
       refine g_t rfl h27b<|A2 Cd.k rfl rfl<|g_t rfl h27b<|Bi Fr M 0 rfl rfl rfl rfl<|g_t rfl h27b<|B8 Fr.k rfl<|g_t rfl h27b<|Dy rfl rfl<|Bj rfl h27b rfl<|Ae rfl<|g_t rfl (decide_eq_true (by decide))<|A2 Cd.k rfl rfl<|g_t rfl (decide_eq_true (by decide))<|Bi Fw M 0 rfl rfl rfl rfl<|g_t rfl (decide_eq_true (by decide))<|B8 Fw.k rfl<|g_t rfl (decide_eq_true (by decide))<|Dy rfl rfl<|Bj rfl (decide_eq_true (by decide)) rfl<|Af rfl<|Aa<|Ad<|Ak<|Aj rfl rfl<|?_
       exact ⟨(M.weaken (.cons _ (sR _))),(decide (((0:Nat):Int)=0)),rfl,(by clear M;unfold Cq;grind)⟩
      ·skip
       have h28:=dF h28b
       refine g_f rfl h28b<|g_f rfl h28b<|g_f rfl h28b<|g_f rfl h28b<|Bh rfl h28b rfl<|Ae rfl<|g_f rfl rfl<|g_f rfl rfl<|g_f rfl rfl<|g_f rfl rfl<|Bh rfl rfl rfl<|Af rfl<|Aa<|Ad<|Ak<|Aj rfl rfl<|?_
       exact ⟨(M.weaken (.cons _ (sR _))),false,rfl,(by clear M;unfold Cq;grind)⟩
 ·intro h29b
  have h29:=dF h29b
  refine Aq<|Ad<|Ab<|Ab<|Ac<|Dy rfl rfl<|Af rfl<|Aa<|Ad<|Ax rfl ?_ ?_
  ·intro h30b
   have h30:=dT h30b
   refine B5<|B0<|B0<|Ie rfl<|B0<|Dr<|Ad<|Ab<|Ab<|Ab<|Ac<|Ae rfl<|Em rfl<|A2 Cd.k rfl rfl<|C2 Bq M A 1 rfl rfl rfl rfl<|Bw Pd rfl rfl (G7 (s:=x.tag) M (by omega))<|?_;clear M;rintro _ w M ⟨b31,rfl,hb31⟩
   refine C5 rfl<|Ae rfl<|?_
   rcases bE (!(b31)) with h32b | h33b
   ·skip
    have h32:=Ah h32b
    have h32c:(b31)=false:=(Ah h32b)
    refine g_f rfl (Al h32c)<|g_f rfl (Al h32c)<|g_f rfl (Al h32c)<|g_f rfl (Al h32c)<|g_f rfl (Al h32c)<|g_f rfl (Al h32c)<|Bj rfl (Al h32c) rfl<|Aa<|Ad<|Bo rfl rfl<|Ab<|Ac<|Af rfl<|Aa<|Ad<|Ak<|Au<|Au<|Bk<|Au<|Bk<|Au<|Bk<|Au<|?_
    refine Bk<|Au<|Aj rfl rfl<|?_
    exact ⟨(M.weaken (.cons _ (sR _))),false,rfl,(by clear M;unfold Cq;grind)⟩
   ·skip
    have h33:=Ai h33b
    have h33c:(b31)=true:=(Ai h33b)
    refine g_t rfl (Ag h33c)<|Ae rfl<|g_t rfl (Ag h33c)<|Em rfl<|g_t rfl (Ag h33c)<|A2 Cd.k rfl rfl<|g_t rfl (Ag h33c)<|C2 Fr M A 3 rfl rfl rfl rfl<|g_t rfl (Ag h33c)<|Bw Abe rfl rfl (K0 (xs:=x.as) M SA (by have:=SA.bound;omega))<|?_;clear M;rintro _ w M ⟨b34,rfl,hb34⟩
    refine g_t rfl (Ag h33c)<|C5 rfl<|Bh rfl (Ag h33c) rfl<|Aa<|Ad<|Ax rfl ?_ ?_
    ·intro h35b
     have h35:=Ah h35b
     have h35c:(b34)=false:=(Ah h35b)
     refine Ab<|Ac<|Af rfl<|Aa<|Ad<|Ak<|Au<|Au<|Bk<|Au<|Bk<|Au<|Bk<|Au<|Bk<|Au<|Aj rfl rfl<|?_
     exact ⟨(M.weaken (.cons _ (sR _))),false,rfl,(by clear M;unfold Cq;grind)⟩
    ·intro h36b
     have h36:=Ai h36b
     have h36c:(b34)=true:=(Ai h36b)
     refine Aq<|Ad<|Ac<|A2 Cd.k rfl rfl<|Fp Bq M 0 rfl rfl rfl rfl rfl rfl<|?_;clear M;intro w M
     refine A2 Cd.k rfl rfl<|Fp Fr M 0 rfl rfl rfl rfl rfl rfl<|?_;clear M;intro w M
     refine Aa<|Ad<|B5<|Ie rfl<|B0<|Ie rfl<|B0<|Ie rfl<|B0<|Dr<|Ad<|Ab<|Ac<|A2 Cd.k rfl rfl<|Bi Bq M 0 rfl rfl rfl rfl<|F0 rfl rfl<|Ae rfl<|g_t rfl (by decide)<|A2 Cd.k rfl rfl<|g_t rfl (by decide)<|Bi Bq M 0 rfl rfl rfl rfl<|g_t rfl (by decide)<|F0 rfl rfl<|Bj rfl (by decide) rfl<|?_
     refine Ae rfl<|?_
     rcases bE (decide (x.key=([]:List UInt8))) with h37b | h40b
     ·skip
      have h37:=dT h37b
      refine g_t rfl h37b<|A2 Cd.k rfl rfl<|g_t rfl h37b<|Bi Bq M 0 rfl rfl rfl rfl<|g_t rfl h37b<|F0 rfl rfl<|Bj rfl h37b rfl<|Ae rfl<|?_
      rcases bE (decide (x.text=([]:List UInt8))) with h38b | h39b
      ·skip
       have h38:=dT h38b
       refine g_t rfl h38b<|A2 Cd.k rfl rfl<|g_t rfl h38b<|Bi Fr M 0 rfl rfl rfl rfl<|g_t rfl h38b<|B8 Fr.k rfl<|g_t rfl h38b<|Dy rfl rfl<|Bj rfl h38b rfl<|Ae rfl<|g_t rfl (decide_eq_true (by decide))<|A2 Cd.k rfl rfl<|g_t rfl (decide_eq_true (by decide))<|Bi Fw M 0 rfl rfl rfl rfl<|g_t rfl (decide_eq_true (by decide))<|B8 Fw.k rfl<|g_t rfl (decide_eq_true (by decide))<|Dy rfl rfl<|Bj rfl (decide_eq_true (by decide)) rfl<|Af rfl<|Aa<|Ad<|Ak<|Aj rfl rfl<|?_
       exact ⟨(M.weaken (.cons _ (sR _))),(decide (((x.kids.length:Nat):Int)=0)),rfl,(by clear M;unfold Cq;grind)⟩
      ·skip
       have h39:=dF h39b
       refine g_f rfl h39b<|g_f rfl h39b<|g_f rfl h39b<|g_f rfl h39b<|Bh rfl h39b rfl<|Ae rfl<|g_f rfl rfl<|g_f rfl rfl<|g_f rfl rfl<|g_f rfl rfl<|Bh rfl rfl rfl<|Af rfl<|Aa<|Ad<|Ak<|Aj rfl rfl<|?_
       exact ⟨(M.weaken (.cons _ (sR _))),false,rfl,(by clear M;unfold Cq;grind)⟩
     ·skip
      have h40:=dF h40b
      refine g_f rfl h40b<|g_f rfl h40b<|g_f rfl h40b<|Bh rfl h40b rfl<|Ae rfl<|g_f rfl rfl<|g_f rfl rfl<|g_f rfl rfl<|g_f rfl rfl<|Bh rfl rfl rfl<|Ae rfl<|g_f rfl rfl<|g_f rfl rfl<|g_f rfl rfl<|g_f rfl rfl<|Bh rfl rfl rfl<|Af rfl<|Aa<|Ad<|Ak<|Aj rfl rfl<|?_
      exact ⟨(M.weaken (.cons _ (sR _))),false,rfl,(by clear M;unfold Cq;grind)⟩
  ·intro h41b
   have h41:=dF h41b
   refine Aq<|Ad<|Ab<|Ab<|Ac<|Dy rfl rfl<|Af rfl<|Aa<|Ad<|Ax rfl ?_ ?_
   ·intro h42b
    have h42:=dT h42b
    refine B5<|B0<|B0<|Ie rfl<|B0<|Ie rfl<|B0<|Dr<|Ad<|Ab<|Ab<|Ab<|Ac<|Ae rfl<|Em rfl<|A2 Cd.k rfl rfl<|C2 Bq M A 4 rfl rfl rfl rfl<|Bw Abg rfl rfl (K1 (s:=x.text) M (by omega))<|?_;clear M;rintro _ w M ⟨b43,rfl,hb43⟩
    refine C5 rfl<|Aa<|Ad<|Ax rfl ?_ ?_
    ·intro h44b
     have h44:=Ah h44b
     have h44c:(b43)=false:=(Ah h44b)
     refine Ab<|Ac<|Af rfl<|Aa<|Ad<|Ak<|Au<|Au<|Bk<|Au<|Bk<|Au<|Bk<|Au<|Aj rfl rfl<|?_
     exact ⟨(M.weaken (.cons _ (sR _))),false,rfl,(by clear M;unfold Cq;grind)⟩
    ·intro h45b
     have h45:=Ai h45b
     have h45c:(b43)=true:=(Ai h45b)
     refine Aq<|Ad<|Ac<|A2 Cd.k rfl rfl<|Fp Bq M 0 rfl rfl rfl rfl rfl rfl<|?_;clear M;intro w M
     refine Aa<|Ad<|B5<|Ie rfl<|B0<|Ie rfl<|B0<|Dr<|Ad<|Ab<|Ac<|A2 Cd.k rfl rfl<|Bi Bq M 0 rfl rfl rfl rfl<|F0 rfl rfl<|Ae rfl<|?_
     rcases bE (decide (x.tag=([]:List UInt8))) with h46b | h51b
     ·skip
      have h46:=dT h46b
      refine g_t rfl h46b<|A2 Cd.k rfl rfl<|g_t rfl h46b<|Bi Bq M 0 rfl rfl rfl rfl<|g_t rfl h46b<|F0 rfl rfl<|Bj rfl h46b rfl<|Ae rfl<|?_
      rcases bE (decide (x.key=([]:List UInt8))) with h47b | h50b
      ·skip
       have h47:=dT h47b
       refine g_t rfl h47b<|A2 Cd.k rfl rfl<|g_t rfl h47b<|Bi Bq M 0 rfl rfl rfl rfl<|g_t rfl h47b<|F0 rfl rfl<|Bj rfl h47b rfl<|Ae rfl<|g_t rfl (by decide)<|A2 Cd.k rfl rfl<|g_t rfl (by decide)<|Bi Fr M 0 rfl rfl rfl rfl<|g_t rfl (by decide)<|B8 Fr.k rfl<|g_t rfl (by decide)<|Dy rfl rfl<|Bj rfl (by decide) rfl<|Ae rfl<|?_
       rcases bE (decide (((x.as.length:Nat):Int)=0)) with h48b | h49b
       ·skip
        have h48:=dT h48b
        refine g_t rfl h48b<|A2 Cd.k rfl rfl<|g_t rfl h48b<|Bi Fw M 0 rfl rfl rfl rfl<|g_t rfl h48b<|B8 Fw.k rfl<|g_t rfl h48b<|Dy rfl rfl<|Bj rfl h48b rfl<|Af rfl<|Aa<|Ad<|Ak<|Aj rfl rfl<|?_
        exact ⟨(M.weaken (.cons _ (sR _))),(decide (((x.kids.length:Nat):Int)=0)),rfl,(by clear M;unfold Cq;grind)⟩
       ·skip
        have h49:=dF h49b
        refine g_f rfl h49b<|g_f rfl h49b<|g_f rfl h49b<|g_f rfl h49b<|Bh rfl h49b rfl<|Af rfl<|Aa<|Ad<|Ak<|Aj rfl rfl<|?_
        exact ⟨(M.weaken (.cons _ (sR _))),false,rfl,(by clear M;unfold Cq;grind)⟩
      ·skip
       have h50:=dF h50b
       refine g_f rfl h50b<|g_f rfl h50b<|g_f rfl h50b<|Bh rfl h50b rfl<|Ae rfl<|g_f rfl rfl<|g_f rfl rfl<|g_f rfl rfl<|g_f rfl rfl<|Bh rfl rfl rfl<|Ae rfl<|g_f rfl rfl<|g_f rfl rfl<|g_f rfl rfl<|g_f rfl rfl<|Bh rfl rfl rfl<|Af rfl<|Aa<|Ad<|Ak<|Aj rfl rfl<|?_
       exact ⟨(M.weaken (.cons _ (sR _))),false,rfl,(by clear M;unfold Cq;grind)⟩
     ·skip
      have h51:=dF h51b
      refine g_f rfl h51b<|g_f rfl h51b<|g_f rfl h51b<|Bh rfl h51b rfl<|Ae rfl<|g_f rfl rfl<|g_f rfl rfl<|g_f rfl rfl<|Bh rfl rfl rfl<|Ae rfl<|g_f rfl rfl<|g_f rfl rfl<|g_f rfl rfl<|g_f rfl rfl<|Bh rfl rfl rfl<|Ae rfl<|g_f rfl rfl<|g_f rfl rfl<|g_f rfl rfl<|g_f rfl rfl<|Bh rfl rfl rfl<|Af rfl<|Aa<|Ad<|?_
      refine Ak<|Aj rfl rfl<|?_
      exact ⟨(M.weaken (.cons _ (sR _))),false,rfl,(by clear M;unfold Cq;grind)⟩
   ·intro h52b
    have h52:=dF h52b
    refine Aq<|Ad<|Ab<|Ab<|Ac<|Dy rfl rfl<|Af rfl<|Aa<|Ad<|Ax rfl ?_ ?_
    ·intro h53b
     have h53:=dT h53b
     refine Aq<|Ad<|Bo rfl h53b<|B5<|B0<|Ie rfl<|B0<|Ie rfl<|B0<|Ie rfl<|B0<|Dr<|Ad<|B5<|Ie rfl<|B0<|Dr<|Ad<|Ab<|Ac<|A2 Cd.k rfl rfl<|Bi Bq M 0 rfl rfl rfl rfl<|F0 rfl rfl<|Ae rfl<|?_
     rcases bE (decide (x.tag=([]:List UInt8))) with h54b | h61b
     ·skip
      have h54:=dT h54b
      refine g_t rfl h54b<|A2 Cd.k rfl rfl<|g_t rfl h54b<|Bi Bq M 0 rfl rfl rfl rfl<|g_t rfl h54b<|F0 rfl rfl<|Bj rfl h54b rfl<|Ae rfl<|?_
      rcases bE (decide (x.key=([]:List UInt8))) with h55b | h60b
      ·skip
       have h55:=dT h55b
       refine g_t rfl h55b<|A2 Cd.k rfl rfl<|g_t rfl h55b<|Bi Bq M 0 rfl rfl rfl rfl<|g_t rfl h55b<|F0 rfl rfl<|Bj rfl h55b rfl<|Ae rfl<|?_
       rcases bE (decide (x.text=([]:List UInt8))) with h56b | h59b
       ·skip
        have h56:=dT h56b
        refine g_t rfl h56b<|A2 Cd.k rfl rfl<|g_t rfl h56b<|Bi Fr M 0 rfl rfl rfl rfl<|g_t rfl h56b<|B8 Fr.k rfl<|g_t rfl h56b<|Dy rfl rfl<|Bj rfl h56b rfl<|Ae rfl<|?_
        rcases bE (decide (((x.as.length:Nat):Int)=0)) with h57b | h58b
        ·skip
         have h57:=dT h57b
         refine g_t rfl h57b<|A2 Cd.k rfl rfl<|g_t rfl h57b<|Bi Fw M 0 rfl rfl rfl rfl<|g_t rfl h57b<|B8 Fw.k rfl<|g_t rfl h57b<|Dy rfl rfl<|Bj rfl h57b rfl<|Af rfl<|Aa<|Ad<|Ak<|Aj rfl rfl<|?_
         exact ⟨(M.weaken (.cons _ (sR _))),(decide (((x.kids.length:Nat):Int)=0)),rfl,(by clear M;unfold Cq;grind)⟩
        ·skip
         have h58:=dF h58b
         refine g_f rfl h58b<|g_f rfl h58b<|g_f rfl h58b<|g_f rfl h58b<|Bh rfl h58b rfl<|Af rfl<|Aa<|Ad<|Ak<|Aj rfl rfl<|?_
         exact ⟨(M.weaken (.cons _ (sR _))),false,rfl,(by clear M;unfold Cq;grind)⟩
       ·skip
        have h59:=dF h59b
        refine g_f rfl h59b<|g_f rfl h59b<|g_f rfl h59b<|g_f rfl h59b<|Bh rfl h59b rfl<|Ae rfl<|g_f rfl rfl<|g_f rfl rfl<|g_f rfl rfl<|g_f rfl rfl<|Bh rfl rfl rfl<|Af rfl<|Aa<|Ad<|Ak<|Aj rfl rfl<|?_
        exact ⟨(M.weaken (.cons _ (sR _))),false,rfl,(by clear M;unfold Cq;grind)⟩
      ·skip
       have h60:=dF h60b
       refine g_f rfl h60b<|g_f rfl h60b<|g_f rfl h60b<|Bh rfl h60b rfl<|Ae rfl<|g_f rfl rfl<|g_f rfl rfl<|g_f rfl rfl<|g_f rfl rfl<|Bh rfl rfl rfl<|Ae rfl<|g_f rfl rfl<|g_f rfl rfl<|g_f rfl rfl<|g_f rfl rfl<|Bh rfl rfl rfl<|Af rfl<|Aa<|Ad<|Ak<|Aj rfl rfl<|?_
       exact ⟨(M.weaken (.cons _ (sR _))),false,rfl,(by clear M;unfold Cq;grind)⟩
     ·skip
      have h61:=dF h61b
      refine g_f rfl h61b<|g_f rfl h61b<|g_f rfl h61b<|Bh rfl h61b rfl<|Ae rfl<|g_f rfl rfl<|g_f rfl rfl<|g_f rfl rfl<|Bh rfl rfl rfl<|Ae rfl<|g_f rfl rfl<|g_f rfl rfl<|g_f rfl rfl<|g_f rfl rfl<|Bh rfl rfl rfl<|Ae rfl<|g_f rfl rfl<|g_f rfl rfl<|g_f rfl rfl<|g_f rfl rfl<|Bh rfl rfl rfl<|Af rfl<|Aa<|Ad<|?_
      refine Ak<|Aj rfl rfl<|?_
      exact ⟨(M.weaken (.cons _ (sR _))),false,rfl,(by clear M;unfold Cq;grind)⟩
    ·intro h62b
     have h62:=dF h62b
     refine Ac<|Dy rfl rfl<|Af rfl<|Aa<|Ad<|Ax rfl ?_ ?_
     ·intro h63b
      have h63:=dT h63b
      refine B5<|B0<|Ie rfl<|B0<|Ie rfl<|B0<|Ie rfl<|B0<|Dr<|Ad<|B5<|Ie rfl<|B0<|Dr<|Ad<|Ab<|Ac<|A2 Cd.k rfl rfl<|Bi Bq M 0 rfl rfl rfl rfl<|F0 rfl rfl<|Ae rfl<|?_
      rcases bE (decide (x.tag=([]:List UInt8))) with h64b | h71b
      ·skip
       have h64:=dT h64b
       refine g_t rfl h64b<|A2 Cd.k rfl rfl<|g_t rfl h64b<|Bi Bq M 0 rfl rfl rfl rfl<|g_t rfl h64b<|F0 rfl rfl<|Bj rfl h64b rfl<|Ae rfl<|?_
       rcases bE (decide (x.key=([]:List UInt8))) with h65b | h70b
       ·skip
        have h65:=dT h65b
        refine g_t rfl h65b<|A2 Cd.k rfl rfl<|g_t rfl h65b<|Bi Bq M 0 rfl rfl rfl rfl<|g_t rfl h65b<|F0 rfl rfl<|Bj rfl h65b rfl<|Ae rfl<|?_
        rcases bE (decide (x.text=([]:List UInt8))) with h66b | h69b
        ·skip
         have h66:=dT h66b
         refine g_t rfl h66b<|A2 Cd.k rfl rfl<|g_t rfl h66b<|Bi Fr M 0 rfl rfl rfl rfl<|g_t rfl h66b<|B8 Fr.k rfl<|g_t rfl h66b<|Dy rfl rfl<|Bj rfl h66b rfl<|Ae rfl<|?_
         rcases bE (decide (((x.as.length:Nat):Int)=0)) with h67b | h68b
         ·skip
          have h67:=dT h67b
          refine g_t rfl h67b<|A2 Cd.k rfl rfl<|g_t rfl h67b<|Bi Fw M 0 rfl rfl rfl rfl<|g_t rfl h67b<|B8 Fw.k rfl<|g_t rfl h67b<|Dy rfl rfl<|Bj rfl h67b rfl<|Af rfl<|Aa<|Ad<|Ak<|Aj rfl rfl<|?_
          exact ⟨(M.weaken (.cons _ (sR _))),(decide (((x.kids.length:Nat):Int)=0)),rfl,(by clear M;unfold Cq;grind)⟩
         ·skip
          have h68:=dF h68b
          refine g_f rfl h68b<|g_f rfl h68b<|g_f rfl h68b<|g_f rfl h68b<|Bh rfl h68b rfl<|Af rfl<|Aa<|Ad<|Ak<|Aj rfl rfl<|?_
          exact ⟨(M.weaken (.cons _ (sR _))),false,rfl,(by clear M;unfold Cq;grind)⟩
        ·skip
         have h69:=dF h69b
         refine g_f rfl h69b<|g_f rfl h69b<|g_f rfl h69b<|g_f rfl h69b<|Bh rfl h69b rfl<|Ae rfl<|g_f rfl rfl<|g_f rfl rfl<|g_f rfl rfl<|g_f rfl rfl<|Bh rfl rfl rfl<|Af rfl<|Aa<|Ad<|Ak<|Aj rfl rfl<|?_
         exact ⟨(M.weaken (.cons _ (sR _))),false,rfl,(by clear M;unfold Cq;grind)⟩
       ·skip
        have h70:=dF h70b
        refine g_f rfl h70b<|g_f rfl h70b<|g_f rfl h70b<|Bh rfl h70b rfl<|Ae rfl<|g_f rfl rfl<|g_f rfl rfl<|g_f rfl rfl<|g_f rfl rfl<|Bh rfl rfl rfl<|Ae rfl<|g_f rfl rfl<|g_f rfl rfl<|g_f rfl rfl<|g_f rfl rfl<|Bh rfl rfl rfl<|Af rfl<|Aa<|Ad<|Ak<|Aj rfl rfl<|?_
        exact ⟨(M.weaken (.cons _ (sR _))),false,rfl,(by clear M;unfold Cq;grind)⟩
      ·skip
       have h71:=dF h71b
       refine g_f rfl h71b<|g_f rfl h71b<|g_f rfl h71b<|Bh rfl h71b rfl<|Ae rfl<|g_f rfl rfl<|g_f rfl rfl<|g_f rfl rfl<|Bh rfl rfl rfl<|Ae rfl<|g_f rfl rfl<|g_f rfl rfl<|g_f rfl rfl<|g_f rfl rfl<|Bh rfl rfl rfl<|Ae rfl<|g_f rfl rfl<|g_f rfl rfl<|g_f rfl rfl<|g_f rfl rfl<|Bh rfl rfl rfl<|Af rfl<|Aa<|Ad<|?_
       refine Ak<|Aj rfl rfl<|?_
       exact ⟨(M.weaken (.cons _ (sR _))),false,rfl,(by clear M;unfold Cq;grind)⟩
     ·intro h72b
      have h72:=dF h72b
      refine Aq<|Ad<|B5<|Ie rfl<|B0<|Ie rfl<|B0<|Ie rfl<|B0<|Ie rfl<|B0<|Dr<|Ad<|Ab<|Ab<|Ac<|Af rfl<|Aa<|Ad<|Ak<|Au<|Bk<|Au<|Aj rfl rfl<|?_
      exact ⟨(M.weaken (.cons _ (sR _))),false,rfl,(by clear M;unfold Cq;grind)⟩
open Go Go.Y Go.Proofs
variable {w0 w:World} {G:A4} {L:List Res}
set_option linter.unusedSimpArgs false
set_option linter.unusedVariables false
/-- What the function that is called for each part does: it takes a state further. -/
structure FEff (w0:World) (ff:FuncId) (caps:List Value) {σ:Type} (Rs:σ→List Res) (stp:σ→PT→σ):Prop where
 ent:Ent Tryz.prog ff
 run:∀ {w:World} {G:A4} {L:List Res} {nb no:Nat} {s:σ} {x:PT} {ta ka:Option Addr} {tc kc:Nat},Mem w0 G (Rs s++L) w→Aw .u8 x.kind→(x.tag.length≤9223372036854775807∧x.key.length≤9223372036854775807∧x.text.length≤9223372036854775807)→Az rdSlot 3 G (.slice ta x.as.length tc) x.as→Az rdP 6 G (.slice ka x.kids.length kc) x.kids→At G nb no [.int .u8 x.kind,.string (str x.tag),.string (str x.key),.slice ta x.as.length tc,.string (str x.text),.slice ka x.kids.length kc]→Cq x →
  Calls Tryz.prog ff (.pointer (some ⟨nb,no,none⟩)::caps).toArray w (Jr w0 G fun L' v=>v=.tuple #[]∧L' = Rs (stp s x)++L)
def WalkP (w0:World) (ff:FuncId) (caps:List Value) {σ:Type} (Rs:σ→List Res) (stp:σ→PT→σ) (x:PT):Prop:=∀ (w:World) (G:A4) (L:List Res) (cb fb eb nb no c lev:Nat) (s:σ) (ta ka:Option Addr) (tc kc:Nat),Mem w0 G (.blk cb [.int .i64 ((c:Nat):Int)] 3::.blk fb [.func (.func ff) #[] caps.toArray] 286::.blk eb [.func (.func 227) #[] #[.pointer (some ⟨cb,0,none⟩),.pointer (some ⟨fb,0,none⟩),.pointer (some ⟨eb,0,none⟩)]] 297::(Rs s++L)) w →
  Aw .u8 x.kind→(x.tag.length≤9223372036854775807∧x.key.length≤9223372036854775807∧x.text.length≤9223372036854775807)→Az rdSlot 3 G (.slice ta x.as.length tc) x.as→Az rdP 6 G (.slice ka x.kids.length kc) x.kids→At G nb no [.int .u8 x.kind,.string (str x.tag),.string (str x.key),.slice ta x.as.length tc,.string (str x.text),.slice ka x.kids.length kc]→c≤64→1≤lev→lev≤7→Calls Tryz.prog 227 #[.pointer (some ⟨nb,no,none⟩),.int .i64 (lev:Int),.pointer (some ⟨cb,0,none⟩),.pointer (some ⟨fb,0,none⟩),.pointer (some ⟨eb,0,none⟩)] w (Jr w0 G fun L' v=>∃ (bb:Bool) (c':Nat) (s':σ),v=.bool bb∧L' = (.blk cb [.int .i64 ((c':Nat):Int)] 3::.blk fb [.func (.func ff) #[] caps.toArray] 286::.blk eb [.func (.func 227) #[] #[.pointer (some ⟨cb,0,none⟩),.pointer (some ⟨fb,0,none⟩),.pointer (some ⟨eb,0,none⟩)]] 297::(Rs s'++L))∧(bb=true↔Tr.Ok Cq (7 - lev) x∧c+x.size≤64)∧(bb=true→c' = c+x.size∧s' = Qr stp s x))
theorem tw_step {w0:World} {ff:FuncId} {caps:List Value} {σ:Type} {Rs:σ→List Res} {stp:σ→PT→σ} (hF:FEff w0 ff caps Rs stp) {x:PT} (ih:∀ y∈x.kids,WalkP w0 ff caps Rs stp y) {w:World} {G:A4} {L:List Res} {cb fb eb nb no c lev:Nat} {s:σ} {ta ka:Option Addr} {tc kc:Nat} (M:Mem w0 G (.blk cb [.int .i64 ((c:Nat):Int)] 3::.blk fb [.func (.func ff) #[] caps.toArray] 286::.blk eb [.func (.func 227) #[] #[.pointer (some ⟨cb,0,none⟩),.pointer (some ⟨fb,0,none⟩),.pointer (some ⟨eb,0,none⟩)]] 297::(Rs s++L)) w) (hk:Aw .u8 x.kind) (hl:(x.tag.length≤9223372036854775807∧x.key.length≤9223372036854775807∧x.text.length≤9223372036854775807))
  (SA:Az rdSlot 3 G (.slice ta x.as.length tc) x.as) (SK:Az rdP 6 G (.slice ka x.kids.length kc) x.kids) (A:At G nb no [.int .u8 x.kind,.string (str x.tag),.string (str x.key),.slice ta x.as.length tc,.string (str x.text),.slice ka x.kids.length kc]) (hc:c≤64) (hl1:1≤lev) (hl2:lev≤7) :
  Calls Tryz.prog 227 #[.pointer (some ⟨nb,no,none⟩),.int .i64 (lev:Int),.pointer (some ⟨cb,0,none⟩),.pointer (some ⟨fb,0,none⟩),.pointer (some ⟨eb,0,none⟩)] w (Jr w0 G fun L' v=>∃ (bb:Bool) (c':Nat) (s':σ),v=.bool bb∧L' = (.blk cb [.int .i64 ((c':Nat):Int)] 3::.blk fb [.func (.func ff) #[] caps.toArray] 286::.blk eb [.func (.func 227) #[] #[.pointer (some ⟨cb,0,none⟩),.pointer (some ⟨fb,0,none⟩),.pointer (some ⟨eb,0,none⟩)]] 297::(Rs s'++L))∧(bb=true↔Tr.Ok Cq (7 - lev) x∧c+x.size≤64)∧(bb=true→c' = c+x.size∧s' = Qr stp s x)):=by
 refine A0 (vs:=[_,_,_,_,_]) Tryz.func227 rfl (n:=45) rfl rfl<|Ab<|Ac<|Af rfl<|Aa<|Ad<|Ab<|Ac<|Bi B7 M 0 rfl rfl rfl rfl<|B9 rfl rfl<|Fp B7 M 0 rfl rfl rfl rfl rfl rfl<|?_;clear M;intro w M
 refine Aa<|Ad<|Ab<|Ab<|Ac<|Ae rfl<|Df rfl rfl<|Ae rfl<|?_
 rcases bE (decide (6 < (lev:Int))) with h1b | h2b
 ·skip
  have h1:=dT h1b
  refine g_f rfl h1b<|g_f rfl h1b<|Bj rfl h1b rfl<|Ae rfl<|g_f rfl rfl<|g_f rfl rfl<|g_f rfl rfl<|Bj rfl rfl rfl<|Aa<|Ad<|Bo rfl rfl<|Ab<|Ac<|Af rfl<|Aa<|Ad<|Ak<|Au<|Aj rfl rfl<|?_
  replace M:=M.perm (Am _ 2 _ rfl)
  replace M:=M.perm (Am _ 2 _ rfl)
  replace M:=M.perm (Am _ 2 _ rfl)
  change Mem w0 G (.blk cb [.int .i64 (((c:Nat):Int)+1)] 3::_::_::(Rs s++L)) _ at M
  exact ⟨_,M,false,_,_,rfl,rfl,⟨fun h_=>(by cases h_),fun h_=>absurd h_ (J5 (by clear M;grind))⟩,fun h_=>(by cases h_)⟩
 ·skip
  have h2:=dF h2b
  refine g_t rfl h2b<|Bi B7 M 0 rfl rfl rfl rfl<|g_t rfl h2b<|Df rfl rfl<|Bh rfl h2b rfl<|Ae rfl<|?_
  rcases bE (decide (64 < ((c:Nat):Int)+1)) with h3b | h4b
  ·skip
   have h3:=dT h3b
   refine g_f rfl h3b<|g_f rfl h3b<|g_f rfl h3b<|Bj rfl h3b rfl<|Aa<|Ad<|Bo rfl rfl<|Ab<|Ac<|Af rfl<|Aa<|Ad<|Ak<|Au<|Aj rfl rfl<|?_
   replace M:=M.perm (Am _ 2 _ rfl)
   replace M:=M.perm (Am _ 2 _ rfl)
   replace M:=M.perm (Am _ 2 _ rfl)
   change Mem w0 G (.blk cb [.int .i64 (((c:Nat):Int)+1)] 3::_::_::(Rs s++L)) _ at M
   exact ⟨_,M,false,_,_,rfl,rfl,⟨fun h_=>(by cases h_),fun h_=>absurd h_ (J5 (by clear M;grind))⟩,fun h_=>(by cases h_)⟩
  ·skip
   have h4:=dF h4b
   refine g_t rfl h4b<|Ae rfl<|g_t rfl h4b<|Bw ent228 rfl rfl (Xb (x:=x) M hk hl SA SK A)<|?_;clear M;rintro _ w M ⟨b5,rfl,hb5⟩
   refine g_t rfl h4b<|C5 rfl<|Bh rfl h4b rfl<|Aa<|Ad<|Ax rfl ?_ ?_
   ·intro h6b
    have h6:=Ah h6b
    have h6c:(b5)=false:=(Ah h6b)
    refine Ab<|Ac<|Af rfl<|Aa<|Ad<|Ak<|Au<|Aj rfl rfl<|?_
    replace M:=M.perm (Am _ 2 _ rfl)
    replace M:=M.perm (Am _ 2 _ rfl)
    replace M:=M.perm (Am _ 2 _ rfl)
    change Mem w0 G (.blk cb [.int .i64 (((c:Nat):Int)+1)] 3::_::_::(Rs s++L)) _ at M
    exact ⟨_,M,false,_,_,rfl,rfl,⟨fun h_=>(by cases h_),fun h_=>absurd h_ (J5 (by clear M;grind))⟩,fun h_=>(by cases h_)⟩
   ·intro h7b
    have h7:=Ai h7b
    have h7c:(b5)=true:=(Ai h7b)
    refine Aq<|Ad<|Ab<|?_
    have hAl:Cq x:=by clear M;grind
    have hl6:lev≤6:=by omega
    have hkl:=S4 hAl
    refine Ac<|Bi tok286 M 1 rfl rfl rfl rfl<|Ae rfl<|?_
    replace M:=M.perm (Am _ 2 _ rfl)
    replace M:=M.perm (Am _ 2 _ rfl)
    replace M:=M.perm (Am _ 2 _ rfl)
    change Mem w0 G (.blk cb [.int .i64 (((c:Nat):Int)+1)] 3::_::_::(Rs s++L)) _ at M
    replace M:=M.perm (Ua _ _)
    intro a F
    refine Ot F hF.ent (caps:=caps) rfl rfl rfl (hF.run (s:=s) (x:=x) M hk hl SA SK A hAl) ?_;clear F M a;rintro _ _ w a M ⟨rfl,rfl⟩ F
    replace M:=M.perm (Ua _ _).symm
    revert a
    refine Aa<|Ad<|Ab<|Ab<|Ac<|Ae rfl<|Em rfl<|A2 Cd.k rfl rfl<|C2 Fw M A 5 rfl rfl rfl rfl<|B8 Fw.k rfl<|Ae rfl<|Aa<|Ad<|A1<|fun a F=>B2 (fun m a' w'=>∃ (i:Nat),∃ (ci:Nat),∃ (si:σ),m=x.kids.length - i∧Fits 45 a' [(0,.pointer (some ⟨nb,no,none⟩)),(1,.int .i64 ((lev:Int))),(2,.pointer (some ⟨cb,0,none⟩)),(3,.pointer (some ⟨fb,0,none⟩)),(4,.pointer (some ⟨eb,0,none⟩)),(28,.slice ka x.kids.length kc),(29,.int .i64 ((x.kids.length:Nat):Int)),(30,.int .i64 ((i:Nat):Int))]∧Mem w0 G (.blk cb [.int .i64 ((ci:Nat):Int)] 3::.blk fb [.func (.func ff) #[] caps.toArray] 286::.blk eb [.func (.func 227) #[] #[.pointer (some ⟨cb,0,none⟩),.pointer (some ⟨fb,0,none⟩),.pointer (some ⟨eb,0,none⟩)]] 297::(Rs si++L)) w'∧(i≤x.kids.length)∧(ci=c+1+Tr.sizes (x.kids.take i)∧ci≤64)∧(si=Hw stp (stp s x) (x.kids.take i))∧(∀ (m:Nat) (y:PT),m < i→x.kids[m]?=some y→Tr.Ok Cq (7 - (lev+1)) y)) _ ⟨0,c+1,(stp s x),rfl,F.to ⟨rfl,rfl,rfl,rfl,rfl,rfl,rfl,rfl,trivial⟩,M,Nat.zero_le _,⟨by simp [Tr.sizes],by omega⟩,by simp [Hw],fun m y h=>by omega⟩ ?_
    clear F M
    rintro m a w ⟨i,ci,si,rfl,F,M,hi,hci,hsi,hO⟩
    revert a
    refine Ab<|Ac<|C9 rfl rfl<|Aa<|Ad<|Ab<|Ax rfl ?_ ?_
    ·intro h8b
     have h8:=dT h8b
     refine Aq<|Ad<|Ab<|A1<|Ab<|Ac<|Ae rfl<|Af rfl<|Aa<|Ad<|Ab<|fun a F=>Fb [(.pure,0),(.free,1),(.free,2),(.free,3),(.pure,4),(.free,5),(.free,6),(.free,7),(.free,8),(.keep,9),(.free,10)] [] (Keep G [.blk eb [.func (.func 227) #[] #[.pointer (some ⟨cb,0,none⟩),.pointer (some ⟨fb,0,none⟩),.pointer (some ⟨eb,0,none⟩)]] 297]) rfl (by kernel_rfl) (fun c a d v w h=>by cases d <;> exact h) ((M.drew _).keep (Gle.refl _) (by simp)) ?_
     replace M:=M.drew (w.drawn+1)
     revert a
     refine k_p (fun a F w M=>Ap (agf Vl rfl) (F.ev rfl) (M.cellL (k:=0) rfl rfl)) rfl<|k_f (fun a F w _=>Cg F rfl) rfl<|k_f (fun a F w _=>Dz (F.ev rfl)) rfl<|k_f (fun a F w _=>Cm Cd.k rfl F rfl) rfl<|k_p (fun a F w M=>Ap (agf Fw rfl) (F.ev rfl) (M.cellA A 5 rfl rfl)) rfl<|k_f (fun a F w _=>Cg F rfl) rfl<|?_
     obtain ⟨Xe9,hXe9⟩:=Bc (xs:=x.kids) (i:=i) (by omega)
     obtain ⟨be9,oe9,_,Ie9,_,Ae9,hTe9⟩:=SK.at hXe9
     obtain ⟨tae9,tce9,kae9,kce9,rfl,hke9,hle9,SAe9,SKe9⟩:=Ft hTe9
     refine k_f (fun a F w _=>Ce Fw.k Cd (F.ev rfl) (F.ev rfl) (by omega) Ie9) rfl<|k_f (fun a F w _=>Cg F rfl) rfl<|k_f (fun a F w _=>F3 (F.ev rfl) (F.ev rfl) (Cu (by omega) (by omega))) rfl<|k_k rfl<|?_
     replace M:=M.perm (Am _ 2 _ rfl)
     replace M:=M.perm (Am _ 2 _ rfl)
     replace M:=M.perm (Am _ 2 _ rfl)
     change Mem w0 G (_::_::_::(Rs si++L)) _ at M
     refine s_vL Ajo (caps:=[.pointer (some ⟨cb,0,none⟩),.pointer (some ⟨fb,0,none⟩),.pointer (some ⟨eb,0,none⟩)]) rfl rfl rfl (ih Xe9 (List.mem_of_getElem? hXe9) _ _ L _ _ _ _ _ ci (lev+1) si _ _ _ _ M hke9 hle9 SAe9 SKe9 Ae9 (by omega) (by omega) (by omega))<|?_;clear M;rintro _ _ w M ⟨b10,cb10,sb10,rfl,rfl,hb10,eb10⟩
     refine Aa<|eK (C':=Keep G [.blk eb [.func (.func 227) #[] #[.pointer (some ⟨cb,0,none⟩),.pointer (some ⟨fb,0,none⟩),.pointer (some ⟨eb,0,none⟩)]] 297]) (M.keep (Gle.refl _) (by simp)) (fun w h=>h.mono (Gle.refl _) (by simp))<|k_f (fun a F w _=>Gi (F.ev rfl)) rfl<|D1<|Ad<|Ax rfl ?_ ?_
     ·intro h11b
      have h11:=Ah h11b
      have h11c:(b10)=false:=(Ah h11b)
      refine Ab<|Ac<|Af rfl<|Aa<|Ad<|Ak<|Bk<|Au<|Au<|Bk<|Au<|Aj rfl rfl<|?_
      replace M:=M.perm (Am _ 2 _ rfl)
      replace M:=M.perm (Am _ 2 _ rfl)
      replace M:=M.perm (Am _ 2 _ rfl)
      change Mem w0 G (_::_::_::(Rs sb10++L)) _ at M
      exact ⟨_,M,false,_,_,rfl,rfl,⟨fun h_=>(by cases h_),fun h_=>absurd h_ (P2 hXe9 hl6 (by rw [← hci.1];exact fun h_=>by have h9:=hb10.2 h_;simp_all))⟩,fun h_=>(by cases h_)⟩
     ·intro h12b
      have h12:=Ai h12b
      have h12c:(b10)=true:=(Ai h12b)
      refine Aq<|C0<|Ad<|Ac<|B9 rfl rfl<|Ae rfl<|Aa<|Ad<|?_
      have hq:=hb10.1 (by assumption)
      obtain ⟨hc2,hd2⟩:=eb10 (by assumption)
      have hs2:=Tr.sizes_snoc hXe9
      intro a F
      exact ⟨_,by omega,i+1,cb10,sb10,rfl,F.to ⟨rfl,rfl,rfl,rfl,rfl,rfl,rfl,rfl,trivial⟩,M,by omega,by omega,by rw [Wz stp hXe9,← hsi];exact hd2,V6 hO hXe9 hq.1⟩
    ·intro h13b
     have h13:=dF h13b
     refine B5<|B0<|B0<|Dr<|Ad<|Ab<|Ac<|Af rfl<|Aa<|Ad<|Ak<|Aj rfl rfl<|?_
     replace M:=M.perm (Am _ 2 _ rfl)
     replace M:=M.perm (Am _ 2 _ rfl)
     replace M:=M.perm (Am _ 2 _ rfl)
     change Mem w0 G (_::_::_::(Rs si++L)) _ at M
     have hf:=Ka (x:=x) (i:=i) (by omega)
     rw [List.take_of_length_le (by omega)] at hsi
     exact ⟨_,M,true,_,_,rfl,rfl,⟨fun _=>⟨Yk hl6 hAl (by omega) hO,by omega⟩,fun _=>rfl⟩,fun _=>⟨by omega,by rw [Ago];exact hsi⟩⟩
theorem tw_all {w0:World} {ff:FuncId} {caps:List Value} {σ:Type} {Rs:σ→List Res} {stp:σ→PT→σ} (hF:FEff w0 ff caps Rs stp) (x:PT):WalkP w0 ff caps Rs stp x:=by
 induction x using Tr.ind with
 | _ x ih=>intro w G L cb fb eb nb no c lev s ta ka tc kc M hk hl SA SK A hc hl1 hl2;exact tw_step hF ih M hk hl SA SK A hc hl1 hl2
theorem Zo {w0:World} {ff:FuncId} {caps:List Value} {σ:Type} {Rs:σ→List Res} {stp:σ→PT→σ} (hF:FEff w0 ff caps Rs stp) {x:PT} {w:World} {G:A4} {L:List Res} {nb no:Nat} {s:σ} {ta ka:Option Addr} {tc kc:Nat} (M:Mem w0 G (Rs s++L) w) (hk:Aw .u8 x.kind) (hl:(x.tag.length≤9223372036854775807∧x.key.length≤9223372036854775807∧x.text.length≤9223372036854775807))
  (SA:Az rdSlot 3 G (.slice ta x.as.length tc) x.as) (SK:Az rdP 6 G (.slice ka x.kids.length kc) x.kids) (A:At G nb no [.int .u8 x.kind,.string (str x.tag),.string (str x.key),.slice ta x.as.length tc,.string (str x.text),.slice ka x.kids.length kc]) :
  Calls Tryz.prog 212 #[.pointer (some ⟨nb,no,none⟩),.func (.func ff) #[] caps.toArray] w (Jr w0 G fun L' v=>∃ (k:Nat) (s':σ),v=.int .i64 (k:Int)∧L' = (Rs s'++L)∧k=cntP x∧(ValidP x→s' = Qr stp s x)):=by
 refine A0 (vs:=[_,_]) Tryz.func212 rfl (n:=18) rfl rfl<|Ab<|Ac<|C1 M rfl rfl rfl<|?_;clear M;intro b1 w M
 refine Af rfl<|Aa<|Ad<|Ab<|Ab<|Ac<|Ae rfl<|Em rfl<|A2 Cd.k rfl rfl<|C2 Ev M A 0 rfl rfl rfl rfl<|D9 rfl rfl<|Aa<|Ad<|Ax rfl ?_ ?_
 ·intro h2b
  have h2:=dF (Ah h2b)
  have h2c:(decide (x.kind=1))=false:=(Ah h2b)
  refine Ab<|Ac<|Af rfl<|Aa<|Ad<|Ak<|Au<|Aj rfl rfl<|?_
  have hV:¬ ValidP x:=fun h_=>by have:=h_.1;omega
  exact ⟨_,M.weaken (.cons _ (sR _)),0,s,rfl,rfl,(Ws hV).symm,fun h_=>absurd h_ hV⟩
 ·intro h3b
  have h3:=dT (Ai h3b)
  have h3c:(decide (x.kind=1))=true:=(Ai h3b)
  refine Aq<|Ad<|Ab<|Ac<|C6 M B7 rfl rfl<|?_;clear M;intro b4 w M
  refine Fp B7 M 0 rfl rfl rfl rfl rfl rfl<|?_;clear M;intro w M
  refine Aa<|Ad<|Ab<|Ac<|C6 M Vl rfl rfl<|?_;clear M;intro b6 w M
  refine Aa<|Ad<|Ab<|Ac<|Ar (fun a F=>De (vs:=#[.pointer (some ⟨b4,0,none⟩),.pointer (some ⟨b1,0,none⟩),.pointer (some ⟨b6,0,none⟩)]) (by simp only [List.map_toArray,List.map_cons,List.map_nil,F.ev (x:=.tmp 5) rfl,F.ev (x:=.tmp 3) rfl,F.ev (x:=.tmp 6) rfl])) rfl<|Fp Vl M 0 rfl rfl rfl rfl rfl rfl<|?_;clear M;intro w M
  refine Aa<|Ad<|Ab<|Ab<|Ac<|Bi Vl M 0 rfl rfl rfl rfl<|Ae rfl<|?_
  replace M:=M.perm (Am _ 2 _ rfl)
  replace M:=M.perm (Am _ 2 _ rfl)
  change Mem w0 G (.blk b4 [.int .i64 0] 3::_::.blk b6 [.func (.func 227) #[] #[.pointer (some ⟨b4,0,none⟩),.pointer (some ⟨b1,0,none⟩),.pointer (some ⟨b6,0,none⟩)]] 297::(Rs s++L)) _ at M
  refine s_vL Ajo (caps:=[.pointer (some ⟨b4,0,none⟩),.pointer (some ⟨b1,0,none⟩),.pointer (some ⟨b6,0,none⟩)]) rfl rfl rfl (tw_all hF x _ _ L _ _ _ _ _ 0 1 s _ _ _ _ M hk hl SA SK A (by omega) (by omega) (by omega))<|?_;clear M;rintro _ _ w M ⟨b8,cb8,sb8,rfl,rfl,hb8,eb8⟩
  refine C5 rfl<|Aa<|Ad<|Ax rfl ?_ ?_
  ·intro h9b
   have h9:=Ah h9b
   have h9c:(b8)=false:=(Ah h9b)
   refine Ab<|Ac<|Af rfl<|Aa<|Ad<|Ak<|Au<|Aj rfl rfl<|?_
   have hV:¬ ValidP x:=fun h_=>by have h9:=hb8.2 ⟨h_.2.1,by have:=h_.2.2;omega⟩;simp_all
   exact ⟨_,M.weaken (.cons _ (.cons _ (.cons _ (sR _)))),0,_,rfl,rfl,(Ws hV).symm,fun h_=>absurd h_ hV⟩
  ·intro h10b
   have h10:=Ai h10b
   have h10c:(b8)=true:=(Ai h10b)
   refine Aq<|Ad<|Ab<|Ac<|Bi B7 M 0 rfl rfl rfl rfl<|Af rfl<|Aa<|Ad<|Ak<|Aj rfl rfl<|?_
   have hq:=hb8.1 (by assumption)
   have hV:ValidP x:=⟨by omega,hq.1,by omega⟩
   obtain ⟨hc2,hd2⟩:=eb8 (by assumption)
   exact ⟨_,M.weaken (.cons _ (.cons _ (.cons _ (sR _)))),_,_,rfl,rfl,by rw [Y8 hV];omega,fun _=>hd2⟩
theorem Z0 (M:Mem w0 G L w) {v:Value}:Calls Tryz.prog 213 #[v] w (Jr w0 G fun L' v=>v=.tuple #[]∧L' = L):=by
 refine A0 (vs:=[_]) Tryz.func213 rfl (n:=2) rfl rfl<|Aq<|fun a F=>Aje F rfl ?_
 exact ⟨_,M,rfl,rfl⟩
theorem Aba {w0:World}:FEff w0 213 [] (fun _:Unit=>[]) (fun _ _=>()):=⟨ent213,fun M _ _ _ _ _ _=>Z0 M⟩
theorem Zz (M:Mem w0 G L w) {x:PT} {ta:Option Addr} {tc:Nat} {ka:Option Addr} {kc:Nat} (hk:Aw .u8 x.kind) (hl:(x.tag.length≤9223372036854775807∧x.key.length≤9223372036854775807∧x.text.length≤9223372036854775807)) (SA:Az rdSlot 3 G (.slice ta x.as.length tc) x.as) (SK:Az rdP 6 G (.slice ka x.kids.length kc) x.kids):Calls Tryz.prog 189 #[.agg #[.int .u8 x.kind,.string (str x.tag),.string (str x.key),.slice ta x.as.length tc,.string (str x.text),.slice ka x.kids.length kc]] w (Ret w0 G L fun _ v=>v=.int .i64 ((cntP x:Nat):Int)):=by
 refine A0 (vs:=[_]) Tryz.func189 rfl (n:=4) rfl rfl<|Ab<|Ac<|C1 M rfl rfl rfl<|?_;clear M;intro b1 w M
 refine Af rfl<|Aa<|Ad<|Ab<|?_
 obtain ⟨Gq2,hGq2,hbq2,M⟩:=M.freeze (k:=0) rfl
 have Aq2:At Gq2 b1 0 [.int .u8 x.kind,.string (str x.tag),.string (str x.key),.slice ta x.as.length tc,.string (str x.text),.slice ka x.kids.length kc]:=At.of_cells hbq2
 clear hbq2
 replace SA:=SA.mono Fc hGq2
 replace SK:=SK.mono mono_rdP hGq2
 change Mem w0 Gq2 (L) _ at M
 refine Ac<|?_
 change Mem w0 Gq2 (L) _ at M
 refine Oj ent212 rfl rfl (Zo Aba (x:=x) (s:=()) (L:=L) M hk hl SA SK Aq2)<|?_;clear M;rintro _ _ w M ⟨k3,sk3,rfl,hLk3,hk3,ek3⟩
 intro a F
 rw [hLk3] at M;clear hLk3
 replace M:Mem w0 Gq2 (L) _:=M
 revert a
 refine Af rfl<|Aa<|Ad<|Ak<|Aj rfl rfl<|?_
 exact ⟨_,hGq2,M.weaken (sR _),by rw [hk3]⟩
theorem Xa (M:Mem w0 G L w) {x:PT} {ta:Option Addr} {tc:Nat} {ka:Option Addr} {kc:Nat} (hk:Aw .u8 x.kind) (hl:(x.tag.length≤9223372036854775807∧x.key.length≤9223372036854775807∧x.text.length≤9223372036854775807)) (SA:Az rdSlot 3 G (.slice ta x.as.length tc) x.as) (SK:Az rdP 6 G (.slice ka x.kids.length kc) x.kids):Calls Tryz.prog 189 #[.agg #[.int .u8 x.kind,.string (str x.tag),.string (str x.key),.slice ta x.as.length tc,.string (str x.text),.slice ka x.kids.length kc]] w (Ci w0 G L fun v=>v=.int .i64 ((cntP x:Nat):Int)):=Ret.plain M (Zz M hk hl SA SK)
theorem tcheck_spec (M:Mem w0 G L w) {x:PT} {ta:Option Addr} {tc:Nat} {ka:Option Addr} {kc:Nat} (hk:Aw .u8 x.kind) (hl:(x.tag.length≤9223372036854775807∧x.key.length≤9223372036854775807∧x.text.length≤9223372036854775807)) (SA:Az rdSlot 3 G (.slice ta x.as.length tc) x.as) (SK:Az rdP 6 G (.slice ka x.kids.length kc) x.kids):Calls Tryz.prog 155 #[.agg #[.int .u8 x.kind,.string (str x.tag),.string (str x.key),.slice ta x.as.length tc,.string (str x.text),.slice ka x.kids.length kc]] w (Ci w0 G L fun v=>v=.int .i64 (Zb x)):=by
 refine A0 (vs:=[_]) Tryz.func155 rfl (n:=6) rfl rfl<|Ab<|Ac<|C1 M rfl rfl rfl<|?_;clear M;intro b1 w M
 refine Af rfl<|Aa<|Ad<|Ab<|Ab<|Ac<|Ar (fun a F=>Ao Cd rfl (F.ev rfl) (cs:=[.int .u8 x.kind,.string (str x.tag),.string (str x.key),.slice ta x.as.length tc,.string (str x.text),.slice ka x.kids.length kc]) rfl (M.cellsL (k:=0) rfl rfl)) rfl<|Bw ent189 rfl rfl (Xa (x:=x) M hk hl SA SK)<|?_;clear M;rintro _ w M rfl
 refine Dy rfl rfl<|Aa<|Ad<|Ax rfl ?_ ?_
 ·intro h2b
  have h2:=dT h2b
  refine Ab<|Ac<|Af rfl<|Aa<|Ad<|Ak<|Au<|Aj rfl rfl<|?_
  exact ⟨M.weaken (.cons _ (sR _)),by rw [Ade fun h_=>by have:=Y9.2 h_;omega]⟩
 ·intro h3b
  have h3:=dF h3b
  refine Aq<|Ad<|Ab<|Ac<|Af rfl<|Aa<|Ad<|Ak<|Aj rfl rfl<|?_
  exact ⟨M.weaken (.cons _ (sR _)),by rw [Akr (Y9.1 (by omega))]⟩
open Go Go.Y Go.Proofs
variable {w0 w:World} {G:A4} {L:List Res}
set_option linter.unusedSimpArgs false
set_option linter.unusedVariables false
theorem Akq (M:Mem w0 G L w) {s:List UInt8} (hs:s.length≤9223372036854775807):Calls Tryz.prog 215 #[.string (str s)] w (Ci w0 G L fun v=>∃ b:Bool,v=.bool b∧(b=true↔¬ Da s)):=by
 refine A0 (vs:=[_]) Tryz.func215 rfl (n:=6) rfl rfl<|Ab<|Ac<|Af rfl<|Aa<|Ad<|Ab<|Ac<|Ae rfl<|Bw Pd rfl rfl (G7 (s:=s) M (by assumption))<|?_;clear M;rintro _ w M ⟨b1,rfl,hb1⟩
 refine C5 rfl<|Af rfl<|Aa<|Ad<|Ak<|Aj rfl rfl<|?_
 exact ⟨M,(!(b1)),rfl,(by clear M;grind)⟩
theorem O6 (M:Mem w0 G L w) {ad:Option Addr} {cd:Nat} {xs:List (List UInt8)} (S:Az D4 1 G (.slice ad xs.length cd) xs):Calls Tryz.prog 104 #[.slice ad xs.length cd,.func (.func 215) #[] #[]] w (Ci w0 G L fun v=>∃ z:Int,v=.int .i64 z∧(0≤z↔¬ ∀ s∈xs,Da s)):=by
 have bS:=S.bound
 refine A0 (vs:=[_,_]) Tryz.func104 rfl (n:=19) rfl rfl<|Ab<|Ac<|Af rfl<|Aa<|Ad<|Ab<|Ab<|Ac<|Ae rfl<|B8 Ca.k rfl<|Ae rfl<|Aa<|Ad<|A1<|fun a F=>B2 (fun m a' w'=>∃ (i:Nat),m=xs.length - i∧Fits 19 a' [(0,.slice ad xs.length cd),(1,.func (.func 215) #[] #[]),(7,.int .i64 ((xs.length:Nat):Int)),(8,.int .i64 ((i:Nat):Int))]∧Mem w0 G (L) w'∧(i≤xs.length)∧(∀ (m:Nat) (s:List UInt8),m < i→xs[m]?=some s→Da s)) _ ⟨0,rfl,F.to ⟨rfl,rfl,rfl,rfl,trivial⟩,M,Nat.zero_le _,fun m d h=>by omega⟩ ?_
 clear F M
 rintro m a w ⟨i,rfl,F,M,hi,hA⟩
 revert a
 refine Ab<|Ac<|C9 rfl rfl<|Aa<|Ad<|Ab<|Ax rfl ?_ ?_
 ·intro h1b
  have h1:=dT h1b
  refine Aq<|Ad<|Ab<|A1<|Ab<|Ac<|Ae rfl<|Af rfl<|Aa<|Ad<|Ab<|Ac<|Ae rfl<|Ae rfl<|Ae rfl<|?_
  obtain ⟨Xe2,hXe2⟩:=Bc (xs:=xs) (i:=i) (by omega)
  obtain ⟨be2,oe2,_,Ie2,_,Ae2,⟨rfl,hsle2⟩⟩:=S.at hXe2
  refine Ds Ca.k Bq Ie2 rfl rfl<|C2 Bq M Ae2 0 rfl rfl (by omega) rfl<|Z6 ent215 (caps:=[]) rfl rfl rfl (Akq (s:=Xe2) M (by omega))<|?_;clear M;rintro _ w M ⟨b3,rfl,hb3⟩
  refine Aa<|Ad<|Ax rfl ?_ ?_
  ·intro h4b
   have h4:(b3)=true:=h4b
   refine Ab<|Ac<|Ae rfl<|Af rfl<|Aa<|Ad<|Ak<|Bk<|Au<|Au<|Bk<|Au<|Aj rfl rfl<|?_
   exact ⟨M,_,rfl,⟨fun _ h_=>(hb3.1 (by assumption)) (h_ _ (List.mem_of_getElem? hXe2)),fun _=>by omega⟩⟩
  ·intro h5b
   have h5:(b3)=false:=h5b
   refine Aq<|C0<|Ad<|Ac<|B9 rfl rfl<|Ae rfl<|Aa<|Ad<|fun a F=>?_
   exact ⟨_,by omega,i+1,rfl,F.to ⟨rfl,rfl,rfl,rfl,trivial⟩,M,by omega,Ov hA hXe2 (by clear F M;grind)⟩
 ·intro h6b
  have h6:=dF h6b
  refine B5<|B0<|B0<|Dr<|Ad<|Ab<|Ac<|Af rfl<|Aa<|Ad<|Ak<|Aj rfl rfl<|?_
  exact ⟨M,_,rfl,⟨fun h=>by omega,fun h=>absurd (Gn hA (by omega)) h⟩⟩
theorem Nc (M:Mem w0 G L w) {ad:Option Addr} {cd:Nat} {xs:List (List UInt8)} (S:Az D4 1 G (.slice ad xs.length cd) xs):Calls Tryz.prog 51 #[.slice ad xs.length cd,.func (.func 215) #[] #[]] w (Ci w0 G L fun v=>∃ b:Bool,v=.bool b∧(b=true↔¬ ∀ s∈xs,Da s)):=by
 refine A0 (vs:=[_,_]) Tryz.func51 rfl (n:=9) rfl rfl<|Ab<|Ac<|Af rfl<|Aa<|Ad<|Ab<|Ac<|Ae rfl<|Ae rfl<|Bw Ake rfl rfl (O6 (xs:=xs) M S)<|?_;clear M;rintro _ w M ⟨z1,rfl,hz1⟩
 refine Kx rfl rfl<|Af rfl<|Aa<|Ad<|Ak<|Aj rfl rfl<|?_
 exact ⟨M,_,rfl,decide_eq_true_iff.trans hz1⟩
theorem Sy (M:Mem w0 G L w) {x:ItemD} {ma:Option Addr} {mc:Nat} (ht:x.text.length≤9223372036854775807) (SM:Az D4 1 G (.slice ma x.marks.length mc) x.marks):Calls Tryz.prog 191 #[.agg #[.int .u64 x.key,.int .u8 x.typ,.string (str x.text),.slice ma x.marks.length mc]] w (Ci w0 G L fun v=>v=.int .i64 (Gy x)):=by
 refine A0 (vs:=[_]) Tryz.func191 rfl (n:=23) rfl rfl<|Ab<|Ac<|C1 M rfl rfl rfl<|?_;clear M;intro b1 w M
 refine Af rfl<|Aa<|Ad<|Ab<|Ab<|Ac<|A2 Bf.k rfl rfl<|Bi Ew M 0 rfl rfl rfl rfl<|Dy rfl rfl<|Ae rfl<|?_
 rcases bE (decide (x.key=0)) with h2b | h3b
 ·skip
  have h2:=dT h2b
  refine g_f rfl h2b<|g_f rfl h2b<|g_f rfl h2b<|g_f rfl h2b<|Bj rfl h2b rfl<|Ae rfl<|g_f rfl rfl<|g_f rfl rfl<|g_f rfl rfl<|g_f rfl rfl<|Bj rfl rfl rfl<|Ae rfl<|g_f rfl rfl<|g_f rfl rfl<|g_f rfl rfl<|Bj rfl rfl rfl<|Aa<|Ad<|Bo rfl rfl<|Ab<|Ac<|Af rfl<|Aa<|Ad<|?_
  refine Ak<|Au<|Aj rfl rfl<|?_
  exact ⟨M.weaken (.cons _ (sR _)),by rw [Fo (by clear M;unfold ItemOk;grind)]⟩
 ·skip
  have h3:=dF h3b
  refine g_t rfl h3b<|A2 Bf.k rfl rfl<|g_t rfl h3b<|Bi Bq M 0 rfl rfl rfl rfl<|g_t rfl h3b<|Bw Abg rfl rfl (K1 (s:=x.text) M (by omega))<|?_;clear M;rintro _ w M ⟨b4,rfl,hb4⟩
  refine g_t rfl h3b<|C5 rfl<|Bh rfl h3b rfl<|Ae rfl<|?_
  rcases bE (!(b4)) with h5b | h6b
  ·skip
   have h5:=Ah h5b
   have h5c:(b4)=false:=(Ah h5b)
   refine g_f rfl (Al h5c)<|g_f rfl (Al h5c)<|g_f rfl (Al h5c)<|g_f rfl (Al h5c)<|Bj rfl (Al h5c) rfl<|Ae rfl<|g_f rfl rfl<|g_f rfl rfl<|g_f rfl rfl<|Bj rfl rfl rfl<|Aa<|Ad<|Bo rfl rfl<|Ab<|Ac<|Af rfl<|Aa<|Ad<|Ak<|Au<|Aj rfl rfl<|?_
   exact ⟨M.weaken (.cons _ (sR _)),by rw [Fo (by clear M;unfold ItemOk;grind)]⟩
  ·skip
   have h6:=Ai h6b
   have h6c:(b4)=true:=(Ai h6b)
   refine g_t rfl (Ag h6c)<|A2 Bf.k rfl rfl<|g_t rfl (Ag h6c)<|Bi Ca M 0 rfl rfl rfl rfl<|g_t rfl (Ag h6c)<|B8 Ca.k rfl<|g_t rfl (Ag h6c)<|Df rfl rfl<|Bh rfl (Ag h6c) rfl<|Ae rfl<|?_
   rcases bE (decide (8 < ((x.marks.length:Nat):Int))) with h7b | h8b
   ·skip
    have h7:=dT h7b
    refine g_f rfl h7b<|g_f rfl h7b<|g_f rfl h7b<|Bj rfl h7b rfl<|Aa<|Ad<|Bo rfl rfl<|Ab<|Ac<|Af rfl<|Aa<|Ad<|Ak<|Au<|Aj rfl rfl<|?_
    exact ⟨M.weaken (.cons _ (sR _)),by rw [Fo (by clear M;unfold ItemOk;grind)]⟩
   ·skip
    have h8:=dF h8b
    refine g_t rfl h8b<|A2 Bf.k rfl rfl<|g_t rfl h8b<|Bi Ca M 0 rfl rfl rfl rfl<|g_t rfl h8b<|Bw ent51 rfl rfl (Nc (xs:=x.marks) M SM)<|?_;clear M;rintro _ w M ⟨b9,rfl,hb9⟩
    refine Bh rfl h8b rfl<|Aa<|Ad<|Ax rfl ?_ ?_
    ·intro h10b
     have h10:(b9)=true:=h10b
     refine Ab<|Ac<|Af rfl<|Aa<|Ad<|Ak<|Au<|Aj rfl rfl<|?_
     exact ⟨M.weaken (.cons _ (sR _)),by rw [Fo (by clear M;unfold ItemOk;grind)]⟩
    ·intro h11b
     have h11:(b9)=false:=h11b
     refine Aq<|Ad<|Ab<|Ac<|Af rfl<|Aa<|Ad<|Ak<|Aj rfl rfl<|?_
     exact ⟨M.weaken (.cons _ (sR _)),by rw [Dh (by first | (clear M;unfold ItemOk;grind) | exact ⟨by omega,by clear M;grind,by omega,Gn hA (by omega)⟩)]⟩
open Go Go.Y Go.Proofs
set_option linter.unusedSimpArgs false
set_option linter.unusedVariables false
theorem Pf {w0 w:World} {G:A4} {L:List Res} (M:Mem w0 G L w) {u:Nat} (hu:u < 18446744073709551616):Calls Tryz.prog 219 #[.int .u64 (u:Int)] w (Ci w0 G L fun v=>v=.string (str (Lib.decDigits u))):=by
 refine A0 (vs:=[_]) Tryz.func219 rfl (n:=19) rfl rfl<|Ab<|Ac<|Af rfl<|Aa<|Ad<|Ab<|Ac<|C6 M Zr rfl rfl<|?_;clear M;intro b1 w M
 refine Aa<|Ad<|Ab<|?_
 replace M:Mem w0 G (.blk b1 (bc (List.replicate 20 0)) 302::L) w:=M
 refine Ac<|Af rfl<|Aa<|Ad<|A1<|fun a F=>B2 (fun m a' w'=>∃ (i:Nat),∃ (n:Nat),∃ (ls:List UInt8),m=i+1∧Fits 19 a' [(3,.pointer (some ⟨b1,0,none⟩)),(0,.int .u64 ((n:Nat):Int)),(4,.int .i64 ((i:Nat):Int))]∧Mem w0 G (.blk b1 (bc (ls)) 302::L) w'∧(i≤20)∧(ls.length=20)∧(n < 18446744073709551616)∧(Lib.decDigits u=Lib.decDigits n++ls.drop i)) _ ⟨20,u,List.replicate 20 0,rfl,F.to ⟨rfl,rfl,rfl,trivial⟩,M,Nat.le_refl _,by simp,hu,by simp⟩ ?_
 clear F M
 rintro m a w ⟨i,n,ls,rfl,F,M,hi,hl20,hn64,hD⟩
 revert a
 refine A1<|Ab<|?_
 have h1i:=Akm hD hu hl20 hi
 refine Ac<|Ae rfl<|Xk rfl rfl<|?_
 have hs3:(((i:Nat):Int) - 1:Int)=((i - 1:Nat):Int):=by omega
 intro a F
 rw [hs3] at F
 revert a
 refine Af rfl<|Aa<|Ad<|Ab<|Ac<|Ae rfl<|Ae rfl<|Ar (fun a F=>Xm (F.ev rfl) (F.ev rfl) (by omega) (by omega)) rfl<|?_
 obtain ⟨B4,hB4⟩:=Bc (xs:=([48,49,50,51,52,53,54,55,56,57]:List UInt8)) (i:=n % 10) (by (show n % 10 < 10;omega))
 have lB4:=Ui B4
 refine Ar (fun a F=>Dl (i:=n % 10) Bq.k (F.ev rfl) (F.ev rfl) hB4) rfl<|Ar (fun a F=>Ms (j:=i - 1) Zr.k Ev rfl (F.ev rfl) (F.ev rfl) (by omega) (by omega)) rfl<|fun a F=>?_
 refine Dn F M Ev rfl (k:=0) rfl rfl rfl rfl (List.getElem?_eq_getElem (by rw [S0];omega)) ?_;clear F M a;intro w a M F
 rw [Nat.zero_add,bc_set] at M
 change Mem w0 G (.blk b1 (bc ((ls).set (i - 1) B4)) 302::L) _ at M
 have hBt:=hB4
 revert a
 refine Aa<|Ad<|Ab<|Ac<|Ae rfl<|Ar (fun a F=>Xn (F.ev rfl) (F.ev rfl) (by omega) (by omega) (Kk (by omega) (by omega))) rfl<|Af rfl<|Aa<|Ad<|Ab<|Ac<|Ae rfl<|Dy rfl rfl<|Aa<|Ad<|Ax rfl ?_ ?_
 ·intro h5b
  have h5:=dT h5b
  refine Ab<|Ac<|Ae rfl<|Ar (fun a F=>Tb (l:=i - 1) Zr.k Ev rfl (F.ev rfl) (F.ev rfl) (by omega) (by omega)) rfl<|Ar (fun a F=>S9 M (k:=0) rfl Jv.k Ev.k Bq.k (F.ev rfl) (by rw [List.length_set];omega)) rfl<|Af rfl<|Aa<|Ad<|Ak<|Bk<|Au<|Bk<|Aj rfl rfl<|?_
  have h_:=U4 hD h1i hi hl20 hBt
  rw [if_pos (by omega),List.nil_append] at h_
  exact ⟨M.weaken (.cons _ (sR _)),by rw [h_]⟩
 ·intro h6b
  have h6:=dF h6b
  refine Aq<|C0<|Ad<|fun a F=>?_
  exact ⟨_,by omega,i - 1,n / 10,(ls).set (i - 1) B4,rfl,F.to ⟨rfl,rfl,rfl,trivial⟩,M,by omega,by rw [List.length_set];exact hl20,by omega,by have h_:=U4 hD h1i hi hl20 hBt;rw [if_neg (by omega)] at h_;exact h_⟩
end Go.Proofs.YtmmhmcplegpenaaGreatDoor.T
