/- Templates: slots, valid parts; what a walk over all parts does. · The walks, part TD. -/
import Derived.Test.YtmmhmcplegpenaaGreatDoorJ1
import Derived.Test.YtmmhmcplegpenaaGreatDoorJ2
set_option linter.unusedSimpArgs false
set_option linter.unusedVariables false
namespace Go.Proofs.YtmmhmcplegpenaaGreatDoor.T
open Go Go.Y
theorem Ahb:Bb .u8 1:=⟨by decide,by decide⟩
theorem Xd:Bb .u8 2:=⟨by decide,by decide⟩
theorem Ks {x:Int} (h:Bb .u8 x):0≤x∧x≤255:=h
theorem Z6 {s:List UInt8}:Ig (.mk 1 s [] [] [] [])↔Dk s:=by
 unfold Ig
 constructor
 ·rintro ⟨⟨h,_⟩,_⟩
  rcases h with ⟨h1,_⟩ | ⟨_,_,h,_⟩
  ·exact absurd h1 (by simp [Tr.kind])
  exact h
 intro h;refine ⟨⟨Or.inr ⟨by simp [Tr.kind],rfl,h,Or.inl rfl,rfl,by simp [Tr.as],by simp [Tr.kids],fun i x hx=>?_,fun i j a b _ ha=>?_⟩,fun c hc=>?_⟩,by simp [Tr.size,Tr.sizes]⟩
 ·simp [Tr.as] at hx
 ·simp [Tr.kids] at ha
 simp [Tr.kids] at hc
theorem Yy {s:List UInt8}:Ig (.mk 2 [] [] [] s [])↔Str s:=by
 unfold Ig
 constructor
 ·rintro ⟨⟨h,_⟩,_⟩
  rcases h with ⟨_,h,_⟩ | ⟨_,h1,_⟩
  ·exact h
  exact absurd h1 (by simp [Tr.kind])
 intro h;refine ⟨⟨Or.inl ⟨rfl,h,rfl,rfl,rfl,rfl⟩,fun c hc=>?_⟩,by simp [Tr.size,Tr.sizes]⟩
 simp [Tr.kids] at hc
theorem Qt {x:NT}:Qu x=0↔Ig x:=by
 unfold Qu
 split
 ·rename_i h;exact ⟨fun _=>h,fun _=>rfl⟩
 rename_i h;exact ⟨fun h2=>(by cases h2),fun h2=>absurd h2 h⟩
def Fp (x:SlotD):Prop:=Dk x.n∧x.src≤3∧Str x.v∧(x.src=0∨x.v=[])
def Hp (l:List SlotD) (i:Nat):Prop:=∀ (m:Nat) (x:SlotD),m < i→l[m]?=some x→Fp x∧∀ y,0 < m→l[m - 1]?=some y→Op.bytesLess y.n x.n=true
def Hy (l:List SlotD):Prop:=l.length≤8∧Hp l l.length
theorem Hp.zero (l:List SlotD):Hp l 0:=fun m x h=>by omega
theorem Hp.step {l:List SlotD} {i:Nat} {x:SlotD} (h:Hp l i) (hx:l[i]?=some x) (hn:Fp x) (ho:∀ y,0 < i→l[i - 1]?=some y→Op.bytesLess y.n x.n=true):Hp l (i+1):=by
 intro m z hm hz
 rcases Nat.eq_or_lt_of_le (show m≤i by omega) with e | e
 ·subst e;rw [hx] at hz;simp only [Option.some.injEq] at hz;subst hz;exact ⟨hn,ho⟩
 exact h m z e hz
theorem Hp.done {l:List SlotD} {i:Nat} (h:Hp l i) (h8:l.length≤8) (hi:l.length≤i):Hy l:=⟨h8,fun m x hm hx=>h m x (by omega) hx⟩
theorem F8 {l:List SlotD} {i:Nat} {x:SlotD} (hx:l[i]?=some x) (h:¬ Fp x):¬ Hy l:=fun ho=>h (ho.2 i x (Bj hx) hx).1
theorem M7 {l:List SlotD} {i:Nat} {x y:SlotD} (hx:l[i]?=some x) (hy:l[i - 1]?=some y) (hi:0 < i) (h:¬ Op.bytesLess y.n x.n=true):¬ Hy l:=fun ho=>h ((ho.2 i x (Bj hx) hx).2 y hi hy)
def B2 (x:PT):Prop :=
 (x.kind=1∧Dk x.tag∧(x.key=[]∨Dk x.key)∧Hy x.as∧x.text=[]∧x.kids.length≤16) ∨
 (x.kind=2∧Str x.text∧x.tag=[]∧x.key=[]∧x.as.length=0∧x.kids.length=0) ∨
 ((x.kind=3∨x.kind=4)∧x.text=[]∧x.tag=[]∧x.key=[]∧x.as.length=0∧x.kids.length=0) ∨
 (x.kind=5∧Dk x.tag∧Hy x.as∧x.key=[]∧x.text=[]∧x.kids.length=0)
theorem Ox {x:PT} (h:B2 x):x.kids.length≤16∧x.as.length≤8:=by
 rcases h with ⟨_,_,_,h,_,h2⟩ | ⟨_,_,_,_,h,h2⟩ | ⟨_,_,_,_,h,h2⟩ | ⟨_,_,h,_,_,h2⟩
 ·exact ⟨h2,h.1⟩
 ·omega
 ·omega
 exact ⟨by omega,h.1⟩
def ValidP (x:PT):Prop:=x.kind=1∧Tr.Ok B2 6 x∧x.size≤64
open Classical in
noncomputable def cntP (x:PT):Nat:=if ValidP x then x.size else 0
open Classical in
noncomputable def chkP (x:PT):Int:=if ValidP x then 0 else 14
theorem Abf {x:PT} (h:ValidP x):cntP x=x.size:=by unfold cntP;rw [if_pos h]
theorem Yr {x:PT} (h:¬ ValidP x):cntP x=0:=by unfold cntP;rw [if_neg h]
theorem Abh {x:PT} (h:ValidP x):chkP x=0:=by unfold chkP;rw [if_pos h]
theorem Se {x:PT} (h:¬ ValidP x):chkP x=14:=by unfold chkP;rw [if_neg h]
theorem Pv {x:PT}:0 < cntP x↔ValidP x:=by
 unfold cntP
 split
 ·rename_i h;exact ⟨fun _=>h,fun _=>Tr.size_pos x⟩
 rename_i h;exact ⟨fun h2=>(by omega),fun h2=>absurd h2 h⟩
theorem chkP_zero {x:PT}:chkP x=0↔ValidP x:=by
 unfold chkP
 split
 ·rename_i h;exact ⟨fun _=>h,fun _=>rfl⟩
 rename_i h;exact ⟨fun h2=>(by cases h2),fun h2=>absurd h2 h⟩
theorem Cnt.cntP {x:PT} {r:Nat} (h:Cnt B2 x 6 r):(x.kind≠1∨64 < r→_root_.Go.Proofs.YtmmhmcplegpenaaGreatDoor.T.cntP x=0)∧(x.kind=1→r≤64→_root_.Go.Proofs.YtmmhmcplegpenaaGreatDoor.T.cntP x=r):=by
 refine ⟨fun h1=>Yr fun h2=>?_,fun h0 h1=>?_⟩
 ·rcases h1 with h1 | h1
  ·exact h1 h2.1
  have:=h.ok.2 h2.2;omega
 rw [Abf ⟨h0,h.ok.1 h1⟩,h.eq h1]
theorem Dl {a b:Nat} (h1:a≤9223372036854775807) (h2:b≤9223372036854775807):IntKind.i64.wrap (((a:Nat):Int)+((b:Nat):Int))=0↔(a=0∧b=0):=by
 simp [IntKind.wrap,IntKind.signed,IntKind.bits]
 split <;> omega
section
variable {β σ:Type} (f:σ→Tr β→σ)
mutual
def Si (s:σ):Tr β→σ
 | .mk k t y a x l=>Im (f s (.mk k t y a x l)) l
def Im (s:σ):List (Tr β)→σ
 | []=>s
 | c::l=>Im (Si s c) l
end
theorem Akc (s:σ) (x:Tr β):Si f s x=Im f (f s x) x.kids:=by cases x;simp only [Si,Tr.kids]
theorem Ns:∀ (l m:List (Tr β)) (s:σ),Im f s (l++m)=Im f (Im f s l) m
 | [],m,s=>by simp [Im]
 | x::l,m,s=>by simp only [List.cons_append,Im,Ns l m]
theorem Y1 {l:List (Tr β)} {i:Nat} {x:Tr β} (h:l[i]?=some x) (s:σ):Im f s (l.take (i+1))=Si f (Im f s (l.take i)) x:=by
 rw [Tr.take_snoc' h,Ns];simp [Im]
end
theorem Tr.Ok.kid {β:Type} {A:Tr β→Prop} {n:Nat} {x c:Tr β} (h:Tr.Ok A n x) (hc:c∈x.kids):∃ m,Tr.Ok A m c:=by
 cases n with
 | zero=>exact h.elim
 | succ n=>exact ⟨n,h.2 c hc⟩
theorem Nb {α:Type} {p:α→Prop} {l:List α} {i:Nat} {x:α} (h:∀ (m:Nat) (y:α),m < i→l[m]?=some y→p y) (hx:l[i]?=some x) (hp:p x):∀ (m:Nat) (y:α),m < i+1→l[m]?=some y→p y:=by
 intro m y hm hy
 rcases Nat.eq_or_lt_of_le (show m≤i by omega) with e | e
 ·subst e;rw [hx] at hy;simp only [Option.some.injEq] at hy;subst hy;exact hp
 exact h m y e hy
structure ItemD where
 key:Int
 typ:Int
 text:List UInt8
 marks:List (List UInt8)
def ItemOk (x:ItemD):Prop:=¬ x.key=0∧Str x.text∧x.marks.length≤8∧∀ s∈x.marks,Dk s
open Classical in
noncomputable def Hm (x:ItemD):Int:=if ItemOk x then 0 else 6
theorem Dt {x:ItemD} (h:ItemOk x):Hm x=0:=by unfold Hm;rw [if_pos h]
theorem E8 {x:ItemD} (h:¬ ItemOk x):Hm x=6:=by unfold Hm;rw [if_neg h]
theorem G7 {l:List (List UInt8)} {i:Nat} (h:∀ (m:Nat) (s:List UInt8),m < i→l[m]?=some s→Dk s) (hi:l.length≤i):∀ s∈l,Dk s:=by
 intro s hs;obtain ⟨m,hm⟩:=List.mem_iff_getElem?.1 hs
 exact h m s (by have:=Bj hm;omega) hm
theorem Aaf {x:ItemD} {i:Nat} {s:List UInt8} (hs:x.marks[i]?=some s) (h:¬ Dk s):¬ ItemOk x:=fun ho=>h (ho.2.2.2 s (List.mem_of_getElem? hs))
theorem H7 (u:Nat):Lib.decDigits u=(if u / 10=0 then [] else Lib.decDigits (u / 10))++[UInt8.ofNat (48+u % 10)]:=by
 rw [Lib.decDigits]
 split
 ·rename_i h
  rw [if_pos (by omega),Nat.mod_eq_of_lt h]
  rfl
 rename_i h
 rw [if_neg (by omega)]
theorem Ed (u:Nat) (h:u < 18446744073709551616):(Lib.decDigits u).length≤20:=by
 rw [Lib.decDigits_length]
 rcases Nat.eq_zero_or_pos u with h0 | h0
 ·subst h0;rw [Lib.nDigits_small (by decide)];omega
 have h1:=Lib.numDigits_eq u h0 h
 split at h1 <;> omega
theorem dig_at:∀ k:Nat,k < 10→([48,49,50,51,52,53,54,55,56,57]:List UInt8)[k]?=some (UInt8.ofNat (48+k)):=by decide
theorem Wv:∀ k:Nat,k < 10→(([48,49,50,51,52,53,54,55,56,57]:List UInt8).take (k+1)).drop k=[UInt8.ofNat (48+k)]:=by decide
theorem Qs {k:Nat} (h:k < 10):Lib.decDigits k=[UInt8.ofNat (48+k)]:=by
 rw [H7,if_pos (by omega),Nat.mod_eq_of_lt h];rfl
theorem dec_two {u:Nat} (h:¬ u < 10):Lib.decDigits (u / 10)++Lib.decDigits (u % 10)=Lib.decDigits u:=by
 rw [H7 u,if_neg (by omega),Qs (k:=u % 10) (by omega)]
theorem Akl {l:List UInt8} {k:Nat} {b:UInt8} (h:k < l.length):(l.set k b).drop k=b::l.drop (k+1):=by
 rw [List.drop_eq_getElem_cons (by rw [List.length_set];exact h),List.getElem_set_self,List.drop_set_of_lt (by omega)]
theorem Wx {u n i:Nat} {l:List UInt8} {b:UInt8} (h:Lib.decDigits u=Lib.decDigits n++l.drop i) (hi:1≤i) (hi2:i≤20) (hl:l.length=20) (hb:([48,49,50,51,52,53,54,55,56,57]:List UInt8)[n % 10]?=some b) :
  Lib.decDigits u=(if n / 10=0 then [] else Lib.decDigits (n / 10))++(l.set (i - 1) b).drop (i - 1):=by
 rw [dig_at _ (by omega)] at hb;simp only [Option.some.injEq] at hb;rw [h,H7 n,Akl (by omega),← hb,show i - 1+1=i by omega]
 simp
theorem Apb {u n i:Nat} {l:List UInt8} (h:Lib.decDigits u=Lib.decDigits n++l.drop i) (hu:u < 18446744073709551616) (hl:l.length=20) (hi:i≤20):1≤i:=by
 have h1:=Ed u hu;rw [h,List.length_append,List.length_drop,Lib.decDigits_length] at h1;have:=Lib.nDigits_pos n
 omega
def Ie (x:ItemD) (s:SlotD):List UInt8:=if s.src=1 then x.text else if s.src=2 then Lib.decDigits x.key.toNat else if s.src=3 then Lib.decDigits x.marks.length else s.v
def Ch (x:ItemD) (s:SlotD):AttrD:=⟨s.n,Ie x s⟩
theorem Aeo {x:ItemD} {xs:List SlotD} {i:Nat} {s:SlotD} (h:xs[i]?=some s) :
  ((xs.take i).map (Ch x)++List.replicate (xs.length - i) (⟨[],[]⟩:AttrD)).set i (Ch x s)=(xs.take (i+1)).map (Ch x)++List.replicate (xs.length - (i+1)) (⟨[],[]⟩:AttrD):=by
 have hi:=Bj h;rw [Tr.take_snoc' h,List.map_append,List.set_append_right _ _ (by simp;omega)];have e:xs.length - i=(xs.length - (i+1))+1:=by omega
 have e2:i - ((xs.take i).map (Ch x)).length=0:=by simp;omega
 rw [e,e2,List.replicate_succ]
 simp
theorem pick4 {x:ItemD} {s:SlotD} (h0:0≤s.src) (h3:s.src≤3):(#[Value.string (str s.v),Value.string (str x.text),Value.string (str (Lib.decDigits x.key.toNat)),Value.string (str (Lib.decDigits x.marks.length))]:Array Value)[s.src.toNat]?=some (.string (str (Ie x s))):=by
 unfold Ie;have h:s.src=0∨s.src=1∨s.src=2∨s.src=3:=by omega
 rcases h with h | h | h | h <;> rw [h] <;> rfl
theorem W6 {x:ItemD} (ht:x.text.length≤9223372036854775807) (hk:Bb .u64 x.key) (hm:x.marks.length≤9223372036854775807) (s:SlotD) (hv:s.v.length≤9223372036854775807):(Ie x s).length≤9223372036854775807:=by
 obtain ⟨h1,h2⟩:0≤x.key∧x.key≤18446744073709551615:=hk;have a:=Ed x.key.toNat (by omega);have b:=Ed x.marks.length (by omega);unfold Ie
 split
 ·exact ht
 split
 ·omega
 split
 ·omega
 exact hv
theorem Ahh {l:List SlotD} (h:Hy l) {s:SlotD} (hs:s∈l):s.src≤3:=by
 obtain ⟨m,hm⟩:=List.mem_iff_getElem?.1 hs
 exact (h.2 m s (Bj hm) hm).1.2.1
def Ct (s:List UInt8):NT:=.mk 2 [] [] [] s []
def Wu (x:ItemD) (tag:List UInt8) (al:List SlotD) (m:List UInt8):NT:=.mk 1 tag m (al.map (Ch x)) [] [Ct m]
mutual
def F4 (x:ItemD):PT→List NT
 | .mk k tag key al text kids=>if k=1 then [.mk 1 tag key (al.map (Ch x)) [] (madesF x kids)] else if k=2 then [Ct text] else if k=3 then [Ct x.text] else if k=4 then [Ct (Lib.decDigits x.key.toNat)] else
   if k=5 then x.marks.map (Wu x tag al) else []
def madesF (x:ItemD):List PT→List NT
 | []=>[]
 | c::l=>F4 x c++madesF x l
end
theorem Ph (x:ItemD):∀ (l r:List PT),madesF x (l++r)=madesF x l++madesF x r
 | [],r=>by simp [madesF]
 | c::l,r=>by simp only [List.cons_append,madesF,Ph x l r,List.append_assoc]
theorem D5 {x:ItemD} {l:List PT} {i:Nat} {c:PT} (h:l[i]?=some c):madesF x (l.take (i+1))=madesF x (l.take i)++F4 x c:=by
 rw [Tr.take_snoc' h,Ph];simp [madesF]
theorem Ri {x:ItemD} {p:PT} (h:p.kind=1):F4 x p=[.mk 1 p.tag p.key (p.as.map (Ch x)) [] (madesF x p.kids)]:=by
 cases p;simp only [Tr.kind] at h;subst h;simp [F4,Tr.tag,Tr.key,Tr.as,Tr.kids]
theorem Afr {x:ItemD} {p:PT} (h:p.kind=2):F4 x p=[Ct p.text]:=by
 cases p;simp only [Tr.kind] at h;subst h;simp [F4,Tr.text]
theorem Afq {x:ItemD} {p:PT} (h:p.kind=3):F4 x p=[Ct x.text]:=by
 cases p;simp only [Tr.kind] at h;subst h;simp [F4]
theorem Afp {x:ItemD} {p:PT} (h:p.kind=4):F4 x p=[Ct (Lib.decDigits x.key.toNat)]:=by
 cases p;simp only [Tr.kind] at h;subst h;simp [F4]
theorem Afo {x:ItemD} {p:PT} (h:p.kind=5):F4 x p=x.marks.map (Wu x p.tag p.as):=by
 cases p;simp only [Tr.kind] at h;subst h;simp [F4,Tr.tag,Tr.as]
theorem made0 {x:ItemD} {p:PT} (h1:¬ p.kind=1) (h2:¬ p.kind=2) (h3:¬ p.kind=3) (h4:¬ p.kind=4) (h5:¬ p.kind=5):F4 x p=[]:=by
 cases p;simp only [Tr.kind] at h1 h2 h3 h4 h5;simp [F4,h1,h2,h3,h4,h5]
theorem Tx {x:ItemD} (hm:x.marks.length≤8) (p:PT):(F4 x p).length≤8:=by
 cases p with
 | mk k tag key al text kids =>
  simp only [F4]
  repeat' split
  all_goals simp
  exact hm
theorem Nc {x:ItemD} (hm:x.marks.length≤8):∀ l:List PT,(madesF x l).length≤8 * l.length
 | []=>by simp [madesF]
 | c::l=>by
  have h1:=Tx hm c;have h2:=Nc hm l;simp only [madesF,List.length_append,List.length_cons];omega
theorem Ju {p:PT} {n:Nat} (h:Tr.Ok B2 n p) (hk:p.kind=1∨p.kind=5):Hy p.as:=by
 cases n with
 | zero=>exact h.elim
 | succ n =>
  rcases h.1 with ⟨_,_,_,h,_⟩ | ⟨h,_⟩ | ⟨h,_⟩ | ⟨_,_,h,_⟩
  ·exact h
  ·omega
  ·omega
  ·exact h
theorem Afg {p:PT} {n:Nat} (h:Tr.Ok B2 n p):p.kids.length≤16:=by
 cases n with
 | zero=>exact h.elim
 | succ n=>exact (Ox h.1).1
theorem To {p:PT} {n:Nat} (h:Tr.Ok B2 n p):∀ c∈p.kids,∃ m,Tr.Ok B2 m c:=fun c hc=>Tr.Ok.kid h hc
theorem Jy {l:List (List UInt8)} {j:Nat} {s:List UInt8} (h:l[j]?=some s) (f:List UInt8→NT):(l.take (j+1)).map f=(l.take j).map f++[f s]:=by
 rw [Tr.take_snoc' h,List.map_append];rfl
theorem Nv {ps:List PT} {p:PT} (h:p∈ps):Tr.sizes p.kids < Tr.sizes ps:=by
 have h1:=Tr.size_mem h;rw [Tr.size_eq] at h1;omega
def node1 (x:ItemD) (p:PT):NT:=.mk 1 p.tag p.key (p.as.map (Ch x)) [] (madesF x p.kids)
def Ke:NT:=.mk 0 [] [] [] [] []
theorem Air {x:ItemD} {p:PT} (h:p.kind=1):madesF x [p]=[node1 x p]:=by simp [madesF,Ri h,node1]
open Classical in
noncomputable def rendE (p:PT) (x:ItemD) (most:Int):Int :=
 if most < 1∨64 < most then 1 else if ¬ ValidP p then 14 else if ¬ ItemOk x then 6 else if cntF (node1 x p)=0∨most < (cntF (node1 x p):Int) then 14 else 0
open Classical in
noncomputable def Em (p:PT) (x:ItemD) (most:Int):NT:=if rendE p x most=0 then node1 x p else Ke
section
variable {p:PT} {x:ItemD} {most:Int}
theorem Pc (h:most < 1∨64 < most):rendE p x most=1:=by unfold rendE;rw [if_pos h]
theorem Vu (h:¬ (most < 1∨64 < most)) (hp:¬ ValidP p):rendE p x most=14:=by unfold rendE;rw [if_neg h,if_pos hp]
theorem Vv (h:¬ (most < 1∨64 < most)) (hp:ValidP p) (hx:¬ ItemOk x):rendE p x most=6:=by unfold rendE;rw [if_neg h,if_neg (not_not_intro hp),if_pos hx]
theorem rend_many (h:¬ (most < 1∨64 < most)) (hp:ValidP p) (hx:ItemOk x) (hc:cntF (node1 x p)=0∨most < (cntF (node1 x p):Int)):rendE p x most=14:=by
 unfold rendE;rw [if_neg h,if_neg (not_not_intro hp),if_neg (not_not_intro hx),if_pos hc]
theorem rend_ok (h:¬ (most < 1∨64 < most)) (hp:ValidP p) (hx:ItemOk x) (hc:¬ (cntF (node1 x p)=0∨most < (cntF (node1 x p):Int))):rendE p x most=0:=by
 unfold rendE;rw [if_neg h,if_neg (not_not_intro hp),if_neg (not_not_intro hx),if_neg hc]
theorem Zo (h:rendE p x most=0):Em p x most=node1 x p:=by unfold Em;rw [if_pos h]
theorem Gz (h:rendE p x most≠0):Em p x most=Ke:=by unfold Em;rw [if_neg h]
end
theorem Dv {x:ItemD}:Hm x=0↔ItemOk x:=by
 unfold Hm
 split
 ·rename_i h;exact ⟨fun _=>h,fun _=>rfl⟩
 rename_i h;exact ⟨fun h2=>(by cases h2),fun h2=>absurd h2 h⟩
theorem Qy {p:PT} (h:ValidP p):∃ n,Tr.Ok B2 n p:=⟨6,h.2.1⟩
theorem Ald {p:PT} {n:Nat} (h:Tr.Ok B2 n p) (h2:¬ p.kind=2) (h3:¬ p.kind=3) (h4:¬ p.kind=4) (h5:¬ p.kind=5):p.kind=1:=by
 cases n with
 | zero=>exact h.elim
 | succ n =>
  rcases h.1 with ⟨h,_⟩ | ⟨h,_⟩ | ⟨h,_⟩ | ⟨h,_⟩
  ·exact h
  ·exact absurd h h2
  ·rcases h with h | h
   ·exact absurd h h3
   ·exact absurd h h4
  ·exact absurd h h5
theorem Vz {a b c:Res} (R L:List Res):(a::b::c::(R++L)).Perm (R++(a::b::c::L)):=by
 have h1:(R++(a::b::c::L)).Perm (a::(R++(b::c::L))):=List.perm_middle;have h2:(R++(b::c::L)).Perm (b::(R++(c::L))):=List.perm_middle;have h3:(R++(c::L)).Perm (c::(R++L)):=List.perm_middle
 exact (h1.trans ((h2.trans (h3.cons b)).cons a)).symm
open Go Go.Y Go.Proofs
variable {w0 w:World} {G:A4} {L:List Res}
theorem H3 (M:Mem w0 G L w) {s:List UInt8} (hs:s.length≤9223372036854775807):Calls Tryz.prog 216 #[.string (str s)] w (Cs w0 G L fun v=>∃ b:Bool,v=.bool b∧(b=true↔Dk s)):=by
 refine Ay (vs:=[_]) Tryz.func216 rfl (n:=7) rfl rfl<|Ac<|Ab rfl<|Ac<|Aa rfl<|Ar (fun a F=>A3 (cs:=[.int .u8 1,.string (str s),.string (str []),.slice none 0 0,.string (str []),.slice none 0 0]) (ps:=[(0,.int .u8 1),(1,.string (str s))]) Av.k rfl Av (F.evp rfl) rfl) rfl<|Bs Amz rfl rfl (H4 (x:=(.mk 1 s ([]:List UInt8) [] ([]:List UInt8) []:NT)) M ⟨by show (0:Int)≤1;omega,by show 1≤(255:Int);omega⟩ ⟨by first | exact Nat.zero_le _ | assumption | (simp only [Tr.tag,Tr.key,Tr.text];omega),by first | exact Nat.zero_le _ | assumption | (simp only [Tr.tag,Tr.key,Tr.text];omega),by first | exact Nat.zero_le _ | assumption | (simp only [Tr.tag,Tr.key,Tr.text];omega)⟩ Au.nil Au.nil)<|?_;clear M;rintro _ w M rfl
 refine C3 rfl rfl<|Ab rfl<|Ae<|Ad rfl rfl<|?_
 exact ⟨M,(decide (Qu ((.mk 1 s ([]:List UInt8) [] ([]:List UInt8) []:NT))=0)),rfl,(decide_eq_true_iff.trans (Qt.trans Z6))⟩
theorem Md (M:Mem w0 G L w) {s:List UInt8} (hs:s.length≤9223372036854775807):Calls Tryz.prog 214 #[.string (str s)] w (Cs w0 G L fun v=>∃ b:Bool,v=.bool b∧(b=true↔Str s)):=by
 refine Ay (vs:=[_]) Tryz.func214 rfl (n:=7) rfl rfl<|Ac<|Ab rfl<|Ac<|Aa rfl<|Ar (fun a F=>A3 (cs:=[.int .u8 2,.string (str []),.string (str []),.slice none 0 0,.string (str s),.slice none 0 0]) (ps:=[(0,.int .u8 2),(4,.string (str s))]) Av.k rfl Av (F.evp rfl) rfl) rfl<|Bs Amz rfl rfl (H4 (x:=(.mk 2 ([]:List UInt8) ([]:List UInt8) [] s []:NT)) M ⟨by show (0:Int)≤2;omega,by show 2≤(255:Int);omega⟩ ⟨by first | exact Nat.zero_le _ | assumption | (simp only [Tr.tag,Tr.key,Tr.text];omega),by first | exact Nat.zero_le _ | assumption | (simp only [Tr.tag,Tr.key,Tr.text];omega),by first | exact Nat.zero_le _ | assumption | (simp only [Tr.tag,Tr.key,Tr.text];omega)⟩ Au.nil Au.nil)<|?_;clear M;rintro _ w M rfl
 refine C3 rfl rfl<|Ab rfl<|Ae<|Ad rfl rfl<|?_
 exact ⟨M,(decide (Qu ((.mk 2 ([]:List UInt8) ([]:List UInt8) [] s []:NT))=0)),rfl,(decide_eq_true_iff.trans (Qt.trans Yy))⟩
theorem Mc (M:Mem w0 G L w) {ad:Option Addr} {cd:Nat} {xs:List SlotD} (S:Au rdSlot 3 G (.slice ad xs.length cd) xs) (hxs:xs.length≤9223372036854775807):Calls Tryz.prog 235 #[.slice ad xs.length cd] w (Cs w0 G L fun v=>∃ b:Bool,v=.bool b∧(b=true↔Hy xs)):=by
 refine Ay (vs:=[_]) Tryz.func235 rfl (n:=56) rfl rfl<|Ac<|Ab rfl<|Ag<|Ac<|Aa rfl<|B8 Du.k rfl<|Da rfl rfl<|Ap rfl ?_ ?_
 ·intro h1b;have h1:=dT h1b;refine Ac<|Ab rfl<|Ae<|Ad rfl rfl<|?_
  exact ⟨M,false,rfl,⟨fun h_=>(by cases h_),fun h_=>(by have:=h_.1;omega)⟩⟩
 intro h2b;have h2:=dF h2b;refine Aq<|Ag<|Ac<|Aa rfl<|B8 Du.k rfl<|Aa rfl<|Ax<|fun a F=>Bz (fun m a' w'=>∃ (i:Nat),m=xs.length - i∧Fits 56 a' [(0,.slice ad xs.length cd),(8,.slice ad xs.length cd),(9,.int .i64 ((xs.length:Nat):Int)),(10,.int .i64 ((i:Nat):Int))]∧Mem w0 G (L) w'∧(i≤xs.length)∧(Hp xs i)) _ ⟨0,rfl,F.to ⟨rfl,rfl,rfl,rfl,trivial⟩,M,Nat.zero_le _,Hp.zero _⟩ ?_
 clear F M;rintro m a w ⟨i,rfl,F,M,hi,hS⟩;revert a;refine Ac<|C2 rfl rfl<|Ag<|Ap rfl ?_ ?_
 ·intro h3b;have h3:=dT h3b;refine Aq<|Ag<|Ax<|Ac<|Aa rfl<|?_
  obtain ⟨Xe4,hXe4⟩:=A2 (xs:=xs) (i:=i) (by omega);obtain ⟨be4,oe4,_,Ie4,_,Ae4,⟨rfl,hn1e4,hk1e4,hv1e4⟩⟩:=S.at hXe4;refine D0 Du.k C8 Ie4 rfl rfl<|Ar (fun a F=>Af C8 rfl (F.ev rfl) (cs:=[.string (str Xe4.n),.int .u8 Xe4.src,.string (str Xe4.v)]) rfl (M.cellsA Ae4 0 (by omega) rfl)) rfl<|C9 M C8 rfl rfl<|?_;clear M;intro b5 w M
  refine Ab rfl<|fun a F=>?_
  refine Cj F M C8 0 ?_;clear F M a;intro w a M F;change Mem w0 G (.blk b5 [.string (str Xe4.n),.int .u8 Xe4.src,.string (str Xe4.v)] 189::L) _ at M;revert a;refine Ag<|fun a F=>Fg [(.free,0),(.pure,1),(.keep,2),(.free,3),(.free,4),(.free,5),(.pure,6),(.free,7),(.free,8),(.free,9),(.free,10),(.pure,11),(.keep,12),(.free,13),(.free,14),(.free,15),(.free,16),(.pure,17),(.free,18),(.free,19),(.free,20),(.pure,21),(.free,22),(.free,23),(.free,24),(.free,25),(.free,26),(.free,27),(.free,28),(.free,29),(.pure,30),(.free,31),(.free,32),(.free,33),(.free,34),(.free,35),(.pure,36),(.free,37),(.free,38),(.free,39)] [] (Keep G [.blk b5 [.string (str Xe4.n),.int .u8 Xe4.src,.string (str Xe4.v)] 189]) rfl (by kernel_rfl) (fun c a d v w h=>by cases d <;> exact h) (Bo (M.drew _)) ?_
  replace M:=M.drew (w.drawn+1);revert a;refine k_f (fun a F w _=>Ce C8.k rfl F rfl) rfl<|k_p (fun a F w M=>Al (agf Bq rfl) (F.ev rfl) (M.cellL (k:=0) rfl rfl)) rfl<|k_k rfl<|Bs Qp rfl rfl (H3 (s:=Xe4.n) M (by omega))<|?_;clear M;rintro _ w M ⟨b7,rfl,hb7⟩
  refine eQ (Bo M)<|k_f (fun a F w _=>Gl (F.ev rfl)) rfl<|k_f (fun a F w _=>B1 F rfl) rfl<|?_
  rcases bE (!(b7)) with h8b | h9b
  ·skip
   have h8:=Ah h8b;have h8c:(b7)=false:=(Ah h8b);refine k_s rfl (Ak h8c)<|k_s rfl (Ak h8c)<|k_s rfl (Ak h8c)<|k_f (fun a F w _=>F5 F rfl (Ak h8c) rfl) rfl<|k_f (fun a F w _=>B1 F rfl) rfl<|k_s rfl rfl<|k_s rfl rfl<|k_s rfl rfl<|k_s rfl rfl<|k_f (fun a F w _=>F5 F rfl rfl rfl) rfl<|k_f (fun a F w _=>B1 F rfl) rfl<|k_s rfl rfl<|k_s rfl rfl<|k_s rfl rfl<|k_s rfl rfl<|k_u rfl<|k_u rfl<|k_u rfl<|k_s rfl rfl<|k_f (fun a F w _=>F5 F rfl rfl rfl) rfl<|k_f (fun a F w _=>B1 F rfl) rfl<|k_s rfl rfl<|k_s rfl rfl<|k_s rfl rfl<|?_
   refine k_u rfl<|k_u rfl<|k_u rfl<|k_u rfl<|k_u rfl<|k_u rfl<|k_u rfl<|k_u rfl<|k_u rfl<|k_s rfl rfl<|k_f (fun a F w _=>F5 F rfl rfl rfl) rfl<|De<|Bl rfl rfl<|Ac<|Ab rfl<|Ae<|Fy<|C5<|C5<|Fy<|?_
   refine Ad rfl rfl<|?_
   exact ⟨(M.weaken (cN (sR _))),false,rfl,(by have hu:=Ks hk1e4;have q0:=F8 hXe4;have q9:=@Gq;clear M;unfold Fp at q0;grind)⟩
  have h9:=Ai h9b;have h9c:(b7)=true:=(Ai h9b);refine Cb rfl (Aj h9c) (fun a F w _=>Ce C8.k rfl F rfl)<|Gk rfl (Aj h9c) (fun a F w M=>Al (agf Fa rfl) (F.ev rfl) (M.cellL (k:=0) rfl rfl))<|Cb rfl (Aj h9c) (fun a F w _=>Hw (F.ev rfl) (F.ev rfl))<|k_f (fun a F w _=>Fx F rfl (Aj h9c) rfl) rfl<|k_f (fun a F w _=>B1 F rfl) rfl<|?_
  rcases bE (decide (3 < Xe4.src)) with h10b | h11b
  ·skip
   have h10:=dT h10b;refine k_s rfl h10b<|k_s rfl h10b<|k_s rfl h10b<|k_s rfl h10b<|k_f (fun a F w _=>F5 F rfl h10b rfl) rfl<|k_f (fun a F w _=>B1 F rfl) rfl<|k_s rfl rfl<|k_s rfl rfl<|k_s rfl rfl<|k_s rfl rfl<|k_u rfl<|k_u rfl<|k_u rfl<|k_s rfl rfl<|k_f (fun a F w _=>F5 F rfl rfl rfl) rfl<|k_f (fun a F w _=>B1 F rfl) rfl<|k_s rfl rfl<|k_s rfl rfl<|k_s rfl rfl<|k_u rfl<|k_u rfl<|k_u rfl<|k_u rfl<|k_u rfl<|?_
   refine k_u rfl<|k_u rfl<|k_u rfl<|k_u rfl<|k_s rfl rfl<|k_f (fun a F w _=>F5 F rfl rfl rfl) rfl<|De<|Bl rfl rfl<|Ac<|Ab rfl<|Ae<|Ad rfl rfl<|?_
   exact ⟨(M.weaken (cN (sR _))),false,rfl,(by have hu:=Ks hk1e4;have q0:=F8 hXe4;have q9:=@Gq;clear M;unfold Fp at q0;grind)⟩
  have h11:=dF h11b;refine Cb rfl h11b (fun a F w _=>Ce C8.k rfl F rfl)<|Gk rfl h11b (fun a F w M=>Al (agf Bq rfl) (F.ev rfl) (M.cellL (k:=0) rfl rfl))<|fun a F=>G3 F rfl rfl h11b ?_
  revert a;refine g_t rfl h11b<|Bs Aed rfl rfl (Md (s:=Xe4.v) M (by omega))<|?_;clear M;rintro _ w M ⟨b12,rfl,hb12⟩
  refine eQ (Bo M)<|Cb rfl h11b (fun a F w _=>Gl (F.ev rfl))<|k_f (fun a F w _=>Fx F rfl h11b rfl) rfl<|k_f (fun a F w _=>B1 F rfl) rfl<|?_
  rcases bE (!(b12)) with h13b | h14b
  ·skip
   have h13:=Ah h13b;have h13c:(b12)=false:=(Ah h13b);refine k_s rfl (Ak h13c)<|k_s rfl (Ak h13c)<|k_s rfl (Ak h13c)<|k_s rfl (Ak h13c)<|k_u rfl<|k_u rfl<|k_u rfl<|k_s rfl (Ak h13c)<|k_f (fun a F w _=>F5 F rfl (Ak h13c) rfl) rfl<|k_f (fun a F w _=>B1 F rfl) rfl<|k_s rfl rfl<|k_s rfl rfl<|k_s rfl rfl<|k_u rfl<|k_u rfl<|k_u rfl<|k_u rfl<|k_u rfl<|k_u rfl<|k_u rfl<|k_u rfl<|k_u rfl<|k_s rfl rfl<|k_f (fun a F w _=>F5 F rfl rfl rfl) rfl<|?_
   refine De<|Bl rfl rfl<|Ac<|Ab rfl<|Ae<|Ad rfl rfl<|?_
   exact ⟨(M.weaken (cN (sR _))),false,rfl,(by have hu:=Ks hk1e4;have q0:=F8 hXe4;have q9:=@Gq;clear M;unfold Fp at q0;grind)⟩
  have h14:=Ai h14b;have h14c:(b12)=true:=(Ai h14b);refine Cb rfl (Aj h14c) (fun a F w _=>Ce C8.k rfl F rfl)<|Gk rfl (Aj h14c) (fun a F w M=>Al (agf Fa rfl) (F.ev rfl) (M.cellL (k:=0) rfl rfl))<|Cb rfl (Aj h14c) (fun a F w _=>Hw (F.ev rfl) (F.ev rfl))<|Cb rfl (Aj h14c) (fun a F w _=>B1 F rfl)<|?_
  rcases bE (decide (0 < Xe4.src)) with h15b | h24b
  ·skip
   have h15:=dT h15b;refine Cb rfl h15b (fun a F w _=>Ce C8.k rfl F rfl)<|Gk rfl h15b (fun a F w M=>Al (agf Bq rfl) (F.ev rfl) (M.cellL (k:=0) rfl rfl))<|Cb rfl h15b (fun a F w _=>Js (F.ev rfl) (F.ev rfl))<|Cb rfl (Aj h14c) (fun a F w _=>F5 F rfl h15b rfl)<|k_f (fun a F w _=>Fx F rfl (Aj h14c) rfl) rfl<|k_f (fun a F w _=>B1 F rfl) rfl<|?_
   rcases bE (!(decide (Xe4.v=([]:List UInt8)))) with h16b | h17b
   ·skip
    have h16:=dF (Ah h16b);have h16c:(decide (Xe4.v=([]:List UInt8)))=false:=(Ah h16b);refine k_s rfl (Ak h16c)<|k_s rfl (Ak h16c)<|k_s rfl (Ak h16c)<|k_u rfl<|k_u rfl<|k_u rfl<|k_u rfl<|k_u rfl<|k_u rfl<|k_u rfl<|k_u rfl<|k_u rfl<|k_s rfl (Ak h16c)<|k_f (fun a F w _=>F5 F rfl (Ak h16c) rfl) rfl<|De<|Bl rfl rfl<|Ac<|Ab rfl<|Ae<|Fy<|?_
    refine Ad rfl rfl<|?_
    exact ⟨(M.weaken (cN (sR _))),false,rfl,(by have hu:=Ks hk1e4;have q0:=F8 hXe4;have q9:=@Gq;clear M;unfold Fp at q0;grind)⟩
   have h17:=dT (Ai h17b);have h17c:(decide (Xe4.v=([]:List UInt8)))=true:=(Ai h17b);refine Cb rfl (Aj h17c) (fun a F w _=>B1 F rfl)<|Cb rfl (Aj h17c) (fun a F w _=>Hw (F.ev rfl) (F.ev rfl))<|Cb rfl (Aj h17c) (fun a F w _=>B1 F rfl)<|?_
   rcases bE (decide (0 < ((i:Nat):Int))) with h18b | h23b
   ·skip
    have h18:=dT h18b;refine Cb rfl h18b (fun a F w _=>Ce C8.k rfl F rfl)<|Gk rfl h18b (fun a F w M=>Al (agf Bq rfl) (F.ev rfl) (M.cellL (k:=0) rfl rfl))<|Cb rfl h18b (fun a F w _=>B1 F rfl)<|Cb rfl h18b (fun a F w _=>B1 F rfl)<|Cb rfl h18b (fun a F w _=>J1 (F.ev rfl) (F.ev rfl) (C0 (by omega) (by omega)))<|?_
    have hs19:(((i:Nat):Int) - 1:Int)=((i - 1:Nat):Int):=by omega
    intro a F;rw [hs19] at F;obtain ⟨Xe20,hXe20⟩:=A2 (xs:=xs) (i:=i - 1) (by omega);obtain ⟨be20,oe20,_,Ie20,_,Ae20,⟨rfl,hn1e20,hk1e20,hv1e20⟩⟩:=S.at hXe20;revert a;refine Cb rfl h18b (fun a F w _=>Bt Du.k C8 (F.ev rfl) (F.ev rfl) (by omega) Ie20)<|Cb rfl h18b (fun a F w _=>Ce C8.k rfl F rfl)<|Gk rfl h18b (fun a F w M=>Al (agf Bq rfl) (F.ev rfl) (M.cellA Ae20 0 rfl rfl))<|Cb rfl h18b (fun a F w _=>N4 (F.ev rfl) (F.ev rfl))<|Cb rfl (Aj h17c) (fun a F w _=>F5 F rfl h18b rfl)<|k_f (fun a F w _=>Fx F rfl (Aj h17c) rfl) rfl<|De<|Ap rfl ?_ ?_
    ·intro h21b;have h21:(Op.bytesLess Xe4.n Xe20.n || Xe4.n==Xe20.n)=true:=h21b;refine Ac<|Ab rfl<|Ae<|Ad rfl rfl<|?_
     exact ⟨(M.weaken (cN (sR _))),false,rfl,(by have hu:=Ks hk1e4;have q0:=F8 hXe4;have q1:=M7 hXe4 hXe20;have q9:=@Gq;clear M;unfold Fp at q0;grind)⟩
    intro h22b;have h22:(Op.bytesLess Xe4.n Xe20.n || Xe4.n==Xe20.n)=false:=h22b;refine Aq<|Az<|Bx rfl rfl<|Aa rfl<|Bc<|Cm<|fun a F=>?_
    exact ⟨_,by omega,i+1,rfl,F.to ⟨rfl,rfl,rfl,rfl,trivial⟩,(M.weaken (cN (sR _))),by omega,hS.step hXe4 (by have hu:=Ks hk1e4;clear F M;unfold Fp;grind) (fun y h_ hy=>by rw [hXe20] at hy;simp only [Option.some.injEq] at hy;subst hy;clear F M;have q99:=@Gq;grind)⟩
   have h23:=dF h23b;refine k_s rfl h23b<|k_s rfl h23b<|k_s rfl h23b<|k_s rfl h23b<|k_s rfl h23b<|k_s rfl h23b<|k_s rfl h23b<|k_s rfl h23b<|k_s rfl h23b<|Cb rfl (Aj h17c) (fun a F w _=>Fx F rfl h23b rfl)<|k_f (fun a F w _=>Fx F rfl (Aj h17c) rfl) rfl<|De<|D4 rfl rfl<|Aq<|Az<|Bx rfl rfl<|Aa rfl<|Bc<|Cm<|fun a F=>?_
   exact ⟨_,by omega,i+1,rfl,F.to ⟨rfl,rfl,rfl,rfl,trivial⟩,(M.weaken (cN (sR _))),by omega,hS.step hXe4 (by have hu:=Ks hk1e4;clear F M;unfold Fp;grind) (fun y h_=>by omega)⟩
  have h24:=dF h24b;refine k_s rfl h24b<|k_s rfl h24b<|k_s rfl h24b<|Cb rfl (Aj h14c) (fun a F w _=>Fx F rfl h24b rfl)<|k_f (fun a F w _=>Fx F rfl (Aj h14c) rfl) rfl<|k_f (fun a F w _=>B1 F rfl) rfl<|Cb rfl rfl (fun a F w _=>B1 F rfl)<|Cb rfl rfl (fun a F w _=>Hw (F.ev rfl) (F.ev rfl))<|Cb rfl rfl (fun a F w _=>B1 F rfl)<|?_
  rcases bE (decide (0 < ((i:Nat):Int))) with h25b | h30b
  ·skip
   have h25:=dT h25b;refine Cb rfl h25b (fun a F w _=>Ce C8.k rfl F rfl)<|Gk rfl h25b (fun a F w M=>Al (agf Bq rfl) (F.ev rfl) (M.cellL (k:=0) rfl rfl))<|Cb rfl h25b (fun a F w _=>B1 F rfl)<|Cb rfl h25b (fun a F w _=>B1 F rfl)<|Cb rfl h25b (fun a F w _=>J1 (F.ev rfl) (F.ev rfl) (C0 (by omega) (by omega)))<|?_
   have hs26:(((i:Nat):Int) - 1:Int)=((i - 1:Nat):Int):=by omega
   intro a F;rw [hs26] at F;obtain ⟨Xe27,hXe27⟩:=A2 (xs:=xs) (i:=i - 1) (by omega);obtain ⟨be27,oe27,_,Ie27,_,Ae27,⟨rfl,hn1e27,hk1e27,hv1e27⟩⟩:=S.at hXe27;revert a;refine Cb rfl h25b (fun a F w _=>Bt Du.k C8 (F.ev rfl) (F.ev rfl) (by omega) Ie27)<|Cb rfl h25b (fun a F w _=>Ce C8.k rfl F rfl)<|Gk rfl h25b (fun a F w M=>Al (agf Bq rfl) (F.ev rfl) (M.cellA Ae27 0 rfl rfl))<|Cb rfl h25b (fun a F w _=>N4 (F.ev rfl) (F.ev rfl))<|Cb rfl rfl (fun a F w _=>F5 F rfl h25b rfl)<|k_f (fun a F w _=>Fx F rfl rfl rfl) rfl<|De<|Ap rfl ?_ ?_
   ·intro h28b;have h28:(Op.bytesLess Xe4.n Xe27.n || Xe4.n==Xe27.n)=true:=h28b;refine Ac<|Ab rfl<|Ae<|Ad rfl rfl<|?_
    exact ⟨(M.weaken (cN (sR _))),false,rfl,(by have hu:=Ks hk1e4;have q0:=F8 hXe4;have q1:=M7 hXe4 hXe27;have q9:=@Gq;clear M;unfold Fp at q0;grind)⟩
   intro h29b;have h29:(Op.bytesLess Xe4.n Xe27.n || Xe4.n==Xe27.n)=false:=h29b;refine Aq<|Az<|Bx rfl rfl<|Aa rfl<|Bc<|Cm<|fun a F=>?_
   exact ⟨_,by omega,i+1,rfl,F.to ⟨rfl,rfl,rfl,rfl,trivial⟩,(M.weaken (cN (sR _))),by omega,hS.step hXe4 (by have hu:=Ks hk1e4;clear F M;unfold Fp;grind) (fun y h_ hy=>by rw [hXe27] at hy;simp only [Option.some.injEq] at hy;subst hy;clear F M;have q99:=@Gq;grind)⟩
  have h30:=dF h30b;refine k_s rfl h30b<|k_s rfl h30b<|k_s rfl h30b<|k_s rfl h30b<|k_s rfl h30b<|k_s rfl h30b<|k_s rfl h30b<|k_s rfl h30b<|k_s rfl h30b<|Cb rfl rfl (fun a F w _=>Fx F rfl h30b rfl)<|k_f (fun a F w _=>Fx F rfl rfl rfl) rfl<|De<|D4 rfl rfl<|Aq<|Az<|Bx rfl rfl<|Aa rfl<|Bc<|Cm<|fun a F=>?_
  exact ⟨_,by omega,i+1,rfl,F.to ⟨rfl,rfl,rfl,rfl,trivial⟩,(M.weaken (cN (sR _))),by omega,hS.step hXe4 (by have hu:=Ks hk1e4;clear F M;unfold Fp;grind) (fun y h_=>by omega)⟩
 intro h31b;have h31:=dF h31b;refine B5<|Bw<|Bw<|Dj<|Ac<|Ab rfl<|Ae<|Ad rfl rfl<|?_
 exact ⟨M,true,rfl,⟨fun _=>hS.done (by omega) (by omega),fun _=>rfl⟩⟩
theorem Mj (M:Mem w0 G L w) {ad:Option Addr} {cd:Nat} {xs:List SlotD} (S:Au rdSlot 3 G (.slice ad xs.length cd) xs) (hxs:xs.length≤9223372036854775807):Calls Tryz.prog 234 #[.slice ad xs.length cd] w (Cs w0 G L fun v=>∃ b:Bool,v=.bool b∧(b=true↔Hy xs)):=by
 refine Ay (vs:=[_]) Tryz.func234 rfl (n:=58) rfl rfl<|Ac<|Ab rfl<|Ag<|Ac<|Aa rfl<|B8 Du.k rfl<|Da rfl rfl<|Ap rfl ?_ ?_
 ·intro h1b;have h1:=dT h1b;refine Ac<|Ab rfl<|Ae<|Ad rfl rfl<|?_
  exact ⟨M,false,rfl,⟨fun h_=>(by cases h_),fun h_=>(by have:=h_.1;omega)⟩⟩
 intro h2b;have h2:=dF h2b;refine Aq<|Ag<|Ac<|Ab rfl<|Ax<|fun a F=>Bz (fun m a' w'=>∃ (i:Nat),m=xs.length - i∧Fits 58 a' [(0,.slice ad xs.length cd),(3,.int .i64 ((i:Nat):Int))]∧Mem w0 G (L) w'∧(i≤xs.length)∧(Hp xs i)) _ ⟨0,rfl,F.to ⟨rfl,rfl,trivial⟩,M,Nat.zero_le _,Hp.zero _⟩ ?_
 clear F M;rintro m a w ⟨i,rfl,F,M,hi,hS⟩;revert a;refine Ag<|Ac<|Aa rfl<|Aa rfl<|B8 Du.k rfl<|C2 rfl rfl<|Ap rfl ?_ ?_
 ·intro h3b;have h3:=dT h3b;refine Aq<|Ag<|Ax<|Ac<|Aa rfl<|Aa rfl<|?_
  obtain ⟨Xe4,hXe4⟩:=A2 (xs:=xs) (i:=i) (by omega);obtain ⟨be4,oe4,_,Ie4,_,Ae4,⟨rfl,hn1e4,hk1e4,hv1e4⟩⟩:=S.at hXe4;refine D0 Du.k C8 Ie4 rfl rfl<|Ar (fun a F=>Af C8 rfl (F.ev rfl) (cs:=[.string (str Xe4.n),.int .u8 Xe4.src,.string (str Xe4.v)]) rfl (M.cellsA Ae4 0 (by omega) rfl)) rfl<|C9 M C8 rfl rfl<|?_;clear M;intro b5 w M
  intro a F;refine Cj F M C8 0 ?_;clear F M a;intro w a M F;change Mem w0 G (.blk b5 [.string (str Xe4.n),.int .u8 Xe4.src,.string (str Xe4.v)] 189::L) _ at M;revert a;refine Ag<|fun a F=>Fg [(.free,0),(.pure,1),(.keep,2),(.free,3),(.free,4),(.free,5),(.pure,6),(.free,7),(.free,8),(.free,9),(.free,10),(.pure,11),(.keep,12),(.free,13),(.free,14),(.free,15),(.free,16),(.pure,17),(.free,18),(.free,19),(.free,20),(.pure,21),(.free,22),(.free,23),(.free,24),(.free,25),(.free,26),(.free,27),(.free,28),(.free,29),(.free,30),(.free,31),(.free,32),(.free,33),(.pure,34),(.free,35),(.pure,36),(.free,37),(.free,38),(.free,39)] [] (Keep G [.blk b5 [.string (str Xe4.n),.int .u8 Xe4.src,.string (str Xe4.v)] 189]) rfl (by kernel_rfl) (fun c a d v w h=>by cases d <;> exact h) (Bo (M.drew _)) ?_
  replace M:=M.drew (w.drawn+1);revert a;refine k_f (fun a F w _=>Ce C8.k rfl F rfl) rfl<|k_p (fun a F w M=>Al (agf Bq rfl) (F.ev rfl) (M.cellL (k:=0) rfl rfl)) rfl<|k_k rfl<|Bs Mu rfl rfl (Fb (s:=Xe4.n) M (by omega))<|?_;clear M;rintro _ w M ⟨b7,rfl,hb7⟩
  refine eQ (Bo M)<|k_f (fun a F w _=>Gl (F.ev rfl)) rfl<|k_f (fun a F w _=>B1 F rfl) rfl<|?_
  rcases bE (!(b7)) with h8b | h9b
  ·skip
   have h8:=Ah h8b;have h8c:(b7)=false:=(Ah h8b);refine k_s rfl (Ak h8c)<|k_s rfl (Ak h8c)<|k_s rfl (Ak h8c)<|k_f (fun a F w _=>F5 F rfl (Ak h8c) rfl) rfl<|k_f (fun a F w _=>B1 F rfl) rfl<|k_s rfl rfl<|k_s rfl rfl<|k_s rfl rfl<|k_s rfl rfl<|k_f (fun a F w _=>F5 F rfl rfl rfl) rfl<|k_f (fun a F w _=>B1 F rfl) rfl<|k_s rfl rfl<|k_s rfl rfl<|k_s rfl rfl<|k_s rfl rfl<|k_u rfl<|k_u rfl<|k_u rfl<|k_s rfl rfl<|k_f (fun a F w _=>F5 F rfl rfl rfl) rfl<|k_f (fun a F w _=>B1 F rfl) rfl<|k_s rfl rfl<|k_s rfl rfl<|k_s rfl rfl<|?_
   refine k_u rfl<|k_u rfl<|k_u rfl<|k_u rfl<|k_u rfl<|k_u rfl<|k_u rfl<|k_u rfl<|k_u rfl<|k_s rfl rfl<|k_f (fun a F w _=>F5 F rfl rfl rfl) rfl<|De<|Bl rfl rfl<|Ac<|Ab rfl<|Ae<|Fy<|C5<|C5<|Fy<|?_
   refine Ad rfl rfl<|?_
   exact ⟨(M.weaken (cN (sR _))),false,rfl,(by have hu:=Ks hk1e4;have q0:=F8 hXe4;have q9:=@Gq;clear M;unfold Fp at q0;grind)⟩
  have h9:=Ai h9b;have h9c:(b7)=true:=(Ai h9b);refine Cb rfl (Aj h9c) (fun a F w _=>Ce C8.k rfl F rfl)<|Gk rfl (Aj h9c) (fun a F w M=>Al (agf Fa rfl) (F.ev rfl) (M.cellL (k:=0) rfl rfl))<|Cb rfl (Aj h9c) (fun a F w _=>Hw (F.ev rfl) (F.ev rfl))<|k_f (fun a F w _=>Fx F rfl (Aj h9c) rfl) rfl<|k_f (fun a F w _=>B1 F rfl) rfl<|?_
  rcases bE (decide (3 < Xe4.src)) with h10b | h11b
  ·skip
   have h10:=dT h10b;refine k_s rfl h10b<|k_s rfl h10b<|k_s rfl h10b<|k_s rfl h10b<|k_f (fun a F w _=>F5 F rfl h10b rfl) rfl<|k_f (fun a F w _=>B1 F rfl) rfl<|k_s rfl rfl<|k_s rfl rfl<|k_s rfl rfl<|k_s rfl rfl<|k_u rfl<|k_u rfl<|k_u rfl<|k_s rfl rfl<|k_f (fun a F w _=>F5 F rfl rfl rfl) rfl<|k_f (fun a F w _=>B1 F rfl) rfl<|k_s rfl rfl<|k_s rfl rfl<|k_s rfl rfl<|k_u rfl<|k_u rfl<|k_u rfl<|k_u rfl<|k_u rfl<|?_
   refine k_u rfl<|k_u rfl<|k_u rfl<|k_u rfl<|k_s rfl rfl<|k_f (fun a F w _=>F5 F rfl rfl rfl) rfl<|De<|Bl rfl rfl<|Ac<|Ab rfl<|Ae<|Ad rfl rfl<|?_
   exact ⟨(M.weaken (cN (sR _))),false,rfl,(by have hu:=Ks hk1e4;have q0:=F8 hXe4;have q9:=@Gq;clear M;unfold Fp at q0;grind)⟩
  have h11:=dF h11b;refine Cb rfl h11b (fun a F w _=>Ce C8.k rfl F rfl)<|Gk rfl h11b (fun a F w M=>Al (agf Bq rfl) (F.ev rfl) (M.cellL (k:=0) rfl rfl))<|fun a F=>G3 F rfl rfl h11b ?_
  revert a;refine g_t rfl h11b<|Bs Ui rfl rfl (K4 (s:=Xe4.v) M (by omega))<|?_;clear M;rintro _ w M ⟨b12,rfl,hb12⟩
  refine eQ (Bo M)<|Cb rfl h11b (fun a F w _=>Gl (F.ev rfl))<|k_f (fun a F w _=>Fx F rfl h11b rfl) rfl<|k_f (fun a F w _=>B1 F rfl) rfl<|?_
  rcases bE (!(b12)) with h13b | h14b
  ·skip
   have h13:=Ah h13b;have h13c:(b12)=false:=(Ah h13b);refine k_s rfl (Ak h13c)<|k_s rfl (Ak h13c)<|k_s rfl (Ak h13c)<|k_s rfl (Ak h13c)<|k_u rfl<|k_u rfl<|k_u rfl<|k_s rfl (Ak h13c)<|k_f (fun a F w _=>F5 F rfl (Ak h13c) rfl) rfl<|k_f (fun a F w _=>B1 F rfl) rfl<|k_s rfl rfl<|k_s rfl rfl<|k_s rfl rfl<|k_u rfl<|k_u rfl<|k_u rfl<|k_u rfl<|k_u rfl<|k_u rfl<|k_u rfl<|k_u rfl<|k_u rfl<|k_s rfl rfl<|k_f (fun a F w _=>F5 F rfl rfl rfl) rfl<|?_
   refine De<|Bl rfl rfl<|Ac<|Ab rfl<|Ae<|Ad rfl rfl<|?_
   exact ⟨(M.weaken (cN (sR _))),false,rfl,(by have hu:=Ks hk1e4;have q0:=F8 hXe4;have q9:=@Gq;clear M;unfold Fp at q0;grind)⟩
  have h14:=Ai h14b;have h14c:(b12)=true:=(Ai h14b);refine Cb rfl (Aj h14c) (fun a F w _=>Ce C8.k rfl F rfl)<|Gk rfl (Aj h14c) (fun a F w M=>Al (agf Fa rfl) (F.ev rfl) (M.cellL (k:=0) rfl rfl))<|Cb rfl (Aj h14c) (fun a F w _=>M8 (F.ev rfl) (F.ev rfl))<|Cb rfl (Aj h14c) (fun a F w _=>B1 F rfl)<|?_
  rcases bE (!(decide (Xe4.src=0))) with h15b | h24b
  ·skip
   have h15:=dF (Ah h15b);have h15c:(decide (Xe4.src=0))=false:=(Ah h15b);refine Cb rfl (Ak h15c) (fun a F w _=>Ce C8.k rfl F rfl)<|Gk rfl (Ak h15c) (fun a F w M=>Al (agf Bq rfl) (F.ev rfl) (M.cellL (k:=0) rfl rfl))<|Cb rfl (Ak h15c) (fun a F w _=>Js (F.ev rfl) (F.ev rfl))<|Cb rfl (Aj h14c) (fun a F w _=>F5 F rfl (Ak h15c) rfl)<|k_f (fun a F w _=>Fx F rfl (Aj h14c) rfl) rfl<|k_f (fun a F w _=>B1 F rfl) rfl<|?_
   rcases bE (!(decide (Xe4.v=([]:List UInt8)))) with h16b | h17b
   ·skip
    have h16:=dF (Ah h16b);have h16c:(decide (Xe4.v=([]:List UInt8)))=false:=(Ah h16b);refine k_s rfl (Ak h16c)<|k_s rfl (Ak h16c)<|k_s rfl (Ak h16c)<|k_u rfl<|k_u rfl<|k_u rfl<|k_u rfl<|k_u rfl<|k_u rfl<|k_u rfl<|k_u rfl<|k_u rfl<|k_s rfl (Ak h16c)<|k_f (fun a F w _=>F5 F rfl (Ak h16c) rfl) rfl<|De<|Bl rfl rfl<|Ac<|Ab rfl<|Ae<|Fy<|?_
    refine Ad rfl rfl<|?_
    exact ⟨(M.weaken (cN (sR _))),false,rfl,(by have hu:=Ks hk1e4;have q0:=F8 hXe4;have q9:=@Gq;clear M;unfold Fp at q0;grind)⟩
   have h17:=dT (Ai h17b);have h17c:(decide (Xe4.v=([]:List UInt8)))=true:=(Ai h17b);refine Cb rfl (Aj h17c) (fun a F w _=>B1 F rfl)<|Cb rfl (Aj h17c) (fun a F w _=>Hw (F.ev rfl) (F.ev rfl))<|Cb rfl (Aj h17c) (fun a F w _=>B1 F rfl)<|?_
   rcases bE (decide (0 < ((i:Nat):Int))) with h18b | h23b
   ·skip
    have h18:=dT h18b;refine Cb rfl h18b (fun a F w _=>B1 F rfl)<|Cb rfl h18b (fun a F w _=>B1 F rfl)<|Cb rfl h18b (fun a F w _=>J1 (F.ev rfl) (F.ev rfl) (C0 (by omega) (by omega)))<|?_
    have hs19:(((i:Nat):Int) - 1:Int)=((i - 1:Nat):Int):=by omega
    intro a F;rw [hs19] at F;obtain ⟨Xe20,hXe20⟩:=A2 (xs:=xs) (i:=i - 1) (by omega);obtain ⟨be20,oe20,_,Ie20,_,Ae20,⟨rfl,hn1e20,hk1e20,hv1e20⟩⟩:=S.at hXe20;revert a;refine Cb rfl h18b (fun a F w _=>Bt Du.k C8 (F.ev rfl) (F.ev rfl) (by omega) Ie20)<|Cb rfl h18b (fun a F w _=>Ce C8.k rfl F rfl)<|Gk rfl h18b (fun a F w M=>Al (agf Bq rfl) (F.ev rfl) (M.cellA Ae20 0 rfl rfl))<|Cb rfl h18b (fun a F w _=>Ce C8.k rfl F rfl)<|Gk rfl h18b (fun a F w M=>Al (agf Bq rfl) (F.ev rfl) (M.cellL (k:=0) rfl rfl))<|Cb rfl h18b (fun a F w _=>N5 (F.ev rfl) (F.ev rfl))<|Cb rfl (Aj h17c) (fun a F w _=>F5 F rfl h18b rfl)<|k_f (fun a F w _=>Fx F rfl (Aj h17c) rfl) rfl<|De<|Ap rfl ?_ ?_
    ·intro h21b;have h21:=Ah h21b;have h21c:(Op.bytesLess Xe20.n Xe4.n)=false:=(Ah h21b);refine Ac<|Ab rfl<|Ae<|Ad rfl rfl<|?_
     exact ⟨(M.weaken (cN (sR _))),false,rfl,(by have hu:=Ks hk1e4;have q0:=F8 hXe4;have q1:=M7 hXe4 hXe20;have q9:=@Gq;clear M;unfold Fp at q0;grind)⟩
    intro h22b;have h22:=Ai h22b;have h22c:(Op.bytesLess Xe20.n Xe4.n)=true:=(Ai h22b);refine Aq<|Az<|Aa rfl<|Bx rfl rfl<|Ab rfl<|Bc<|Cm<|fun a F=>?_
    exact ⟨_,by omega,i+1,rfl,F.to ⟨rfl,rfl,trivial⟩,(M.weaken (cN (sR _))),by omega,hS.step hXe4 (by have hu:=Ks hk1e4;clear F M;unfold Fp;grind) (fun y h_ hy=>by rw [hXe20] at hy;simp only [Option.some.injEq] at hy;subst hy;clear F M;have q99:=@Gq;grind)⟩
   have h23:=dF h23b;refine k_s rfl h23b<|k_s rfl h23b<|k_s rfl h23b<|k_s rfl h23b<|k_s rfl h23b<|k_s rfl h23b<|k_s rfl h23b<|k_s rfl h23b<|k_s rfl h23b<|Cb rfl (Aj h17c) (fun a F w _=>Fx F rfl h23b rfl)<|k_f (fun a F w _=>Fx F rfl (Aj h17c) rfl) rfl<|De<|D4 rfl rfl<|Aq<|Az<|Aa rfl<|Bx rfl rfl<|Ab rfl<|Bc<|Cm<|fun a F=>?_
   exact ⟨_,by omega,i+1,rfl,F.to ⟨rfl,rfl,trivial⟩,(M.weaken (cN (sR _))),by omega,hS.step hXe4 (by have hu:=Ks hk1e4;clear F M;unfold Fp;grind) (fun y h_=>by omega)⟩
  have h24:=dT (Ai h24b);have h24c:(decide (Xe4.src=0))=true:=(Ai h24b);refine k_s rfl (Aj h24c)<|k_s rfl (Aj h24c)<|k_s rfl (Aj h24c)<|Cb rfl (Aj h14c) (fun a F w _=>Fx F rfl (Aj h24c) rfl)<|k_f (fun a F w _=>Fx F rfl (Aj h14c) rfl) rfl<|k_f (fun a F w _=>B1 F rfl) rfl<|Cb rfl rfl (fun a F w _=>B1 F rfl)<|Cb rfl rfl (fun a F w _=>Hw (F.ev rfl) (F.ev rfl))<|Cb rfl rfl (fun a F w _=>B1 F rfl)<|?_
  rcases bE (decide (0 < ((i:Nat):Int))) with h25b | h30b
  ·skip
   have h25:=dT h25b;refine Cb rfl h25b (fun a F w _=>B1 F rfl)<|Cb rfl h25b (fun a F w _=>B1 F rfl)<|Cb rfl h25b (fun a F w _=>J1 (F.ev rfl) (F.ev rfl) (C0 (by omega) (by omega)))<|?_
   have hs26:(((i:Nat):Int) - 1:Int)=((i - 1:Nat):Int):=by omega
   intro a F;rw [hs26] at F;obtain ⟨Xe27,hXe27⟩:=A2 (xs:=xs) (i:=i - 1) (by omega);obtain ⟨be27,oe27,_,Ie27,_,Ae27,⟨rfl,hn1e27,hk1e27,hv1e27⟩⟩:=S.at hXe27;revert a;refine Cb rfl h25b (fun a F w _=>Bt Du.k C8 (F.ev rfl) (F.ev rfl) (by omega) Ie27)<|Cb rfl h25b (fun a F w _=>Ce C8.k rfl F rfl)<|Gk rfl h25b (fun a F w M=>Al (agf Bq rfl) (F.ev rfl) (M.cellA Ae27 0 rfl rfl))<|Cb rfl h25b (fun a F w _=>Ce C8.k rfl F rfl)<|Gk rfl h25b (fun a F w M=>Al (agf Bq rfl) (F.ev rfl) (M.cellL (k:=0) rfl rfl))<|Cb rfl h25b (fun a F w _=>N5 (F.ev rfl) (F.ev rfl))<|Cb rfl rfl (fun a F w _=>F5 F rfl h25b rfl)<|k_f (fun a F w _=>Fx F rfl rfl rfl) rfl<|De<|Ap rfl ?_ ?_
   ·intro h28b;have h28:=Ah h28b;have h28c:(Op.bytesLess Xe27.n Xe4.n)=false:=(Ah h28b);refine Ac<|Ab rfl<|Ae<|Ad rfl rfl<|?_
    exact ⟨(M.weaken (cN (sR _))),false,rfl,(by have hu:=Ks hk1e4;have q0:=F8 hXe4;have q1:=M7 hXe4 hXe27;have q9:=@Gq;clear M;unfold Fp at q0;grind)⟩
   intro h29b;have h29:=Ai h29b;have h29c:(Op.bytesLess Xe27.n Xe4.n)=true:=(Ai h29b);refine Aq<|Az<|Aa rfl<|Bx rfl rfl<|Ab rfl<|Bc<|Cm<|fun a F=>?_
   exact ⟨_,by omega,i+1,rfl,F.to ⟨rfl,rfl,trivial⟩,(M.weaken (cN (sR _))),by omega,hS.step hXe4 (by have hu:=Ks hk1e4;clear F M;unfold Fp;grind) (fun y h_ hy=>by rw [hXe27] at hy;simp only [Option.some.injEq] at hy;subst hy;clear F M;have q99:=@Gq;grind)⟩
  have h30:=dF h30b;refine k_s rfl h30b<|k_s rfl h30b<|k_s rfl h30b<|k_s rfl h30b<|k_s rfl h30b<|k_s rfl h30b<|k_s rfl h30b<|k_s rfl h30b<|k_s rfl h30b<|Cb rfl rfl (fun a F w _=>Fx F rfl h30b rfl)<|k_f (fun a F w _=>Fx F rfl rfl rfl) rfl<|De<|D4 rfl rfl<|Aq<|Az<|Aa rfl<|Bx rfl rfl<|Ab rfl<|Bc<|Cm<|fun a F=>?_
  exact ⟨_,by omega,i+1,rfl,F.to ⟨rfl,rfl,trivial⟩,(M.weaken (cN (sR _))),by omega,hS.step hXe4 (by have hu:=Ks hk1e4;clear F M;unfold Fp;grind) (fun y h_=>by omega)⟩
 intro h31b;have h31:=dF h31b;refine B5<|Bw<|Bw<|Dj<|Ac<|Ab rfl<|Ae<|Ad rfl rfl<|?_
 exact ⟨M,true,rfl,⟨fun _=>hS.done (by omega) (by omega),fun _=>rfl⟩⟩
theorem Y6 (M:Mem w0 G L w) {rk:Rd PT} {x:PT} {ta:Option Addr} {tc:Nat} {ka:Option Addr} {kc:Nat} (hk:Bb .u8 x.kind) (hl:(x.tag.length≤9223372036854775807∧x.key.length≤9223372036854775807∧x.text.length≤9223372036854775807)) (SA:Au rdSlot 3 G (.slice ta x.as.length tc) x.as) (SK:Au rk 6 G (.slice ka x.kids.length kc) x.kids) {nb no:Nat} (A:At G nb no [.int .u8 x.kind,.string (str x.tag),.string (str x.key),.slice ta x.as.length tc,.string (str x.text),.slice ka x.kids.length kc]):Calls Tryz.prog 228 #[.pointer (some ⟨nb,no,none⟩)] w (Cs w0 G L fun v=>∃ bb:Bool,v=.bool bb∧(bb=true↔B2 x)):=by
 refine Ay (vs:=[_]) Tryz.func228 rfl (n:=91) rfl rfl<|Ac<|Ab rfl<|Ac<|Aa rfl<|Fi rfl<|Ar (fun a F=>Af Bn rfl (F.ev rfl) (cs:=[.int .u8 x.kind,.string (str x.tag),.string (str x.key),.slice ta x.as.length tc,.string (str x.text),.slice ka x.kids.length kc]) rfl (M.cellsA A 0 (by omega) rfl)) rfl<|C9 M Bn rfl rfl<|?_;clear M;intro b1 w M
 intro a F;refine Cj F M Bn 0 ?_;clear F M a;intro w a M F;change Mem w0 G (.blk b1 [.int .u8 x.kind,.string (str x.tag),.string (str x.key),.slice ta x.as.length tc,.string (str x.text),.slice ka x.kids.length kc] 79::L) _ at M;revert a;refine Ag<|Ac<|Aa rfl<|Fi rfl<|A0 Bn.k rfl rfl<|Dq Fa M A 0 rfl rfl rfl rfl<|Ax<|Ag<|Ax<|Ag<|Ax<|Ag<|Ax<|Ag<|Ax<|Ag<|Ax<|Ag<|Ag<|?_
 refine Ac<|C3 rfl rfl<|Ab rfl<|Ap rfl ?_ ?_
 ·intro h3b;have h3:=dT h3b;refine B5<|Bw<|Bw<|Dj<|Ag<|Ac<|Aa rfl<|Fi rfl<|A0 Bn.k rfl rfl<|Dq Bq M A 2 rfl rfl rfl rfl<|Mg rfl rfl<|Aa rfl<|?_
  rcases bE (!(decide (x.key=([]:List UInt8)))) with h4b | h18b
  ·skip
   have h4:=dF (Ah h4b);have h4c:(decide (x.key=([]:List UInt8)))=false:=(Ah h4b);refine g_t rfl (Ak h4c)<|Aa rfl<|g_t rfl (Ak h4c)<|Fi rfl<|g_t rfl (Ak h4c)<|A0 Bn.k rfl rfl<|g_t rfl (Ak h4c)<|Dq Bq M A 2 rfl rfl rfl rfl<|g_t rfl (Ak h4c)<|Bs Qp rfl rfl (H3 (s:=x.key) M (by omega))<|?_;clear M;rintro _ w M ⟨b5,rfl,hb5⟩
   refine g_t rfl (Ak h4c)<|Dh rfl<|Bh rfl (Ak h4c) rfl<|Aa rfl<|?_
   rcases bE (!(b5)) with h6b | h7b
   ·skip
    have h6:=Ah h6b;have h6c:(b5)=false:=(Ah h6b);refine g_f rfl (Ak h6c)<|g_f rfl (Ak h6c)<|g_f rfl (Ak h6c)<|g_f rfl (Ak h6c)<|g_f rfl (Ak h6c)<|g_f rfl (Ak h6c)<|Bh rfl (Ak h6c) rfl<|Bl rfl rfl<|Ac<|Ab rfl<|Ae<|C5<|Fy<|C5<|Fy<|C5<|Fy<|C5<|Fy<|?_
    refine Ad rfl rfl<|?_
    exact ⟨(M.weaken (cN (sR _))),false,rfl,(by clear M;unfold B2;grind)⟩
   have h7:=Ai h7b;have h7c:(b5)=true:=(Ai h7b);refine g_t rfl (Aj h7c)<|Aa rfl<|g_t rfl (Aj h7c)<|Fi rfl<|g_t rfl (Aj h7c)<|A0 Bn.k rfl rfl<|g_t rfl (Aj h7c)<|Dq C7 M A 5 rfl rfl rfl rfl<|g_t rfl (Aj h7c)<|B8 C7.k rfl<|g_t rfl (Aj h7c)<|Da rfl rfl<|Be rfl (Aj h7c) rfl<|Ap rfl ?_ ?_
   ·intro h8b;have h8:=dT h8b;refine Ac<|Ab rfl<|Ae<|Ad rfl rfl<|?_
    exact ⟨(M.weaken (cN (sR _))),false,rfl,(by clear M;unfold B2;grind)⟩
   intro h9b;have h9:=dF h9b;refine Aq<|Az<|A0 Bn.k rfl rfl<|Gd Bq M 0 rfl rfl rfl rfl rfl rfl<|?_;clear M;intro w M
   refine A0 Bn.k rfl rfl<|Gd C7 M 0 rfl rfl rfl rfl rfl rfl<|?_;clear M;intro w M
   refine Ag<|Ag<|Ac<|Aa rfl<|Fi rfl<|A0 Bn.k rfl rfl<|Dq Bq M A 1 rfl rfl rfl rfl<|Bs Qp rfl rfl (H3 (s:=x.tag) M (by omega))<|?_;clear M;rintro _ w M ⟨b10,rfl,hb10⟩
   refine Dh rfl<|Aa rfl<|?_
   rcases bE (!(b10)) with h11b | h12b
   ·skip
    have h11:=Ah h11b;have h11c:(b10)=false:=(Ah h11b);refine g_f rfl (Ak h11c)<|g_f rfl (Ak h11c)<|g_f rfl (Ak h11c)<|g_f rfl (Ak h11c)<|g_f rfl (Ak h11c)<|g_f rfl (Ak h11c)<|Bh rfl (Ak h11c) rfl<|Bl rfl rfl<|Ac<|Ab rfl<|Ae<|C5<|C5<|Fy<|C5<|Fy<|C5<|Fy<|C5<|?_
    refine Ad rfl rfl<|?_
    exact ⟨(M.weaken (cN (sR _))),false,rfl,(by clear M;unfold B2;grind)⟩
   have h12:=Ai h12b;have h12c:(b10)=true:=(Ai h12b);refine g_t rfl (Aj h12c)<|Aa rfl<|g_t rfl (Aj h12c)<|Fi rfl<|g_t rfl (Aj h12c)<|A0 Bn.k rfl rfl<|g_t rfl (Aj h12c)<|Dq Du M A 3 rfl rfl rfl rfl<|g_t rfl (Aj h12c)<|Bs Aea rfl rfl (Mc (xs:=x.as) M SA (by have:=SA.bound;omega))<|?_;clear M;rintro _ w M ⟨b13,rfl,hb13⟩
   refine g_t rfl (Aj h12c)<|Dh rfl<|Be rfl (Aj h12c) rfl<|Ap rfl ?_ ?_
   ·intro h14b;have h14:=Ah h14b;have h14c:(b13)=false:=(Ah h14b);refine Ac<|Ab rfl<|Ae<|Ad rfl rfl<|?_
    exact ⟨(M.weaken (cN (sR _))),false,rfl,(by clear M;unfold B2;grind)⟩
   intro h15b;have h15:=Ai h15b;have h15c:(b13)=true:=(Ai h15b);refine Aq<|Az<|A0 Bn.k rfl rfl<|Gd Bq M 0 rfl rfl rfl rfl rfl rfl<|?_;clear M;intro w M
   refine A0 Bn.k rfl rfl<|Gd Du M 0 rfl rfl rfl rfl rfl rfl<|?_;clear M;intro w M
   refine B5<|I8 rfl<|Bw<|I8 rfl<|Bw<|I8 rfl<|Bw<|Dj<|Ac<|A0 Bn.k rfl rfl<|Bg Bq M 0 rfl rfl rfl rfl<|E3 rfl rfl<|Aa rfl<|g_t rfl (by decide)<|A0 Bn.k rfl rfl<|g_t rfl (by decide)<|Bg Bq M 0 rfl rfl rfl rfl<|g_t rfl (by decide)<|E3 rfl rfl<|Bh rfl (by decide) rfl<|?_
   refine Aa rfl<|g_t rfl (by decide)<|A0 Bn.k rfl rfl<|g_t rfl (by decide)<|Bg Bq M 0 rfl rfl rfl rfl<|g_t rfl (by decide)<|E3 rfl rfl<|Bh rfl (by decide) rfl<|Aa rfl<|?_
   rcases bE (decide (x.text=([]:List UInt8))) with h16b | h17b
   ·skip
    have h16:=dT h16b;refine g_t rfl h16b<|A0 Bn.k rfl rfl<|g_t rfl h16b<|Bg Du M 0 rfl rfl rfl rfl<|g_t rfl h16b<|B8 Du.k rfl<|g_t rfl h16b<|C3 rfl rfl<|Bh rfl h16b rfl<|Aa rfl<|g_t rfl (decide_eq_true (by decide))<|A0 Bn.k rfl rfl<|g_t rfl (decide_eq_true (by decide))<|Bg C7 M 0 rfl rfl rfl rfl<|g_t rfl (decide_eq_true (by decide))<|B8 C7.k rfl<|g_t rfl (decide_eq_true (by decide))<|C3 rfl rfl<|Bh rfl (decide_eq_true (by decide)) rfl<|Ab rfl<|Ae<|Ad rfl rfl<|?_
    exact ⟨(M.weaken (cN (sR _))),(decide (((0:Nat):Int)=0)),rfl,(by clear M;unfold B2;grind)⟩
   have h17:=dF h17b;refine g_f rfl h17b<|g_f rfl h17b<|g_f rfl h17b<|g_f rfl h17b<|Be rfl h17b rfl<|Aa rfl<|g_f rfl rfl<|g_f rfl rfl<|g_f rfl rfl<|g_f rfl rfl<|Be rfl rfl rfl<|Ab rfl<|Ae<|Ad rfl rfl<|?_
   exact ⟨(M.weaken (cN (sR _))),false,rfl,(by clear M;unfold B2;grind)⟩
  have h18:=dT (Ai h18b);have h18c:(decide (x.key=([]:List UInt8)))=true:=(Ai h18b);refine g_f rfl (Aj h18c)<|g_f rfl (Aj h18c)<|g_f rfl (Aj h18c)<|g_f rfl (Aj h18c)<|g_f rfl (Aj h18c)<|g_f rfl (Aj h18c)<|Be rfl (Aj h18c) rfl<|Aa rfl<|g_t rfl rfl<|Aa rfl<|g_t rfl rfl<|Fi rfl<|g_t rfl rfl<|A0 Bn.k rfl rfl<|g_t rfl rfl<|Dq C7 M A 5 rfl rfl rfl rfl<|g_t rfl rfl<|B8 C7.k rfl<|g_t rfl rfl<|Da rfl rfl<|Be rfl rfl rfl<|Ap rfl ?_ ?_
  ·intro h19b;have h19:=dT h19b;refine Ac<|Ab rfl<|Ae<|Ad rfl rfl<|?_
   exact ⟨(M.weaken (cN (sR _))),false,rfl,(by clear M;unfold B2;grind)⟩
  intro h20b;have h20:=dF h20b;refine Aq<|Az<|A0 Bn.k rfl rfl<|Gd Bq M 0 rfl rfl rfl rfl rfl rfl<|?_;clear M;intro w M
  refine A0 Bn.k rfl rfl<|Gd C7 M 0 rfl rfl rfl rfl rfl rfl<|?_;clear M;intro w M
  refine Ag<|Ag<|Ac<|Aa rfl<|Fi rfl<|A0 Bn.k rfl rfl<|Dq Bq M A 1 rfl rfl rfl rfl<|Bs Qp rfl rfl (H3 (s:=x.tag) M (by omega))<|?_;clear M;rintro _ w M ⟨b21,rfl,hb21⟩
  refine Dh rfl<|Aa rfl<|?_
  rcases bE (!(b21)) with h22b | h23b
  ·skip
   have h22:=Ah h22b;have h22c:(b21)=false:=(Ah h22b);refine g_f rfl (Ak h22c)<|g_f rfl (Ak h22c)<|g_f rfl (Ak h22c)<|g_f rfl (Ak h22c)<|g_f rfl (Ak h22c)<|g_f rfl (Ak h22c)<|Bh rfl (Ak h22c) rfl<|Bl rfl rfl<|Ac<|Ab rfl<|Ae<|C5<|C5<|Fy<|C5<|Fy<|C5<|Fy<|C5<|?_
   refine Ad rfl rfl<|?_
   exact ⟨(M.weaken (cN (sR _))),false,rfl,(by clear M;unfold B2;grind)⟩
  have h23:=Ai h23b;have h23c:(b21)=true:=(Ai h23b);refine g_t rfl (Aj h23c)<|Aa rfl<|g_t rfl (Aj h23c)<|Fi rfl<|g_t rfl (Aj h23c)<|A0 Bn.k rfl rfl<|g_t rfl (Aj h23c)<|Dq Du M A 3 rfl rfl rfl rfl<|g_t rfl (Aj h23c)<|Bs Aea rfl rfl (Mc (xs:=x.as) M SA (by have:=SA.bound;omega))<|?_;clear M;rintro _ w M ⟨b24,rfl,hb24⟩
  refine g_t rfl (Aj h23c)<|Dh rfl<|Be rfl (Aj h23c) rfl<|Ap rfl ?_ ?_
  ·intro h25b;have h25:=Ah h25b;have h25c:(b24)=false:=(Ah h25b);refine Ac<|Ab rfl<|Ae<|Ad rfl rfl<|?_
   exact ⟨(M.weaken (cN (sR _))),false,rfl,(by clear M;unfold B2;grind)⟩
  intro h26b;have h26:=Ai h26b;have h26c:(b24)=true:=(Ai h26b);refine Aq<|Az<|A0 Bn.k rfl rfl<|Gd Bq M 0 rfl rfl rfl rfl rfl rfl<|?_;clear M;intro w M
  refine A0 Bn.k rfl rfl<|Gd Du M 0 rfl rfl rfl rfl rfl rfl<|?_;clear M;intro w M
  refine B5<|I8 rfl<|Bw<|I8 rfl<|Bw<|I8 rfl<|Bw<|Dj<|Ac<|A0 Bn.k rfl rfl<|Bg Bq M 0 rfl rfl rfl rfl<|E3 rfl rfl<|Aa rfl<|g_t rfl (by decide)<|A0 Bn.k rfl rfl<|g_t rfl (by decide)<|Bg Bq M 0 rfl rfl rfl rfl<|g_t rfl (by decide)<|E3 rfl rfl<|Bh rfl (by decide) rfl<|?_
  refine Aa rfl<|g_t rfl (by decide)<|A0 Bn.k rfl rfl<|g_t rfl (by decide)<|Bg Bq M 0 rfl rfl rfl rfl<|g_t rfl (by decide)<|E3 rfl rfl<|Bh rfl (by decide) rfl<|Aa rfl<|?_
  rcases bE (decide (x.text=([]:List UInt8))) with h27b | h28b
  ·skip
   have h27:=dT h27b;refine g_t rfl h27b<|A0 Bn.k rfl rfl<|g_t rfl h27b<|Bg Du M 0 rfl rfl rfl rfl<|g_t rfl h27b<|B8 Du.k rfl<|g_t rfl h27b<|C3 rfl rfl<|Bh rfl h27b rfl<|Aa rfl<|g_t rfl (decide_eq_true (by decide))<|A0 Bn.k rfl rfl<|g_t rfl (decide_eq_true (by decide))<|Bg C7 M 0 rfl rfl rfl rfl<|g_t rfl (decide_eq_true (by decide))<|B8 C7.k rfl<|g_t rfl (decide_eq_true (by decide))<|C3 rfl rfl<|Bh rfl (decide_eq_true (by decide)) rfl<|Ab rfl<|Ae<|Ad rfl rfl<|?_
   exact ⟨(M.weaken (cN (sR _))),(decide (((0:Nat):Int)=0)),rfl,(by clear M;unfold B2;grind)⟩
  have h28:=dF h28b;refine g_f rfl h28b<|g_f rfl h28b<|g_f rfl h28b<|g_f rfl h28b<|Be rfl h28b rfl<|Aa rfl<|g_f rfl rfl<|g_f rfl rfl<|g_f rfl rfl<|g_f rfl rfl<|Be rfl rfl rfl<|Ab rfl<|Ae<|Ad rfl rfl<|?_
  exact ⟨(M.weaken (cN (sR _))),false,rfl,(by clear M;unfold B2;grind)⟩
 intro h29b;have h29:=dF h29b;refine Aq<|Ag<|Ac<|C3 rfl rfl<|Ab rfl<|Ap rfl ?_ ?_
 ·intro h30b;have h30:=dT h30b;refine B5<|Bw<|Bw<|I8 rfl<|Bw<|Dj<|Ag<|Ag<|Ac<|Aa rfl<|Fi rfl<|A0 Bn.k rfl rfl<|Dq Bq M A 1 rfl rfl rfl rfl<|Bs Qp rfl rfl (H3 (s:=x.tag) M (by omega))<|?_;clear M;rintro _ w M ⟨b31,rfl,hb31⟩
  refine Dh rfl<|Aa rfl<|?_
  rcases bE (!(b31)) with h32b | h33b
  ·skip
   have h32:=Ah h32b;have h32c:(b31)=false:=(Ah h32b);refine g_f rfl (Ak h32c)<|g_f rfl (Ak h32c)<|g_f rfl (Ak h32c)<|g_f rfl (Ak h32c)<|g_f rfl (Ak h32c)<|g_f rfl (Ak h32c)<|Bh rfl (Ak h32c) rfl<|Bl rfl rfl<|Ac<|Ab rfl<|Ae<|C5<|C5<|Fy<|C5<|Fy<|C5<|Fy<|C5<|?_
   refine Ad rfl rfl<|?_
   exact ⟨(M.weaken (cN (sR _))),false,rfl,(by clear M;unfold B2;grind)⟩
  have h33:=Ai h33b;have h33c:(b31)=true:=(Ai h33b);refine g_t rfl (Aj h33c)<|Aa rfl<|g_t rfl (Aj h33c)<|Fi rfl<|g_t rfl (Aj h33c)<|A0 Bn.k rfl rfl<|g_t rfl (Aj h33c)<|Dq Du M A 3 rfl rfl rfl rfl<|g_t rfl (Aj h33c)<|Bs Aea rfl rfl (Mc (xs:=x.as) M SA (by have:=SA.bound;omega))<|?_;clear M;rintro _ w M ⟨b34,rfl,hb34⟩
  refine g_t rfl (Aj h33c)<|Dh rfl<|Be rfl (Aj h33c) rfl<|Ap rfl ?_ ?_
  ·intro h35b;have h35:=Ah h35b;have h35c:(b34)=false:=(Ah h35b);refine Ac<|Ab rfl<|Ae<|Ad rfl rfl<|?_
   exact ⟨(M.weaken (cN (sR _))),false,rfl,(by clear M;unfold B2;grind)⟩
  intro h36b;have h36:=Ai h36b;have h36c:(b34)=true:=(Ai h36b);refine Aq<|Az<|A0 Bn.k rfl rfl<|Gd Bq M 0 rfl rfl rfl rfl rfl rfl<|?_;clear M;intro w M
  refine A0 Bn.k rfl rfl<|Gd Du M 0 rfl rfl rfl rfl rfl rfl<|?_;clear M;intro w M
  refine B5<|I8 rfl<|Bw<|I8 rfl<|Bw<|I8 rfl<|Bw<|Dj<|Ac<|A0 Bn.k rfl rfl<|Bg Bq M 0 rfl rfl rfl rfl<|E3 rfl rfl<|Aa rfl<|g_t rfl (by decide)<|A0 Bn.k rfl rfl<|g_t rfl (by decide)<|Bg Bq M 0 rfl rfl rfl rfl<|g_t rfl (by decide)<|E3 rfl rfl<|Bh rfl (by decide) rfl<|?_
  refine Aa rfl<|?_
  rcases bE (decide (x.key=([]:List UInt8))) with h37b | h40b
  ·skip
   have h37:=dT h37b;refine g_t rfl h37b<|A0 Bn.k rfl rfl<|g_t rfl h37b<|Bg Bq M 0 rfl rfl rfl rfl<|g_t rfl h37b<|E3 rfl rfl<|Bh rfl h37b rfl<|Aa rfl<|?_
   rcases bE (decide (x.text=([]:List UInt8))) with h38b | h39b
   ·skip
    have h38:=dT h38b;refine g_t rfl h38b<|A0 Bn.k rfl rfl<|g_t rfl h38b<|Bg Du M 0 rfl rfl rfl rfl<|g_t rfl h38b<|B8 Du.k rfl<|g_t rfl h38b<|C3 rfl rfl<|Bh rfl h38b rfl<|Aa rfl<|g_t rfl (decide_eq_true (by decide))<|A0 Bn.k rfl rfl<|g_t rfl (decide_eq_true (by decide))<|Bg C7 M 0 rfl rfl rfl rfl<|g_t rfl (decide_eq_true (by decide))<|B8 C7.k rfl<|g_t rfl (decide_eq_true (by decide))<|C3 rfl rfl<|Bh rfl (decide_eq_true (by decide)) rfl<|Ab rfl<|Ae<|Ad rfl rfl<|?_
    exact ⟨(M.weaken (cN (sR _))),(decide (((x.kids.length:Nat):Int)=0)),rfl,(by clear M;unfold B2;grind)⟩
   have h39:=dF h39b;refine g_f rfl h39b<|g_f rfl h39b<|g_f rfl h39b<|g_f rfl h39b<|Be rfl h39b rfl<|Aa rfl<|g_f rfl rfl<|g_f rfl rfl<|g_f rfl rfl<|g_f rfl rfl<|Be rfl rfl rfl<|Ab rfl<|Ae<|Ad rfl rfl<|?_
   exact ⟨(M.weaken (cN (sR _))),false,rfl,(by clear M;unfold B2;grind)⟩
  have h40:=dF h40b;refine g_f rfl h40b<|g_f rfl h40b<|g_f rfl h40b<|Be rfl h40b rfl<|Aa rfl<|g_f rfl rfl<|g_f rfl rfl<|g_f rfl rfl<|g_f rfl rfl<|Be rfl rfl rfl<|Aa rfl<|g_f rfl rfl<|g_f rfl rfl<|g_f rfl rfl<|g_f rfl rfl<|Be rfl rfl rfl<|Ab rfl<|Ae<|Ad rfl rfl<|?_
  exact ⟨(M.weaken (cN (sR _))),false,rfl,(by clear M;unfold B2;grind)⟩
 intro h41b;have h41:=dF h41b;refine Aq<|Ag<|Ac<|C3 rfl rfl<|Ab rfl<|Ap rfl ?_ ?_
 ·intro h42b;have h42:=dT h42b;refine B5<|Bw<|Bw<|I8 rfl<|Bw<|I8 rfl<|Bw<|Dj<|Ag<|Ag<|Ac<|Aa rfl<|Fi rfl<|A0 Bn.k rfl rfl<|Dq Bq M A 4 rfl rfl rfl rfl<|Bs Aed rfl rfl (Md (s:=x.text) M (by omega))<|?_;clear M;rintro _ w M ⟨b43,rfl,hb43⟩
  refine Dh rfl<|Ap rfl ?_ ?_
  ·intro h44b;have h44:=Ah h44b;have h44c:(b43)=false:=(Ah h44b);refine Ac<|Ab rfl<|Ae<|Ad rfl rfl<|?_
   exact ⟨(M.weaken (cN (sR _))),false,rfl,(by clear M;unfold B2;grind)⟩
  intro h45b;have h45:=Ai h45b;have h45c:(b43)=true:=(Ai h45b);refine Aq<|Az<|A0 Bn.k rfl rfl<|Gd Bq M 0 rfl rfl rfl rfl rfl rfl<|?_;clear M;intro w M
  refine B5<|I8 rfl<|Bw<|I8 rfl<|Bw<|Dj<|Ac<|A0 Bn.k rfl rfl<|Bg Bq M 0 rfl rfl rfl rfl<|E3 rfl rfl<|Aa rfl<|?_
  rcases bE (decide (x.tag=([]:List UInt8))) with h46b | h51b
  ·skip
   have h46:=dT h46b;refine g_t rfl h46b<|A0 Bn.k rfl rfl<|g_t rfl h46b<|Bg Bq M 0 rfl rfl rfl rfl<|g_t rfl h46b<|E3 rfl rfl<|Bh rfl h46b rfl<|Aa rfl<|?_
   rcases bE (decide (x.key=([]:List UInt8))) with h47b | h50b
   ·skip
    have h47:=dT h47b;refine g_t rfl h47b<|A0 Bn.k rfl rfl<|g_t rfl h47b<|Bg Bq M 0 rfl rfl rfl rfl<|g_t rfl h47b<|E3 rfl rfl<|Bh rfl h47b rfl<|Aa rfl<|g_t rfl (by decide)<|A0 Bn.k rfl rfl<|g_t rfl (by decide)<|Bg Du M 0 rfl rfl rfl rfl<|g_t rfl (by decide)<|B8 Du.k rfl<|g_t rfl (by decide)<|C3 rfl rfl<|Bh rfl (by decide) rfl<|Aa rfl<|?_
    rcases bE (decide (((x.as.length:Nat):Int)=0)) with h48b | h49b
    ·skip
     have h48:=dT h48b;refine g_t rfl h48b<|A0 Bn.k rfl rfl<|g_t rfl h48b<|Bg C7 M 0 rfl rfl rfl rfl<|g_t rfl h48b<|B8 C7.k rfl<|g_t rfl h48b<|C3 rfl rfl<|Bh rfl h48b rfl<|Ab rfl<|Ae<|Ad rfl rfl<|?_
     exact ⟨(M.weaken (cN (sR _))),(decide (((x.kids.length:Nat):Int)=0)),rfl,(by clear M;unfold B2;grind)⟩
    have h49:=dF h49b;refine g_f rfl h49b<|g_f rfl h49b<|g_f rfl h49b<|g_f rfl h49b<|Be rfl h49b rfl<|Ab rfl<|Ae<|Ad rfl rfl<|?_
    exact ⟨(M.weaken (cN (sR _))),false,rfl,(by clear M;unfold B2;grind)⟩
   have h50:=dF h50b;refine g_f rfl h50b<|g_f rfl h50b<|g_f rfl h50b<|Be rfl h50b rfl<|Aa rfl<|g_f rfl rfl<|g_f rfl rfl<|g_f rfl rfl<|g_f rfl rfl<|Be rfl rfl rfl<|Aa rfl<|g_f rfl rfl<|g_f rfl rfl<|g_f rfl rfl<|g_f rfl rfl<|Be rfl rfl rfl<|Ab rfl<|Ae<|Ad rfl rfl<|?_
   exact ⟨(M.weaken (cN (sR _))),false,rfl,(by clear M;unfold B2;grind)⟩
  have h51:=dF h51b;refine g_f rfl h51b<|g_f rfl h51b<|g_f rfl h51b<|Be rfl h51b rfl<|Aa rfl<|g_f rfl rfl<|g_f rfl rfl<|g_f rfl rfl<|Be rfl rfl rfl<|Aa rfl<|g_f rfl rfl<|g_f rfl rfl<|g_f rfl rfl<|g_f rfl rfl<|Be rfl rfl rfl<|Aa rfl<|g_f rfl rfl<|g_f rfl rfl<|g_f rfl rfl<|g_f rfl rfl<|Be rfl rfl rfl<|Ab rfl<|Bc<|Cm<|?_
  refine Ae<|Ad rfl rfl<|?_
  exact ⟨(M.weaken (cN (sR _))),false,rfl,(by clear M;unfold B2;grind)⟩
 intro h52b;have h52:=dF h52b;refine Aq<|Ag<|Ac<|C3 rfl rfl<|Ab rfl<|Ap rfl ?_ ?_
 ·intro h53b;have h53:=dT h53b;refine Aq<|Bl rfl h53b<|B5<|Bw<|I8 rfl<|Bw<|I8 rfl<|Bw<|I8 rfl<|Bw<|Dj<|B5<|I8 rfl<|Bw<|Dj<|Ac<|A0 Bn.k rfl rfl<|Bg Bq M 0 rfl rfl rfl rfl<|E3 rfl rfl<|Aa rfl<|?_
  rcases bE (decide (x.tag=([]:List UInt8))) with h54b | h61b
  ·skip
   have h54:=dT h54b;refine g_t rfl h54b<|A0 Bn.k rfl rfl<|g_t rfl h54b<|Bg Bq M 0 rfl rfl rfl rfl<|g_t rfl h54b<|E3 rfl rfl<|Bh rfl h54b rfl<|Aa rfl<|?_
   rcases bE (decide (x.key=([]:List UInt8))) with h55b | h60b
   ·skip
    have h55:=dT h55b;refine g_t rfl h55b<|A0 Bn.k rfl rfl<|g_t rfl h55b<|Bg Bq M 0 rfl rfl rfl rfl<|g_t rfl h55b<|E3 rfl rfl<|Bh rfl h55b rfl<|Aa rfl<|?_
    rcases bE (decide (x.text=([]:List UInt8))) with h56b | h59b
    ·skip
     have h56:=dT h56b;refine g_t rfl h56b<|A0 Bn.k rfl rfl<|g_t rfl h56b<|Bg Du M 0 rfl rfl rfl rfl<|g_t rfl h56b<|B8 Du.k rfl<|g_t rfl h56b<|C3 rfl rfl<|Bh rfl h56b rfl<|Aa rfl<|?_
     rcases bE (decide (((x.as.length:Nat):Int)=0)) with h57b | h58b
     ·skip
      have h57:=dT h57b;refine g_t rfl h57b<|A0 Bn.k rfl rfl<|g_t rfl h57b<|Bg C7 M 0 rfl rfl rfl rfl<|g_t rfl h57b<|B8 C7.k rfl<|g_t rfl h57b<|C3 rfl rfl<|Bh rfl h57b rfl<|Ab rfl<|Ae<|Ad rfl rfl<|?_
      exact ⟨(M.weaken (cN (sR _))),(decide (((x.kids.length:Nat):Int)=0)),rfl,(by clear M;unfold B2;grind)⟩
     have h58:=dF h58b;refine g_f rfl h58b<|g_f rfl h58b<|g_f rfl h58b<|g_f rfl h58b<|Be rfl h58b rfl<|Ab rfl<|Ae<|Ad rfl rfl<|?_
     exact ⟨(M.weaken (cN (sR _))),false,rfl,(by clear M;unfold B2;grind)⟩
    have h59:=dF h59b;refine g_f rfl h59b<|g_f rfl h59b<|g_f rfl h59b<|g_f rfl h59b<|Be rfl h59b rfl<|Aa rfl<|g_f rfl rfl<|g_f rfl rfl<|g_f rfl rfl<|g_f rfl rfl<|Be rfl rfl rfl<|Ab rfl<|Ae<|Ad rfl rfl<|?_
    exact ⟨(M.weaken (cN (sR _))),false,rfl,(by clear M;unfold B2;grind)⟩
   have h60:=dF h60b;refine g_f rfl h60b<|g_f rfl h60b<|g_f rfl h60b<|Be rfl h60b rfl<|Aa rfl<|g_f rfl rfl<|g_f rfl rfl<|g_f rfl rfl<|g_f rfl rfl<|Be rfl rfl rfl<|Aa rfl<|g_f rfl rfl<|g_f rfl rfl<|g_f rfl rfl<|g_f rfl rfl<|Be rfl rfl rfl<|Ab rfl<|Ae<|Ad rfl rfl<|?_
   exact ⟨(M.weaken (cN (sR _))),false,rfl,(by clear M;unfold B2;grind)⟩
  have h61:=dF h61b;refine g_f rfl h61b<|g_f rfl h61b<|g_f rfl h61b<|Be rfl h61b rfl<|Aa rfl<|g_f rfl rfl<|g_f rfl rfl<|g_f rfl rfl<|Be rfl rfl rfl<|Aa rfl<|g_f rfl rfl<|g_f rfl rfl<|g_f rfl rfl<|g_f rfl rfl<|Be rfl rfl rfl<|Aa rfl<|g_f rfl rfl<|g_f rfl rfl<|g_f rfl rfl<|g_f rfl rfl<|Be rfl rfl rfl<|Ab rfl<|Bc<|Cm<|?_
  refine Ae<|Ad rfl rfl<|?_
  exact ⟨(M.weaken (cN (sR _))),false,rfl,(by clear M;unfold B2;grind)⟩
 intro h62b;have h62:=dF h62b;refine Az<|C3 rfl rfl<|Ab rfl<|Ap rfl ?_ ?_
 ·intro h63b;have h63:=dT h63b;refine B5<|Bw<|I8 rfl<|Bw<|I8 rfl<|Bw<|I8 rfl<|Bw<|Dj<|B5<|I8 rfl<|Bw<|Dj<|Ac<|A0 Bn.k rfl rfl<|Bg Bq M 0 rfl rfl rfl rfl<|E3 rfl rfl<|Aa rfl<|?_
  rcases bE (decide (x.tag=([]:List UInt8))) with h64b | h71b
  ·skip
   have h64:=dT h64b;refine g_t rfl h64b<|A0 Bn.k rfl rfl<|g_t rfl h64b<|Bg Bq M 0 rfl rfl rfl rfl<|g_t rfl h64b<|E3 rfl rfl<|Bh rfl h64b rfl<|Aa rfl<|?_
   rcases bE (decide (x.key=([]:List UInt8))) with h65b | h70b
   ·skip
    have h65:=dT h65b;refine g_t rfl h65b<|A0 Bn.k rfl rfl<|g_t rfl h65b<|Bg Bq M 0 rfl rfl rfl rfl<|g_t rfl h65b<|E3 rfl rfl<|Bh rfl h65b rfl<|Aa rfl<|?_
    rcases bE (decide (x.text=([]:List UInt8))) with h66b | h69b
    ·skip
     have h66:=dT h66b;refine g_t rfl h66b<|A0 Bn.k rfl rfl<|g_t rfl h66b<|Bg Du M 0 rfl rfl rfl rfl<|g_t rfl h66b<|B8 Du.k rfl<|g_t rfl h66b<|C3 rfl rfl<|Bh rfl h66b rfl<|Aa rfl<|?_
     rcases bE (decide (((x.as.length:Nat):Int)=0)) with h67b | h68b
     ·skip
      have h67:=dT h67b;refine g_t rfl h67b<|A0 Bn.k rfl rfl<|g_t rfl h67b<|Bg C7 M 0 rfl rfl rfl rfl<|g_t rfl h67b<|B8 C7.k rfl<|g_t rfl h67b<|C3 rfl rfl<|Bh rfl h67b rfl<|Ab rfl<|Ae<|Ad rfl rfl<|?_
      exact ⟨(M.weaken (cN (sR _))),(decide (((x.kids.length:Nat):Int)=0)),rfl,(by clear M;unfold B2;grind)⟩
     have h68:=dF h68b;refine g_f rfl h68b<|g_f rfl h68b<|g_f rfl h68b<|g_f rfl h68b<|Be rfl h68b rfl<|Ab rfl<|Ae<|Ad rfl rfl<|?_
     exact ⟨(M.weaken (cN (sR _))),false,rfl,(by clear M;unfold B2;grind)⟩
    have h69:=dF h69b;refine g_f rfl h69b<|g_f rfl h69b<|g_f rfl h69b<|g_f rfl h69b<|Be rfl h69b rfl<|Aa rfl<|g_f rfl rfl<|g_f rfl rfl<|g_f rfl rfl<|g_f rfl rfl<|Be rfl rfl rfl<|Ab rfl<|Ae<|Ad rfl rfl<|?_
    exact ⟨(M.weaken (cN (sR _))),false,rfl,(by clear M;unfold B2;grind)⟩
   have h70:=dF h70b;refine g_f rfl h70b<|g_f rfl h70b<|g_f rfl h70b<|Be rfl h70b rfl<|Aa rfl<|g_f rfl rfl<|g_f rfl rfl<|g_f rfl rfl<|g_f rfl rfl<|Be rfl rfl rfl<|Aa rfl<|g_f rfl rfl<|g_f rfl rfl<|g_f rfl rfl<|g_f rfl rfl<|Be rfl rfl rfl<|Ab rfl<|Ae<|Ad rfl rfl<|?_
   exact ⟨(M.weaken (cN (sR _))),false,rfl,(by clear M;unfold B2;grind)⟩
  have h71:=dF h71b;refine g_f rfl h71b<|g_f rfl h71b<|g_f rfl h71b<|Be rfl h71b rfl<|Aa rfl<|g_f rfl rfl<|g_f rfl rfl<|g_f rfl rfl<|Be rfl rfl rfl<|Aa rfl<|g_f rfl rfl<|g_f rfl rfl<|g_f rfl rfl<|g_f rfl rfl<|Be rfl rfl rfl<|Aa rfl<|g_f rfl rfl<|g_f rfl rfl<|g_f rfl rfl<|g_f rfl rfl<|Be rfl rfl rfl<|Ab rfl<|Bc<|Cm<|?_
  refine Ae<|Ad rfl rfl<|?_
  exact ⟨(M.weaken (cN (sR _))),false,rfl,(by clear M;unfold B2;grind)⟩
 intro h72b;have h72:=dF h72b;refine Aq<|B5<|I8 rfl<|Bw<|I8 rfl<|Bw<|I8 rfl<|Bw<|I8 rfl<|Bw<|Dj<|Ag<|Ac<|Ab rfl<|Ae<|Ad rfl rfl<|?_
 exact ⟨(M.weaken (cN (sR _))),false,rfl,(by clear M;unfold B2;grind)⟩
theorem Acu (M:Mem w0 G L w) {x:PT} {ta:Option Addr} {tc:Nat} {ka:Option Addr} {kc:Nat} (hk:Bb .u8 x.kind) (hl:(x.tag.length≤9223372036854775807∧x.key.length≤9223372036854775807∧x.text.length≤9223372036854775807)) (SA:Au rdSlot 3 G (.slice ta x.as.length tc) x.as) (SK:Au rdP 6 G (.slice ka x.kids.length kc) x.kids):Calls Tryz.prog 221 #[.agg #[.int .u8 x.kind,.string (str x.tag),.string (str x.key),.slice ta x.as.length tc,.string (str x.text),.slice ka x.kids.length kc]] w (Cs w0 G L fun v=>∃ bb:Bool,v=.bool bb∧(bb=true↔B2 x)):=by
 have bA:=SA.bound;have bK:=SK.bound;refine Ay (vs:=[_]) Tryz.func221 rfl (n:=113) rfl rfl<|Ac<|Cz M rfl rfl rfl<|?_;clear M;intro b1 w M
 refine Ab rfl<|Ag<|Ac<|A0 Bn.k rfl rfl<|Bg Fa M 0 rfl rfl rfl rfl<|Ax<|Ac<|C3 rfl rfl<|Ab rfl<|Ap rfl ?_ ?_
 ·intro h2b;have h2:=dT h2b;refine Ac<|A0 Bn.k rfl rfl<|Bg Bq M 0 rfl rfl rfl rfl<|Bs Mu rfl rfl (Fb (s:=x.tag) M (by omega))<|?_;clear M;rintro _ w M ⟨b3,rfl,hb3⟩
  refine Aa rfl<|?_
  rcases bE (b3) with h4b | h20b
  ·skip
   have h4:(b3)=true:=h4b;refine g_t rfl h4b<|A0 Bn.k rfl rfl<|g_t rfl h4b<|Bg Bq M 0 rfl rfl rfl rfl<|g_t rfl h4b<|E3 rfl rfl<|g_t rfl h4b<|Aa rfl<|?_
   rcases bE (decide (x.key=([]:List UInt8))) with h5b | h11b
   ·skip
    have h5:=dT h5b;refine g_f rfl h5b<|g_f rfl h5b<|g_f rfl h5b<|g_t rfl h4b<|Bh rfl h5b rfl<|Bh rfl h4b rfl<|Aa rfl<|g_t rfl rfl<|A0 Bn.k rfl rfl<|g_t rfl rfl<|Bg Du M 0 rfl rfl rfl rfl<|g_t rfl rfl<|Bs Aeb rfl rfl (Mj (xs:=x.as) M SA (by have:=SA.bound;omega))<|?_;clear M;rintro _ w M ⟨b6,rfl,hb6⟩
    refine Bh rfl rfl rfl<|Aa rfl<|?_
    rcases bE (b6) with h7b | h10b
    ·skip
     have h7:(b6)=true:=h7b;refine g_t rfl h7b<|A0 Bn.k rfl rfl<|g_t rfl h7b<|Bg Bq M 0 rfl rfl rfl rfl<|g_t rfl h7b<|E3 rfl rfl<|Bh rfl h7b rfl<|Aa rfl<|?_
     rcases bE (decide (x.text=([]:List UInt8))) with h8b | h9b
     ·skip
      have h8:=dT h8b;refine g_t rfl h8b<|A0 Bn.k rfl rfl<|g_t rfl h8b<|Bg C7 M 0 rfl rfl rfl rfl<|g_t rfl h8b<|B8 C7.k rfl<|g_t rfl h8b<|Jk rfl rfl<|Bh rfl h8b rfl<|Ab rfl<|Ae<|Ad rfl rfl<|?_
      exact ⟨(M.weaken (cN (sR _))),(decide (((x.kids.length:Nat):Int)≤16)),rfl,(by have q0:=@Dl x.as.length x.kids.length (by omega) (by omega);clear M;unfold B2;grind)⟩
     have h9:=dF h9b;refine g_f rfl h9b<|g_f rfl h9b<|g_f rfl h9b<|g_f rfl h9b<|Be rfl h9b rfl<|Ab rfl<|Ae<|Ad rfl rfl<|?_
     exact ⟨(M.weaken (cN (sR _))),false,rfl,(by have q0:=@Dl x.as.length x.kids.length (by omega) (by omega);clear M;unfold B2;grind)⟩
    have h10:(b6)=false:=h10b;refine g_f rfl h10b<|g_f rfl h10b<|g_f rfl h10b<|Be rfl h10b rfl<|Aa rfl<|g_f rfl rfl<|g_f rfl rfl<|g_f rfl rfl<|g_f rfl rfl<|Be rfl rfl rfl<|Ab rfl<|Ae<|Ad rfl rfl<|?_
    exact ⟨(M.weaken (cN (sR _))),false,rfl,(by have q0:=@Dl x.as.length x.kids.length (by omega) (by omega);clear M;unfold B2;grind)⟩
   have h11:=dF h11b;refine g_t rfl h11b<|A0 Bn.k rfl rfl<|g_t rfl h11b<|Bg Bq M 0 rfl rfl rfl rfl<|g_t rfl h11b<|Bs Mu rfl rfl (Fb (s:=x.key) M (by omega))<|?_;clear M;rintro _ w M ⟨b12,rfl,hb12⟩
   refine g_t rfl h4b<|Be rfl h11b rfl<|Bh rfl h4b rfl<|Aa rfl<|?_
   rcases bE (b12) with h13b | h19b
   ·skip
    have h13:(b12)=true:=h13b;refine g_t rfl h13b<|A0 Bn.k rfl rfl<|g_t rfl h13b<|Bg Du M 0 rfl rfl rfl rfl<|g_t rfl h13b<|Bs Aeb rfl rfl (Mj (xs:=x.as) M SA (by have:=SA.bound;omega))<|?_;clear M;rintro _ w M ⟨b14,rfl,hb14⟩
    refine Bh rfl h13b rfl<|Aa rfl<|?_
    rcases bE (b14) with h15b | h18b
    ·skip
     have h15:(b14)=true:=h15b;refine g_t rfl h15b<|A0 Bn.k rfl rfl<|g_t rfl h15b<|Bg Bq M 0 rfl rfl rfl rfl<|g_t rfl h15b<|E3 rfl rfl<|Bh rfl h15b rfl<|Aa rfl<|?_
     rcases bE (decide (x.text=([]:List UInt8))) with h16b | h17b
     ·skip
      have h16:=dT h16b;refine g_t rfl h16b<|A0 Bn.k rfl rfl<|g_t rfl h16b<|Bg C7 M 0 rfl rfl rfl rfl<|g_t rfl h16b<|B8 C7.k rfl<|g_t rfl h16b<|Jk rfl rfl<|Bh rfl h16b rfl<|Ab rfl<|Ae<|Ad rfl rfl<|?_
      exact ⟨(M.weaken (cN (sR _))),(decide (((x.kids.length:Nat):Int)≤16)),rfl,(by have q0:=@Dl x.as.length x.kids.length (by omega) (by omega);clear M;unfold B2;grind)⟩
     have h17:=dF h17b;refine g_f rfl h17b<|g_f rfl h17b<|g_f rfl h17b<|g_f rfl h17b<|Be rfl h17b rfl<|Ab rfl<|Ae<|Ad rfl rfl<|?_
     exact ⟨(M.weaken (cN (sR _))),false,rfl,(by have q0:=@Dl x.as.length x.kids.length (by omega) (by omega);clear M;unfold B2;grind)⟩
    have h18:(b14)=false:=h18b;refine g_f rfl h18b<|g_f rfl h18b<|g_f rfl h18b<|Be rfl h18b rfl<|Aa rfl<|g_f rfl rfl<|g_f rfl rfl<|g_f rfl rfl<|g_f rfl rfl<|Be rfl rfl rfl<|Ab rfl<|Ae<|Ad rfl rfl<|?_
    exact ⟨(M.weaken (cN (sR _))),false,rfl,(by have q0:=@Dl x.as.length x.kids.length (by omega) (by omega);clear M;unfold B2;grind)⟩
   have h19:(b12)=false:=h19b;refine g_f rfl h19b<|g_f rfl h19b<|g_f rfl h19b<|Be rfl h19b rfl<|Aa rfl<|g_f rfl rfl<|g_f rfl rfl<|g_f rfl rfl<|Be rfl rfl rfl<|Aa rfl<|g_f rfl rfl<|g_f rfl rfl<|g_f rfl rfl<|g_f rfl rfl<|Be rfl rfl rfl<|Ab rfl<|Ae<|Ad rfl rfl<|?_
   exact ⟨(M.weaken (cN (sR _))),false,rfl,(by have q0:=@Dl x.as.length x.kids.length (by omega) (by omega);clear M;unfold B2;grind)⟩
  have h20:(b3)=false:=h20b;refine g_f rfl h20b<|g_f rfl h20b<|g_f rfl h20b<|g_f rfl h20b<|g_u rfl<|g_u rfl<|g_u rfl<|g_f rfl h20b<|Be rfl h20b rfl<|Aa rfl<|g_f rfl rfl<|g_f rfl rfl<|g_f rfl rfl<|Be rfl rfl rfl<|Aa rfl<|g_f rfl rfl<|g_f rfl rfl<|g_f rfl rfl<|Be rfl rfl rfl<|Aa rfl<|g_f rfl rfl<|g_f rfl rfl<|g_f rfl rfl<|g_f rfl rfl<|?_
  refine Be rfl rfl rfl<|Ab rfl<|Ae<|Ad rfl rfl<|?_
  exact ⟨(M.weaken (cN (sR _))),false,rfl,(by have q0:=@Dl x.as.length x.kids.length (by omega) (by omega);clear M;unfold B2;grind)⟩
 intro h21b;have h21:=dF h21b;refine Ac<|C3 rfl rfl<|Ab rfl<|Ap rfl ?_ ?_
 ·intro h22b;have h22:=dT h22b;refine Ac<|A0 Bn.k rfl rfl<|Bg Bq M 0 rfl rfl rfl rfl<|Bs Ui rfl rfl (K4 (s:=x.text) M (by omega))<|?_;clear M;rintro _ w M ⟨b23,rfl,hb23⟩
  refine Aa rfl<|?_
  rcases bE (b23) with h24b | h29b
  ·skip
   have h24:(b23)=true:=h24b;refine g_t rfl h24b<|A0 Bn.k rfl rfl<|g_t rfl h24b<|Bg Bq M 0 rfl rfl rfl rfl<|g_t rfl h24b<|E3 rfl rfl<|Bh rfl h24b rfl<|Aa rfl<|?_
   rcases bE (decide (x.tag=([]:List UInt8))) with h25b | h28b
   ·skip
    have h25:=dT h25b;refine g_t rfl h25b<|A0 Bn.k rfl rfl<|g_t rfl h25b<|Bg Bq M 0 rfl rfl rfl rfl<|g_t rfl h25b<|E3 rfl rfl<|Bh rfl h25b rfl<|Aa rfl<|?_
    rcases bE (decide (x.key=([]:List UInt8))) with h26b | h27b
    ·skip
     have h26:=dT h26b;refine g_t rfl h26b<|A0 Bn.k rfl rfl<|g_t rfl h26b<|Bg Du M 0 rfl rfl rfl rfl<|g_t rfl h26b<|B8 Du.k rfl<|g_t rfl h26b<|A0 Bn.k rfl rfl<|g_t rfl h26b<|Bg C7 M 0 rfl rfl rfl rfl<|g_t rfl h26b<|B8 C7.k rfl<|g_t rfl h26b<|Ar (fun a F=>R0 (F.ev rfl) (F.ev rfl)) rfl<|g_t rfl h26b<|C3 rfl rfl<|Bh rfl h26b rfl<|Ab rfl<|Ae<|Ad rfl rfl<|?_
     exact ⟨(M.weaken (cN (sR _))),(decide (IntKind.i64.wrap (((x.as.length:Nat):Int)+((x.kids.length:Nat):Int))=0)),rfl,(by have q0:=@Dl x.as.length x.kids.length (by omega) (by omega);clear M;unfold B2;grind)⟩
    have h27:=dF h27b;refine g_f rfl h27b<|g_f rfl h27b<|g_f rfl h27b<|g_f rfl h27b<|g_f rfl h27b<|g_f rfl h27b<|g_f rfl h27b<|g_f rfl h27b<|Be rfl h27b rfl<|Ab rfl<|Ae<|Ad rfl rfl<|?_
    exact ⟨(M.weaken (cN (sR _))),false,rfl,(by have q0:=@Dl x.as.length x.kids.length (by omega) (by omega);clear M;unfold B2;grind)⟩
   have h28:=dF h28b;refine g_f rfl h28b<|g_f rfl h28b<|g_f rfl h28b<|Be rfl h28b rfl<|Aa rfl<|g_f rfl rfl<|g_f rfl rfl<|g_f rfl rfl<|g_f rfl rfl<|g_f rfl rfl<|g_f rfl rfl<|g_f rfl rfl<|g_f rfl rfl<|Be rfl rfl rfl<|Ab rfl<|Ae<|Ad rfl rfl<|?_
   exact ⟨(M.weaken (cN (sR _))),false,rfl,(by have q0:=@Dl x.as.length x.kids.length (by omega) (by omega);clear M;unfold B2;grind)⟩
  have h29:(b23)=false:=h29b;refine g_f rfl h29b<|g_f rfl h29b<|g_f rfl h29b<|Be rfl h29b rfl<|Aa rfl<|g_f rfl rfl<|g_f rfl rfl<|g_f rfl rfl<|Be rfl rfl rfl<|Aa rfl<|g_f rfl rfl<|g_f rfl rfl<|g_f rfl rfl<|g_f rfl rfl<|g_f rfl rfl<|g_f rfl rfl<|g_f rfl rfl<|g_f rfl rfl<|Be rfl rfl rfl<|Ab rfl<|Ae<|Fy<|?_
  refine Ad rfl rfl<|?_
  exact ⟨(M.weaken (cN (sR _))),false,rfl,(by have q0:=@Dl x.as.length x.kids.length (by omega) (by omega);clear M;unfold B2;grind)⟩
 intro h30b;have h30:=dF h30b;refine Ag<|Ac<|C3 rfl rfl<|Ab rfl<|Ap rfl ?_ ?_
 ·intro h31b;have h31:=dT h31b;refine Aq<|Bl rfl h31b<|Ac<|A0 Bn.k rfl rfl<|Bg Bq M 0 rfl rfl rfl rfl<|E3 rfl rfl<|Aa rfl<|?_
  rcases bE (decide (x.text=([]:List UInt8))) with h32b | h37b
  ·skip
   have h32:=dT h32b;refine g_t rfl h32b<|A0 Bn.k rfl rfl<|g_t rfl h32b<|Bg Bq M 0 rfl rfl rfl rfl<|g_t rfl h32b<|E3 rfl rfl<|Bh rfl h32b rfl<|Aa rfl<|?_
   rcases bE (decide (x.tag=([]:List UInt8))) with h33b | h36b
   ·skip
    have h33:=dT h33b;refine g_t rfl h33b<|A0 Bn.k rfl rfl<|g_t rfl h33b<|Bg Bq M 0 rfl rfl rfl rfl<|g_t rfl h33b<|E3 rfl rfl<|Bh rfl h33b rfl<|Aa rfl<|?_
    rcases bE (decide (x.key=([]:List UInt8))) with h34b | h35b
    ·skip
     have h34:=dT h34b;refine g_t rfl h34b<|A0 Bn.k rfl rfl<|g_t rfl h34b<|Bg Du M 0 rfl rfl rfl rfl<|g_t rfl h34b<|B8 Du.k rfl<|g_t rfl h34b<|A0 Bn.k rfl rfl<|g_t rfl h34b<|Bg C7 M 0 rfl rfl rfl rfl<|g_t rfl h34b<|B8 C7.k rfl<|g_t rfl h34b<|Ar (fun a F=>R0 (F.ev rfl) (F.ev rfl)) rfl<|g_t rfl h34b<|C3 rfl rfl<|Bh rfl h34b rfl<|Ab rfl<|Ae<|Ad rfl rfl<|?_
     exact ⟨(M.weaken (cN (sR _))),(decide (IntKind.i64.wrap (((x.as.length:Nat):Int)+((x.kids.length:Nat):Int))=0)),rfl,(by have q0:=@Dl x.as.length x.kids.length (by omega) (by omega);clear M;unfold B2;grind)⟩
    have h35:=dF h35b;refine g_f rfl h35b<|g_f rfl h35b<|g_f rfl h35b<|g_f rfl h35b<|g_f rfl h35b<|g_f rfl h35b<|g_f rfl h35b<|g_f rfl h35b<|Be rfl h35b rfl<|Ab rfl<|Ae<|Ad rfl rfl<|?_
    exact ⟨(M.weaken (cN (sR _))),false,rfl,(by have q0:=@Dl x.as.length x.kids.length (by omega) (by omega);clear M;unfold B2;grind)⟩
   have h36:=dF h36b;refine g_f rfl h36b<|g_f rfl h36b<|g_f rfl h36b<|Be rfl h36b rfl<|Aa rfl<|g_f rfl rfl<|g_f rfl rfl<|g_f rfl rfl<|g_f rfl rfl<|g_f rfl rfl<|g_f rfl rfl<|g_f rfl rfl<|g_f rfl rfl<|Be rfl rfl rfl<|Ab rfl<|Ae<|Ad rfl rfl<|?_
   exact ⟨(M.weaken (cN (sR _))),false,rfl,(by have q0:=@Dl x.as.length x.kids.length (by omega) (by omega);clear M;unfold B2;grind)⟩
  have h37:=dF h37b;refine g_f rfl h37b<|g_f rfl h37b<|g_f rfl h37b<|Be rfl h37b rfl<|Aa rfl<|g_f rfl rfl<|g_f rfl rfl<|g_f rfl rfl<|Be rfl rfl rfl<|Aa rfl<|g_f rfl rfl<|g_f rfl rfl<|g_f rfl rfl<|g_f rfl rfl<|g_f rfl rfl<|g_f rfl rfl<|g_f rfl rfl<|g_f rfl rfl<|Be rfl rfl rfl<|Ab rfl<|Ae<|Fy<|?_
  refine Ad rfl rfl<|?_
  exact ⟨(M.weaken (cN (sR _))),false,rfl,(by have q0:=@Dl x.as.length x.kids.length (by omega) (by omega);clear M;unfold B2;grind)⟩
 intro h38b;have h38:=dF h38b;refine Az<|C3 rfl rfl<|Ab rfl<|Ap rfl ?_ ?_
 ·intro h39b;have h39:=dT h39b;refine Ac<|A0 Bn.k rfl rfl<|Bg Bq M 0 rfl rfl rfl rfl<|E3 rfl rfl<|Aa rfl<|?_
  rcases bE (decide (x.text=([]:List UInt8))) with h40b | h45b
  ·skip
   have h40:=dT h40b;refine g_t rfl h40b<|A0 Bn.k rfl rfl<|g_t rfl h40b<|Bg Bq M 0 rfl rfl rfl rfl<|g_t rfl h40b<|E3 rfl rfl<|Bh rfl h40b rfl<|Aa rfl<|?_
   rcases bE (decide (x.tag=([]:List UInt8))) with h41b | h44b
   ·skip
    have h41:=dT h41b;refine g_t rfl h41b<|A0 Bn.k rfl rfl<|g_t rfl h41b<|Bg Bq M 0 rfl rfl rfl rfl<|g_t rfl h41b<|E3 rfl rfl<|Bh rfl h41b rfl<|Aa rfl<|?_
    rcases bE (decide (x.key=([]:List UInt8))) with h42b | h43b
    ·skip
     have h42:=dT h42b;refine g_t rfl h42b<|A0 Bn.k rfl rfl<|g_t rfl h42b<|Bg Du M 0 rfl rfl rfl rfl<|g_t rfl h42b<|B8 Du.k rfl<|g_t rfl h42b<|A0 Bn.k rfl rfl<|g_t rfl h42b<|Bg C7 M 0 rfl rfl rfl rfl<|g_t rfl h42b<|B8 C7.k rfl<|g_t rfl h42b<|Ar (fun a F=>R0 (F.ev rfl) (F.ev rfl)) rfl<|g_t rfl h42b<|C3 rfl rfl<|Bh rfl h42b rfl<|Ab rfl<|Ae<|Ad rfl rfl<|?_
     exact ⟨(M.weaken (cN (sR _))),(decide (IntKind.i64.wrap (((x.as.length:Nat):Int)+((x.kids.length:Nat):Int))=0)),rfl,(by have q0:=@Dl x.as.length x.kids.length (by omega) (by omega);clear M;unfold B2;grind)⟩
    have h43:=dF h43b;refine g_f rfl h43b<|g_f rfl h43b<|g_f rfl h43b<|g_f rfl h43b<|g_f rfl h43b<|g_f rfl h43b<|g_f rfl h43b<|g_f rfl h43b<|Be rfl h43b rfl<|Ab rfl<|Ae<|Ad rfl rfl<|?_
    exact ⟨(M.weaken (cN (sR _))),false,rfl,(by have q0:=@Dl x.as.length x.kids.length (by omega) (by omega);clear M;unfold B2;grind)⟩
   have h44:=dF h44b;refine g_f rfl h44b<|g_f rfl h44b<|g_f rfl h44b<|Be rfl h44b rfl<|Aa rfl<|g_f rfl rfl<|g_f rfl rfl<|g_f rfl rfl<|g_f rfl rfl<|g_f rfl rfl<|g_f rfl rfl<|g_f rfl rfl<|g_f rfl rfl<|Be rfl rfl rfl<|Ab rfl<|Ae<|Ad rfl rfl<|?_
   exact ⟨(M.weaken (cN (sR _))),false,rfl,(by have q0:=@Dl x.as.length x.kids.length (by omega) (by omega);clear M;unfold B2;grind)⟩
  have h45:=dF h45b;refine g_f rfl h45b<|g_f rfl h45b<|g_f rfl h45b<|Be rfl h45b rfl<|Aa rfl<|g_f rfl rfl<|g_f rfl rfl<|g_f rfl rfl<|Be rfl rfl rfl<|Aa rfl<|g_f rfl rfl<|g_f rfl rfl<|g_f rfl rfl<|g_f rfl rfl<|g_f rfl rfl<|g_f rfl rfl<|g_f rfl rfl<|g_f rfl rfl<|Be rfl rfl rfl<|Ab rfl<|Ae<|Fy<|?_
  refine Ad rfl rfl<|?_
  exact ⟨(M.weaken (cN (sR _))),false,rfl,(by have q0:=@Dl x.as.length x.kids.length (by omega) (by omega);clear M;unfold B2;grind)⟩
 intro h46b;have h46:=dF h46b;refine Ac<|C3 rfl rfl<|Ab rfl<|Ap rfl ?_ ?_
 ·intro h47b;have h47:=dT h47b;refine Ac<|A0 Bn.k rfl rfl<|Bg Bq M 0 rfl rfl rfl rfl<|Bs Mu rfl rfl (Fb (s:=x.tag) M (by omega))<|?_;clear M;rintro _ w M ⟨b48,rfl,hb48⟩
  refine Aa rfl<|?_
  rcases bE (b48) with h49b | h57b
  ·skip
   have h49:(b48)=true:=h49b;refine g_t rfl h49b<|A0 Bn.k rfl rfl<|g_t rfl h49b<|Bg Du M 0 rfl rfl rfl rfl<|g_t rfl h49b<|Bs Aeb rfl rfl (Mj (xs:=x.as) M SA (by have:=SA.bound;omega))<|?_;clear M;rintro _ w M ⟨b50,rfl,hb50⟩
   refine Bh rfl h49b rfl<|Aa rfl<|?_
   rcases bE (b50) with h51b | h56b
   ·skip
    have h51:(b50)=true:=h51b;refine g_t rfl h51b<|A0 Bn.k rfl rfl<|g_t rfl h51b<|Bg Bq M 0 rfl rfl rfl rfl<|g_t rfl h51b<|E3 rfl rfl<|Bh rfl h51b rfl<|Aa rfl<|?_
    rcases bE (decide (x.key=([]:List UInt8))) with h52b | h55b
    ·skip
     have h52:=dT h52b;refine g_t rfl h52b<|A0 Bn.k rfl rfl<|g_t rfl h52b<|Bg Bq M 0 rfl rfl rfl rfl<|g_t rfl h52b<|E3 rfl rfl<|Bh rfl h52b rfl<|Aa rfl<|?_
     rcases bE (decide (x.text=([]:List UInt8))) with h53b | h54b
     ·skip
      have h53:=dT h53b;refine g_t rfl h53b<|A0 Bn.k rfl rfl<|g_t rfl h53b<|Bg C7 M 0 rfl rfl rfl rfl<|g_t rfl h53b<|B8 C7.k rfl<|g_t rfl h53b<|C3 rfl rfl<|Bh rfl h53b rfl<|Ab rfl<|Ae<|Ad rfl rfl<|?_
      exact ⟨(M.weaken (cN (sR _))),(decide (((x.kids.length:Nat):Int)=0)),rfl,(by have q0:=@Dl x.as.length x.kids.length (by omega) (by omega);clear M;unfold B2;grind)⟩
     have h54:=dF h54b;refine g_f rfl h54b<|g_f rfl h54b<|g_f rfl h54b<|g_f rfl h54b<|Be rfl h54b rfl<|Ab rfl<|Ae<|Ad rfl rfl<|?_
     exact ⟨(M.weaken (cN (sR _))),false,rfl,(by have q0:=@Dl x.as.length x.kids.length (by omega) (by omega);clear M;unfold B2;grind)⟩
    have h55:=dF h55b;refine g_f rfl h55b<|g_f rfl h55b<|g_f rfl h55b<|Be rfl h55b rfl<|Aa rfl<|g_f rfl rfl<|g_f rfl rfl<|g_f rfl rfl<|g_f rfl rfl<|Be rfl rfl rfl<|Ab rfl<|Ae<|Ad rfl rfl<|?_
    exact ⟨(M.weaken (cN (sR _))),false,rfl,(by have q0:=@Dl x.as.length x.kids.length (by omega) (by omega);clear M;unfold B2;grind)⟩
   have h56:(b50)=false:=h56b;refine g_f rfl h56b<|g_f rfl h56b<|g_f rfl h56b<|Be rfl h56b rfl<|Aa rfl<|g_f rfl rfl<|g_f rfl rfl<|g_f rfl rfl<|Be rfl rfl rfl<|Aa rfl<|g_f rfl rfl<|g_f rfl rfl<|g_f rfl rfl<|g_f rfl rfl<|Be rfl rfl rfl<|Ab rfl<|Ae<|Ad rfl rfl<|?_
   exact ⟨(M.weaken (cN (sR _))),false,rfl,(by have q0:=@Dl x.as.length x.kids.length (by omega) (by omega);clear M;unfold B2;grind)⟩
  have h57:(b48)=false:=h57b;refine g_f rfl h57b<|g_f rfl h57b<|g_f rfl h57b<|Be rfl h57b rfl<|Aa rfl<|g_f rfl rfl<|g_f rfl rfl<|g_f rfl rfl<|Be rfl rfl rfl<|Aa rfl<|g_f rfl rfl<|g_f rfl rfl<|g_f rfl rfl<|Be rfl rfl rfl<|Aa rfl<|g_f rfl rfl<|g_f rfl rfl<|g_f rfl rfl<|g_f rfl rfl<|Be rfl rfl rfl<|Ab rfl<|Ae<|?_
  refine Ad rfl rfl<|?_
  exact ⟨(M.weaken (cN (sR _))),false,rfl,(by have q0:=@Dl x.as.length x.kids.length (by omega) (by omega);clear M;unfold B2;grind)⟩
 intro h58b;have h58:=dF h58b;refine Aq<|Ac<|Ab rfl<|Ae<|Ad rfl rfl<|?_
 exact ⟨(M.weaken (cN (sR _))),false,rfl,(by have q0:=@Dl x.as.length x.kids.length (by omega) (by omega);clear M;unfold B2;grind)⟩
end Go.Proofs.YtmmhmcplegpenaaGreatDoor.T
