/- Notices: what a text stands for. · More layings of library functions (strconv.Atoi): began as written by lay-shelf.mjs. · The walks, part LU. · The walks, part LV. · The walks, part LW. -/
import Derived.Test.YtmmhmcplegpenaaGreatDoorJ11
import Derived.Lib.AtoiAll
import Derived.Shelf.Strconv.AtoiAll
import Derived.Test.YtmmhmcplegpenaaGreatDoorJ1
namespace Go.Proofs.YtmmhmcplegpenaaGreatDoor
open Go Go.Y Go.RowKit
set_option linter.unusedSimpArgs false
set_option linter.unusedVariables false
section
variable {P:Program} {w:World} {ρ:Operand→Value} {dd:Option Tmp} {g:Option (Nat × Bool)} {t:TypeId} {p:String} {af:Array Edge}
theorem Tc {ta et:TypeId} {i:TI} {x:Operand} {n b:Nat} (ha:tk P ta=.array n et) (ht:TOK P et i) (hx:ρ x=.pointer (some ⟨b,0,none⟩)) :
  (execOp ρ ⟨dd,.slice ta x none none none,t,p,af,g⟩).run P w=.ok (.value (.slice (some ⟨b,0,none⟩) n n)) w:=by
 simp [execOp,Instr.sliceAt,Cf (Fl ha),hx,Instr.sureAddr,Instr.sliceBounds,Instr.sliceBound,ht.sizeOf,E4]
theorem Xp {ta et:TypeId} {i:TI} {x y:Operand} {m b o:Nat} {k:IntKind} {z:Int} {j:Nat} (ha:tk P ta=.array m et) (ht:TOK P et i) (hx:ρ x=.pointer (some ⟨b,o,none⟩)) (hy:ρ y=.int k z) (hz:z=(j:Int)) (hj:j < m) :
  (execOp ρ ⟨dd,.indexAddr ta x y,t,p,af,g⟩).run P w=.ok (.value (.pointer (some ⟨b,o+j * i.size,none⟩))) w:=by
 subst hz
 have c1:(0:Int)≤(j:Int):=by omega
 have c2:(j:Int) < (m:Int):=by omega
 simp [execOp,Instr.indexAt,hx,hy,asIntOf,Cf (Fl ha),hj,ht.sizeOf,E4,Instr.sureAddr]
end
def kfn (k:Nat):Value:=if k=0 then .nilFunc else .func (.func (Dt k)) #[] #[]
theorem R5 {k:Nat} (h:k < 6):(Hv.drop (0+k * 6)).take 6=[.string (str (B1 k)),.bool (decide (uAt k)),.bool (decide (uCo k)),.bool (decide (uTo k)),.bool (decide (uIt k)),kfn k]:=by
 rcases (show k=0∨k=1∨k=2∨k=3∨k=4∨k=5 by omega) with rfl | rfl | rfl | rfl | rfl | rfl <;> rfl
/-! ### Splitting at spaces -/
def Bt (s:List UInt8):List (List UInt8):=Lib.split s [32]
def Hh (r:List (List UInt8)):List UInt8:=r.flatMap fun s=>32::s
theorem Pq:∀ (k:Nat) (s:List UInt8) (p:List UInt8),p∈Lib.splitK [32] 0 k s→p.length≤s.length
 | 0,s,p,h=>by simp only [Lib.splitK,List.mem_singleton] at h;subst h;exact Nat.le_refl _
 | k+1,s,p,h=>by
  unfold Lib.splitK at h
  split at h
  ·simp only [List.mem_singleton] at h;subst h;exact Nat.le_refl _
  ·rcases List.mem_cons.1 h with rfl | h
   ·simp only [List.length_take];omega
   ·have:=Pq k _ p h;simp only [List.length_drop] at this;omega
theorem Qv {s p:List UInt8} (h:p∈Bt s):p.length≤s.length:=Pq _ _ _ h
theorem Xe {d r:List UInt8} (k:Nat) (h:(32:UInt8) ∉ d):Lib.splitK [32] 0 (k+1) (d++32::r)=d::Lib.splitK [32] 0 k r:=by
 have h1:Lib.index (d++32::r) [32]=((d.length:Nat):Int):=by rw [J6,Wf h,if_pos (by simp)]
 rw [Lib.splitK,h1,if_neg (by rw [beq_iff_eq];omega)]
 congr 1
 ·simp
 ·congr 1;simp
theorem Kz {s:List UInt8} {r:List (List UInt8)}:Hh (s::r)=32::(s++Hh r):=by simp [Hh]
theorem Mf:∀ (d:List UInt8) (r:List (List UInt8)),(∀ s∈d::r,(32:UInt8) ∉ s)→Lib.splitK [32] 0 r.length (d++Hh r)=d::r
 | d,[],_=>by simp [Hh,Lib.splitK]
 | d,y::r,h=>by
  rw [Kz,List.length_cons,Xe _ (h d (by simp)),Mf y r (fun s hs=>h s (by simp [hs]))]
theorem Qb:∀ (d:List UInt8) (r:List (List UInt8)),(∀ s∈d::r,(32:UInt8) ∉ s)→(d++Hh r).count 32=r.length
 | d,[],h=>by simpa [Hh] using List.count_eq_zero.2 (h d (by simp))
 | d,y::r,h=>by
  rw [Kz,List.count_append,List.count_cons_self,Qb y r (fun s hs=>h s (by simp [hs])),List.count_eq_zero.2 (h d (by simp)),List.length_cons]
  omega
theorem Vo {d:List UInt8} {r:List (List UInt8)} (h:∀ s∈d::r,(32:UInt8) ∉ s):Bt (d++Hh r)=d::r:=by
 unfold Bt Lib.split
 rw [Lib.count_one,Qb d r h,Mf d r h]
theorem Nm:∀ (k:Nat) (s:List UInt8),∃ d r,Lib.splitK [32] 0 k s=d::r∧s=d++Hh r
 | 0,s=>⟨s,[],rfl,by simp [Hh]⟩
 | k+1,s=>by
  unfold Lib.splitK
  by_cases hi:ix 32 s < s.length
  ·have h1:Lib.index s [32]=((ix 32 s:Nat):Int):=by rw [J6,if_pos hi]
   rw [h1,if_neg (by rw [beq_iff_eq];omega)]
   obtain ⟨d,r,e1,e2⟩:=Nm k (s.drop (((ix 32 s:Nat):Int).toNat+([32]:List UInt8).length))
   refine ⟨_,_,rfl,?_⟩
   rw [e1,Kz,← e2]
   have h2:=Air 32 s hi
   have h3:s.drop (ix 32 s)=32::s.drop (ix 32 s+1):=by
    rw [List.drop_eq_getElem_cons hi]
    congr 1
    rw [List.getElem?_eq_getElem hi] at h2
    exact Option.some.inj h2
   have h4:s=s.take (ix 32 s)++32::s.drop (ix 32 s+1):=by rw [← h3,List.take_append_drop]
   simpa using h4
  ·have h1:Lib.index s [32] = -1:=by rw [J6,if_neg hi]
   rw [h1]
   exact ⟨s,[],by simp,by simp [Hh]⟩
theorem Po (s:List UInt8):∃ d r,Bt s=d::r∧s=d++Hh r:=Nm _ s
theorem Wy (zs:List Int):Bz zs=Hh (zs.map Lib.itoa):=by unfold Bz Hh;rw [List.flatMap_map]
theorem Yq {c:UInt8} {z:Int} (h:¬ P4 c) (h2:c≠45):c ∉ Lib.itoa z:=by
 unfold Lib.itoa
 split
 ·intro h3
  rcases List.mem_cons.1 h3 with h3 | h3
  ·exact h2 h3
  ·exact L7 h h3
 ·exact L7 h
theorem Uj {k:Nat} {c:UInt8} (h:c=10∨c=32):c ∉ B1 k:=by
 unfold B1
 split <;> rcases h with rfl | rfl <;> decide
theorem Wx {zs:List Int}:(10:UInt8) ∉ Bz zs:=by
 unfold Bz
 simp only [List.mem_flatMap,not_exists,not_and,List.mem_cons,not_or]
 exact fun z _=>⟨by decide,Yq (by decide) (by decide)⟩
theorem Si {x:NotD} {sz:Int} {r:List UInt8}:Lib.cut (D7 x sz++r) [10]=(B1 x.kind++Bz (fm (nuK x sz)),r,true):=by
 have:D7 x sz++r=(B1 x.kind++Bz (fm (nuK x sz)))++10::r:=by unfold D7;simp
 rw [this,Kp]
 intro h
 rcases List.mem_append.1 h with h | h
 ·exact Uj (Or.inl rfl) h
 ·exact Wx h
theorem M8 {k:Nat} {zs:List Int}:Bt (B1 k++Bz zs)=B1 k::zs.map Lib.itoa:=by
 rw [Wy,Vo]
 intro s hs
 rcases List.mem_cons.1 hs with rfl | hs
 ·exact Uj (Or.inr rfl)
 ·obtain ⟨z,_,rfl⟩:=List.mem_map.1 hs
  exact Yq (by decide) (by decide)
theorem Oy {j k:Nat} (hj:1≤j∧j≤5) (hk:1≤k∧k≤5) (h:B1 j=B1 k):j=k:=by
 rcases (show j=1∨j=2∨j=3∨j=4∨j=5 by omega) with rfl | rfl | rfl | rfl | rfl <;>
 rcases (show k=1∨k=2∨k=3∨k=4∨k=5 by omega) with rfl | rfl | rfl | rfl | rfl <;> first | rfl | (exact absurd h (by decide))
theorem X1:∀ (l:List UInt8) (acc:Nat),(∀ c∈l,P4 c)→Og l acc≤18446744073709551615→Lib.parseUint10 acc l=.ok (Og l acc)
 | [],acc,_,_=>rfl
 | c::r,acc,hd,hv=>by
  have hc:48≤c.toNat∧c.toNat≤57:=hd c (by simp)
  simp only [Og] at hv ⊢
  have:=Vg r (10 * acc+(c.toNat - 48))
  unfold Lib.parseUint10
  rw [if_pos hc,if_neg (by omega),if_neg (by omega),Nat.mul_comm acc 10]
  exact X1 r _ (fun x hx=>hd x (by simp [hx])) hv
theorem Ach {u:Nat} (h:u≤18446744073709551615):Lib.parseMag (Lib.decDigits u)=.ok u:=by
 unfold Lib.parseMag
 rw [if_neg (Abj u),X1 _ 0 (Qp u) (by rw [Je];exact h),Je]
theorem O5 {z:Int} (h:Aw .i64 z):Lib.atoiAll (Lib.itoa z)=.ok z:=by
 obtain ⟨h1,h2⟩:=h
 have h1:-9223372036854775808≤z:=h1
 have h2:z≤9223372036854775807:=h2
 rcases Int.lt_or_le z 0 with h0 | h0
 ·obtain ⟨u,hu⟩:=Int.eq_ofNat_of_zero_le (show 0≤-z by omega)
  have hz:z = -(u:Int):=by omega
  subst hz
  rw [Lib.itoa_neg u (by omega)]
  unfold Lib.atoiAll
  simp only [show (45:UInt8).toNat=45 from rfl,or_true,if_true,Ach (show u≤18446744073709551615 by omega),not_true_eq_false,false_and,if_false,true_and]
  rw [if_neg (by omega)]
 ·obtain ⟨u,rfl⟩:=Int.eq_ofNat_of_zero_le h0
  rw [Lib.itoa_nonneg]
  cases hd:Lib.decDigits u with
  | nil=>exact absurd hd (Abj u)
  | cons c r =>
   have hc:=Qp u c (by rw [hd];simp)
   have hc':48≤c.toNat∧c.toNat≤57:=hc
   unfold Lib.atoiAll
   simp only [show ¬ (c.toNat=43∨c.toNat=45) by omega,if_false,← hd]
   rw [Ach (show u≤18446744073709551615 by omega)]
   simp only [show ¬ c.toNat=45 by omega,not_false_eq_true,true_and,false_and,if_false]
   rw [if_neg (by omega)]
theorem Ais {z y:Int} (hz:Aw .i64 z) (hy:Aw .i64 y) (h:Lib.itoa z=Lib.itoa y):z=y:=by
 have h1:=O5 hz
 rw [h,O5 hy] at h1
 exact (Lib.NumEnd.ok.inj h1).symm
/-! ### The first line of a notice -/
structure Head (x:NotD) (sz:Int):Prop where
 kd:1≤x.kind∧x.kind≤5
 fa:uAt x.kind∨x.at_=0
 fc:uCo x.kind∨x.count=0
 ft:uTo x.kind∨x.to=0
 fi:uIt x.kind∨sz=0
 it:x.items=[]
 ra:Aw .i64 x.at_
 rc:Aw .i64 x.count
 rt:Aw .i64 x.to
 rs:0≤sz∧sz≤1024
/-- The fields of a notice that is being read. -/
structure FlH (x:NotD) (sz:Int):Prop where
 kd:1≤x.kind∧x.kind≤5
 fa:uAt x.kind∨x.at_=0
 fc:uCo x.kind∨x.count=0
 ft:uTo x.kind∨x.to=0
 fi:uIt x.kind∨sz=0
 it:x.items=[]
 ra:Aw .i64 x.at_
 rc:Aw .i64 x.count
 rt:Aw .i64 x.to
 rz:Aw .i64 sz
theorem Head.fl {x:NotD} {sz:Int} (h:Head x sz):FlH x sz:=⟨h.kd,h.fa,h.fc,h.ft,h.fi,h.it,h.ra,h.rc,h.rt,Cu (by have:=h.rs;omega) (by have:=h.rs;omega)⟩
theorem FlH.head {x:NotD} {sz:Int} (h:FlH x sz) (h2:0≤sz∧sz≤1024):Head x sz:=⟨h.kd,h.fa,h.fc,h.ft,h.fi,h.it,h.ra,h.rc,h.rt,h2⟩
theorem FlH.ink {x:NotD} {sz:Int} (h:FlH x sz):∀ z∈fm (nuK x sz),Aw .i64 z:=Ou h.ra h.rc h.rt h.rz
theorem Head.ink {x:NotD} {sz:Int} (h:Head x sz):∀ z∈fm (nuK x sz),Aw .i64 z:=Ou h.ra h.rc h.rt (Cu (by have:=h.rs;omega) (by have:=h.rs;omega))
def Js (c:List UInt8):Prop:=∃ x sz r,Head x sz∧c=D7 x sz++r
theorem Kf:∀ {a b:List Int},(∀ z∈a,Aw .i64 z)→(∀ z∈b,Aw .i64 z)→a.map Lib.itoa=b.map Lib.itoa→a=b
 | [],[],_,_,_=>rfl
 | [],y::b,_,_,h=>by cases h
 | z::a,[],_,_,h=>by cases h
 | z::a,y::b,h1,h2,h=>by
  simp only [List.map_cons,List.cons.injEq] at h
  rw [Ais (h1 z (by simp)) (h2 y (by simp)) h.1,Kf (fun q hq=>h1 q (by simp [hq])) (fun q hq=>h2 q (by simp [hq])) h.2]
theorem fm_cons {α:Type} {b:Bool} {v:α} {l:List (Bool × α)}:fm ((b,v)::l)=(if b=true then [v] else [])++fm l:=by
 unfold fm;cases b <;> simp
theorem Ahs {x y:NotD} {sz tz:Int} (hk:x.kind=y.kind) (hx:FlH x sz) (hy:FlH y tz) (h:fm (nuK x sz)=fm (nuK y tz)):x=y∧sz=tz:=by
 have key:∀ (b:Bool) (a c:Int) (l r:List Int),l.length=r.length→(if b=true then [a] else [])++l=(if b=true then [c] else [])++r→l=r∧(b=true→a=c):=by
  intro b a c l r hl h
  cases b
  ·exact ⟨by simpa using h,fun h=>by cases h⟩
  ·simp only [if_true,List.cons_append,List.nil_append,List.cons.injEq] at h;exact ⟨h.2,fun _=>h.1⟩
 have lens:∀ (b:Bool) (a c:Int) (l r:List Int),l.length=r.length→((if b=true then [a] else [])++l).length=((if b=true then [c] else [])++r).length:=by
  intro b a c l r hl;cases b <;> simp [hl]
 unfold nuK at h
 rw [hk] at h
 simp only [fm_cons] at h
 have e0:(fm ([]:List (Bool × Int))).length=(fm ([]:List (Bool × Int))).length:=rfl
 have e1:=lens (decide (uIt y.kind)) sz tz _ _ e0
 have e2:=lens (decide (uTo y.kind)) x.to y.to _ _ e1
 have e3:=lens (decide (uCo y.kind)) x.count y.count _ _ e2
 obtain ⟨h1,g1⟩:=key _ _ _ _ _ e3 h
 obtain ⟨h2,g2⟩:=key _ _ _ _ _ e2 h1
 obtain ⟨h3,g3⟩:=key _ _ _ _ _ e1 h2
 obtain ⟨_,g4⟩:=key _ _ _ _ _ e0 h3
 have pick:∀ {u v:Prop} {a c:Int} [Decidable v],(u↔v)→(u∨a=0)→(v∨c=0)→(decide v=true→a=c)→a=c:=by
  intro u v a c _ huv ha hc hg
  by_cases hv:v
  ·exact hg (decide_eq_true hv)
  ·rw [ha.resolve_left (fun h=>hv (huv.1 h)),hc.resolve_left hv]
 have i1:x.at_=y.at_:=pick (by rw [hk]) hx.fa hy.fa g1
 have i2:x.count=y.count:=pick (by rw [hk]) hx.fc hy.fc g2
 have i3:x.to=y.to:=pick (by rw [hk]) hx.ft hy.ft g3
 have i4:sz=tz:=pick (by rw [hk]) hx.fi hy.fi g4
 refine ⟨?_,i4⟩
 have i5:x.items=y.items:=by rw [hx.it,hy.it]
 clear hx hy key lens pick e1 e2 e3 h1 h2 h3 h g1 g2 g3 g4
 cases x;cases y
 simp only [NotD.mk.injEq] at *
 exact ⟨hk,i1,i2,i3,i5⟩
theorem L3 {x y:NotD} {sz tz:Int} {r q:List UInt8} (hx:Head x sz) (hy:Head y tz) (h:D7 x sz++r=D7 y tz++q):x=y∧sz=tz∧r=q:=by
 have h1:Lib.cut (D7 x sz++r) [10]=Lib.cut (D7 y tz++q) [10]:=by rw [h]
 rw [Si,Si] at h1
 simp only [Prod.mk.injEq,and_true] at h1
 have h2:Bt (B1 x.kind++Bz (fm (nuK x sz)))=Bt (B1 y.kind++Bz (fm (nuK y tz))):=by rw [h1.1]
 rw [M8,M8,List.cons.injEq] at h2
 have hk:=Oy hx.kd hy.kd h2.1
 obtain ⟨e1,e2⟩:=Ahs hk hx.fl hy.fl (Kf hx.ink hy.ink h2.2)
 exact ⟨e1,e2,h1.2⟩
/-! ### Lines of items -/
def okI (ys:List ItemD):Prop:=∀ y∈ys,ItemOk 8 y∧y.key < 18446744073709551616∧y.typ < 256
def S7 (c:List UInt8):Prop:=∃ y r,(ItemOk 8 y∧y.key < 18446744073709551616∧y.typ < 256)∧c=Dj y++10::r
theorem Sc {y:ItemD} {r:List UInt8} (h:ItemOk 8 y):Lib.cut (Dj y++10::r) [10]=(Dj y,r,true):=Kp (R4 h)
theorem Tw {a b:List ItemD}:Cx (a++b)=Cx a++Cx b:=by unfold Cx;simp
theorem Adn {y:ItemD}:Cx [y]=Dj y++[10]:=by unfold Cx;simp
theorem M0:∀ {a b:List ItemD} {r q:List UInt8},okI a→okI b→a.length=b.length→Cx a++r=Cx b++q→a=b∧r=q
 | [],[],r,q,_,_,_,h=>⟨rfl,by simpa [Cx] using h⟩
 | [],y::b,_,_,_,_,h,_=>by cases h
 | x::a,[],_,_,_,_,h,_=>by cases h
 | x::a,y::b,r,q,h1,h2,h3,h=>by
  have e1:Cx (x::a)++r=Dj x++10::(Cx a++r):=by unfold Cx;simp
  have e2:Cx (y::b)++q=Dj y++10::(Cx b++q):=by unfold Cx;simp
  rw [e1,e2] at h
  have hx:=h1 x (by simp)
  have hy:=h2 y (by simp)
  have h4:Lib.cut (Dj x++10::(Cx a++r)) [10]=Lib.cut (Dj y++10::(Cx b++q)) [10]:=by rw [h]
  rw [Sc hx.1,Sc hy.1] at h4
  simp only [Prod.mk.injEq,and_true] at h4
  have e:=Us hx.1 hy.1 hx.2.1 hy.2.1 h4.1
  obtain ⟨e3,e4⟩:=M0 (fun z hz=>h1 z (by simp [hz])) (fun z hz=>h2 z (by simp [hz])) (by simpa using h3) h4.2
  exact ⟨by rw [e,e3],e4⟩
/-- Items read from one text: the shorter list is the beginning of the longer one. -/
theorem L0 {a b:List ItemD} {r q:List UInt8} (ha:okI a) (hb:okI b) (hl:a.length < b.length) (h:Cx a++r=Cx b++q):S7 r:=by
 have h1:b=b.take a.length++b.drop a.length:=(List.take_append_drop _ _).symm
 rw [h1,Tw,List.append_assoc] at h
 obtain ⟨_,h2⟩:=M0 ha (fun y hy=>hb y (List.mem_of_mem_take hy)) (by rw [List.length_take];omega) h
 cases hd:b.drop a.length with
 | nil=>have:=congrArg List.length hd;simp only [List.length_drop,List.length_nil] at this;omega
 | cons y t =>
  rw [hd] at h2
  refine ⟨y,Cx t++q,hb y (List.mem_of_mem_drop (by rw [hd];simp)),?_⟩
  rw [h2];unfold Cx;simp
/-! ### Whole texts -/
def nlN (xs:List NotD):Nat:=(xs.map fun x=>1+x.items.length).sum
theorem Yb {xs:List NotD} {x:NotD}:nlN (xs++[x])=nlN xs+(1+x.items.length):=by unfold nlN;simp
inductive PR:List NotD→List UInt8→List NotD × Nat × Int→Prop
 | done {xs}:PR xs [] (xs,0,0)
 | nohead {xs c}:c≠[]→¬ Js c→PR xs c ([],nlN xs+1,5)
 | full {xs c}:Js c→xs.length=32→PR xs c ([],nlN xs+1,3)
 | bad {xs c x sz ys r}:Head x sz→xs.length≠32→c=D7 x sz++(Cx ys++r)→okI ys→((ys.length:Nat):Int) < sz→¬ S7 r→PR xs c ([],nlN xs+1+ys.length+1,5)
 | step {xs c x sz ys r q}:Head x sz→xs.length≠32→c=D7 x sz++(Cx ys++r)→okI ys→((ys.length:Nat):Int)=sz→PR (xs++[{ x with items:=ys }]) r q→PR xs c q
theorem N1 {x:NotD} {sz:Int} {r:List UInt8}:D7 x sz++r≠[]:=by unfold D7;simp
theorem Acp {c:List UInt8} (h:Js c):c≠[]:=by
 obtain ⟨x,sz,r,_,rfl⟩:=h;exact N1
theorem PR.uniq {xs:List NotD} {c:List UInt8} {a b:List NotD × Nat × Int} (h1:PR xs c a):PR xs c b→a=b:=by
 induction h1 with
 | done =>
  intro h2
  cases h2 with
  | done=>rfl
  | nohead h _=>exact absurd rfl h
  | full h _=>exact absurd rfl (Acp h)
  | bad _ _ h=>exact absurd h.symm N1
  | step _ _ h=>exact absurd h.symm N1
 | nohead h hn =>
  intro h2
  cases h2 with
  | done=>exact absurd rfl h
  | nohead=>rfl
  | full h3 _=>exact absurd h3 hn
  | bad h3 _ h4=>exact absurd ⟨_,_,_,h3,h4⟩ hn
  | step h3 _ h4=>exact absurd ⟨_,_,_,h3,h4⟩ hn
 | full h hl =>
  intro h2
  cases h2 with
  | done=>exact absurd rfl (Acp h)
  | nohead _ h3=>exact absurd h h3
  | full=>rfl
  | bad _ h3=>exact absurd hl h3
  | step _ h3=>exact absurd hl h3
 | @bad xs c x sz ys r hh hl hc hok hlt hn =>
  intro h2
  cases h2 with
  | done=>exact absurd hc.symm N1
  | nohead _ h3=>exact absurd ⟨_,_,_,hh,hc⟩ h3
  | full _ h3=>exact absurd h3 hl
  | @bad _ _ y tz zs q hh2 _ hc2 hok2 hlt2 hn2 =>
   rw [hc] at hc2
   obtain ⟨_,rfl,h4⟩:=L3 hh hh2 hc2
   rcases Nat.lt_trichotomy ys.length zs.length with h5 | h5 | h5
   ·exact absurd (L0 hok hok2 h5 h4) hn
   ·rw [h5]
   ·exact absurd (L0 hok2 hok h5 h4.symm) hn2
  | @step _ _ y tz zs q _ hh2 _ hc2 hok2 he2 _ =>
   rw [hc] at hc2
   obtain ⟨_,rfl,h4⟩:=L3 hh hh2 hc2
   exact absurd (L0 hok hok2 (by omega) h4) hn
 | @step xs c x sz ys r q hh hl hc hok he _ ih =>
  intro h2
  cases h2 with
  | done=>exact absurd hc.symm N1
  | nohead _ h3=>exact absurd ⟨_,_,_,hh,hc⟩ h3
  | full _ h3=>exact absurd h3 hl
  | @bad _ _ y tz zs q2 hh2 _ hc2 hok2 hlt2 hn2 =>
   rw [hc] at hc2
   obtain ⟨_,rfl,h4⟩:=L3 hh hh2 hc2
   exact absurd (L0 hok2 hok (by omega) h4.symm) hn2
  | @step _ _ y tz zs q2 _ hh2 _ hc2 hok2 he2 hp =>
   rw [hc] at hc2
   obtain ⟨rfl,rfl,h4⟩:=L3 hh hh2 hc2
   obtain ⟨rfl,rfl⟩:=M0 hok hok2 (by omega) h4
   exact ih hp
/-! ### Reading the first line, word by word -/
theorem Y5 {c:UInt8} {s:List UInt8} (h:(Lib.cut s [c]).2.2=true):s=(Lib.cut s [c]).1++c::(Lib.cut s [c]).2.1:=by
 rw [Nb] at h ⊢
 by_cases hi:ix c s < s.length
 ·simp only [if_pos hi]
  have h2:=Air c s hi
  have h3:s.drop (ix c s)=c::s.drop (ix c s+1):=by
   rw [List.drop_eq_getElem_cons hi]
   congr 1
   rw [List.getElem?_eq_getElem hi] at h2
   exact Option.some.inj h2
  rw [← h3,List.take_append_drop]
 ·rw [if_neg hi] at h;cases h
theorem Zg {s:List UInt8} {z:Int} (h:Lib.atoiAll s=.ok z):Aw .i64 z:=by
 unfold Lib.atoiAll at h
 split at h
 ·cases h
 ·simp only at h
  split at h
  ·cases h
  ·cases h
  ·split at h
   ·cases h
   ·split at h
    ·cases h
    ·rename_i h1 h2
     have h3:=Lib.NumEnd.ok.inj h
     subst h3
     split
     ·rename_i h4;exact Cu (by omega) (by omega)
     ·rename_i h4;exact Cu (by omega) (by omega)
/-- What the first words tell of a text that has a notice at its beginning. -/
theorem Acq {c:List UInt8} {W:List UInt8} {wr:List (List UInt8)} (hw:Bt (Lib.cut c [10]).1=W::wr) (h:Js c) :
  (Lib.cut c [10]).2.2=true∧∃ x sz,Head x sz∧W=B1 x.kind∧wr=(fm (nuK x sz)).map Lib.itoa:=by
 obtain ⟨x,sz,r,hh,rfl⟩:=h
 rw [Si] at hw ⊢
 rw [M8,List.cons.injEq] at hw
 exact ⟨rfl,x,sz,hh,hw.1.symm,hw.2.symm⟩
def Alg (z:Int) (W:List UInt8):Prop:=(z = -1∧∀ j,j < 6→B1 j≠W)∨∃ k:Nat,k < 6∧z=((k:Nat):Int)∧B1 k=W∧∀ j,j < k→B1 j≠W
theorem kind_z {z:Int} {k:Nat} (h:Alg z (B1 k)) (hk:1≤k∧k≤5):z=((k:Nat):Int):=by
 rcases h with ⟨_,h⟩ | ⟨j,h1,h2,h3,h4⟩
 ·exact absurd rfl (h k (by omega))
 ·rcases Nat.eq_zero_or_pos j with h0 | h0
  ·subst h0
   rcases (show k=1∨k=2∨k=3∨k=4∨k=5 by omega) with rfl | rfl | rfl | rfl | rfl <;> exact absurd h3 (by decide)
  ·rw [h2,Oy ⟨h0,by omega⟩ hk h3]
theorem Ry {c W:List UInt8} {wr:List (List UInt8)} {z:Int} (hw:Bt (Lib.cut c [10]).1=W::wr) (hz:Alg z W) (h:(Lib.cut c [10]).2.2=false∨z < 1):¬ Js c:=by
 intro hh
 obtain ⟨h1,x,sz,h2,rfl,_⟩:=Acq hw hh
 have:=kind_z hz h2.kd
 rcases h with h | h
 ·rw [h] at h1;cases h1
 ·have:=h2.kd;omega
theorem Rx {c W:List UInt8} {wr:List (List UInt8)} {k:Nat} (hw:Bt (Lib.cut c [10]).1=W::wr) (hk:1≤k∧k≤5) (hW:B1 k=W) (h:Js c):∃ x sz,Head x sz∧x.kind=k∧wr=(fm (nuK x sz)).map Lib.itoa:=by
 obtain ⟨h1,x,sz,h2,h3,h4⟩:=Acq hw h
 exact ⟨x,sz,h2,Oy h2.kd hk (by rw [hW,h3]),h4⟩
theorem Ya {c W:List UInt8} {wr:List (List UInt8)} {k b b2:Nat} (hw:Bt (Lib.cut c [10]).1=W::wr) (hk:1≤k∧k≤5) (hW:B1 k=W) (hl:¬ wr.length=(fm (Ga k b b2)).length):¬ Js c:=by
 intro h
 obtain ⟨x,sz,h1,rfl,h2⟩:=Rx hw hk hW h
 exact hl (by rw [h2,List.length_map,Qn])
theorem X9 {c W w:List UInt8} {wr:List (List UInt8)} {k i:Nat} {z:Int} {b:Bool} (hw:Bt (Lib.cut c [10]).1=W::wr) (hk:1≤k∧k≤5) (hW:B1 k=W) (hi:wr[i]?=some w)
  (ha:(Lib.atoiAll w=.ok z∧b=true)∨((∀ x,Lib.atoiAll w≠.ok x)∧b=false)) (hb:b=false∨Lib.itoa z≠w):¬ Js c:=by
 intro h
 obtain ⟨x,sz,h1,rfl,h2⟩:=Rx hw hk hW h
 rw [h2,List.getElem?_map] at hi
 cases hy:(fm (nuK x sz))[i]? with
 | none=>rw [hy] at hi;cases hi
 | some y =>
  rw [hy] at hi
  simp only [Option.map_some,Option.some.injEq] at hi
  have h3:=O5 (h1.ink y (List.mem_of_getElem? hy))
  rw [hi] at h3
  rcases ha with ⟨h4,h5⟩ | ⟨h4,h5⟩
  ·rw [h3] at h4
   have h6:=Lib.NumEnd.ok.inj h4
   subst h6
   rcases hb with hb | hb
   ·rw [h5] at hb;cases hb
   ·exact hb hi
  ·exact h4 _ h3
/-- The first i words behind the name are those of the fields. -/
def Wd (wr:List (List UInt8)) (x:NotD) (sz:Int) (i:Nat):Prop:=∀ j z,j < i→(fm (nuK x sz))[j]?=some z→wr[j]?=some (Lib.itoa z)
theorem wd_all {wr:List (List UInt8)} {x:NotD} {sz:Int} {i:Nat} (h:Wd wr x sz i) (hl:wr.length=(fm (nuK x sz)).length) (hi:(fm (nuK x sz)).length≤i):wr=(fm (nuK x sz)).map Lib.itoa:=by
 apply List.ext_getElem?
 intro j
 rw [List.getElem?_map]
 cases hz:(fm (nuK x sz))[j]? with
 | none =>
  rw [List.getElem?_eq_none_iff] at hz
  rw [List.getElem?_eq_none_iff.2 (by omega)];rfl
 | some z=>rw [h j z (by have:=Bl hz;omega) hz];rfl
theorem X8 {c W:List UInt8} {wr:List (List UInt8)} {x:NotD} {sz:Int} (hw:Bt (Lib.cut c [10]).1=W::wr) (hf:FlH x sz) (hW:B1 x.kind=W) (hwr:wr=(fm (nuK x sz)).map Lib.itoa) (hs:sz < 0∨1024 < sz):¬ Js c:=by
 intro h
 obtain ⟨y,tz,h1,h2,h3⟩:=Rx hw hf.kd hW h
 obtain ⟨_,h4⟩:=Ahs h2.symm hf h1.fl (Kf hf.ink h1.ink (by rw [← hwr,h3]))
 have:=h1.rs
 omega
theorem head_of {c W:List UInt8} {wr:List (List UInt8)} {x:NotD} {sz:Int} (hw:Bt (Lib.cut c [10]).1=W::wr) (hW:B1 x.kind=W) (hwr:wr=(fm (nuK x sz)).map Lib.itoa) (hc:(Lib.cut c [10]).2.2=true):c=D7 x sz++(Lib.cut c [10]).2.1:=by
 obtain ⟨d,r,h1,h2⟩:=Po (Lib.cut c [10]).1
 rw [hw] at h1
 simp only [List.cons.injEq] at h1
 obtain ⟨rfl,rfl⟩:=h1
 have h3:=Y5 hc
 rw [h2,← hW,hwr,← Wy] at h3
 conv=>lhs;rw [h3]
 unfold D7;simp
/-- A number is put into the field at an address. -/
def K9 (x:NotD) (sz:Int) (o:Nat) (v:Int):NotD × Int:=match o with
 | 1=>({ x with at_:=v },sz)
 | 2=>({ x with count:=v },sz)
 | 3=>({ x with to:=v },sz)
 | _=>(x,v)
theorem Abz {x:NotD} {b b2 i:Nat} {sz v:Int} {p:Nat × Nat} (h:(fm (Ga x.kind b b2))[i]?=some p) :
  fm (nuK (K9 x sz p.2 v).1 (K9 x sz p.2 v).2)=(fm (nuK x sz)).set i v∧((p=(b,1)∧uAt x.kind)∨(p=(b,2)∧uCo x.kind)∨(p=(b,3)∧uTo x.kind)∨(p=(b2,0)∧uIt x.kind)):=by
 unfold Ga fm at h
 unfold nuK fm
 have q1:=fun h=>(decide_eq_true_iff (p:=uAt x.kind)).1 h
 have q2:=fun h=>(decide_eq_true_iff (p:=uCo x.kind)).1 h
 have q3:=fun h=>(decide_eq_true_iff (p:=uTo x.kind)).1 h
 have q4:=fun h=>(decide_eq_true_iff (p:=uIt x.kind)).1 h
 rcases bE (decide (uAt x.kind)) with h1 | h1 <;> rcases bE (decide (uCo x.kind)) with h2 | h2 <;>
 rcases bE (decide (uTo x.kind)) with h3 | h3 <;> rcases bE (decide (uIt x.kind)) with h4 | h4 <;> rw [h1,h2,h3,h4] at h <;>
 simp only [List.filter_cons,List.filter_nil,if_true,if_false,Bool.false_eq_true,List.map_cons,List.map_nil] at h <;>
 rcases i with _ | _ | _ | _ | i <;> simp only [List.getElem?_cons_zero,List.getElem?_cons_succ,List.getElem?_nil,Option.some.injEq,reduceCtorEq] at h <;>
 first | contradiction | (subst h;simp only [K9,h1,h2,h3,h4,List.filter_cons,List.filter_nil,if_true,if_false,Bool.false_eq_true,List.map_cons,List.map_nil,List.set_cons_zero,List.set_cons_succ,true_and];simp_all)
theorem put_ok {x:NotD} {b b2 i:Nat} {sz v:Int} {p:Nat × Nat} {wr:List (List UInt8)} (h:(fm (Ga x.kind b b2))[i]?=some p) (hf:FlH x sz) (hw:Wd wr x sz i) (hv:Aw .i64 v) (hi:wr[i]?=some (Lib.itoa v)) :
  (K9 x sz p.2 v).1.kind=x.kind∧FlH (K9 x sz p.2 v).1 (K9 x sz p.2 v).2∧Wd wr (K9 x sz p.2 v).1 (K9 x sz p.2 v).2 (i+1):=by
 obtain ⟨h1,h2⟩:=Abz (sz:=sz) (v:=v) h
 have h3:(K9 x sz p.2 v).1.kind=x.kind:=by unfold K9;split <;> rfl
 refine ⟨h3,?_,?_⟩
 ·rcases h2 with ⟨rfl,hu⟩ | ⟨rfl,hu⟩ | ⟨rfl,hu⟩ | ⟨rfl,hu⟩
  ·exact ⟨hf.kd,Or.inl hu,hf.fc,hf.ft,hf.fi,hf.it,hv,hf.rc,hf.rt,hf.rz⟩
  ·exact ⟨hf.kd,hf.fa,Or.inl hu,hf.ft,hf.fi,hf.it,hf.ra,hv,hf.rt,hf.rz⟩
  ·exact ⟨hf.kd,hf.fa,hf.fc,Or.inl hu,hf.fi,hf.it,hf.ra,hf.rc,hv,hf.rz⟩
  ·exact ⟨hf.kd,hf.fa,hf.fc,hf.ft,Or.inl hu,hf.it,hf.ra,hf.rc,hf.rt,hv⟩
 ·intro j z hj hz
  rw [h1] at hz
  rcases Nat.lt_succ_iff_lt_or_eq.1 hj with h4 | h4
  ·rw [List.getElem?_set_ne (by omega)] at hz;exact hw j z h4 hz
  ·subst h4
   have h5:=Bl hz
   rw [List.length_set] at h5
   rw [List.getElem?_set_self h5] at hz
   rw [← Option.some.inj hz];exact hi
/-! ### Reading the lines of items -/
theorem Sb {s:List UInt8} (hs:(10:UInt8) ∉ s):(∃ y,Rd8 s y∧(s.length≤1048575→D8 (s++[10])=([y],0,0)))∨((∀ y,¬ Rd8 s y)∧(D8 (s++[10])).2.2≠0):=by
 have hc:Lib.cut (s++[10]) [10]=(s,[],true):=Kp hs
 have hne:¬ (s++[10])=[]:=by simp
 by_cases hy:∃ y,Rd8 s y
 ·obtain ⟨y,hy⟩:=hy
  refine Or.inl ⟨y,hy,fun hl=>?_⟩
  have hl2:¬ 1048576 < (s++[10]).length:=by simp only [List.length_append,List.length_cons,List.length_nil];omega
  unfold D8
  rw [if_neg hl2]
  have h2:pGo ((s++[10]).length+1) [] (s++[10])=pGo (s++[10]).length ([]++[y]) []:=by
   conv=>lhs;unfold pGo
   rw [if_neg hne,hc]
   simp only [if_true,M6 hy]
   rfl
  have h9:(s++([10]:List UInt8)).length=s.length+1:=by simp
  rw [h2,h9]
  unfold pGo
  rw [if_pos rfl];rfl
 ·refine Or.inr ⟨fun y h=>hy ⟨y,h⟩,?_⟩
  unfold D8
  split
  ·decide
  ·unfold pGo
   rw [if_neg hne,hc]
   simp only [if_true,Uw (fun y h=>hy ⟨y,h⟩)]
   decide
theorem cut_not {c:UInt8} {s:List UInt8}:c ∉ (Lib.cut s [c]).1:=by
 rw [Nb]
 by_cases hi:ix c s < s.length
 ·rw [if_pos hi]
  intro h
  obtain ⟨j,hj⟩:=List.mem_iff_getElem?.1 h
  have h1:=Bl hj
  rw [List.length_take] at h1
  rw [List.getElem?_take,if_pos (by omega)] at hj
  exact Aiq c s j c (by omega) hj rfl
 ·rw [if_neg hi]
  intro h
  obtain ⟨j,hj⟩:=List.mem_iff_getElem?.1 h
  exact Aiq c s j c (by have:=Bl hj;have:=ix_le c s;simp only at *;omega) hj rfl
theorem Wh {c:List UInt8} (hl:c.length≤1048576) (h:(Lib.cut c [10]).2.2=false∨(D8 ((Lib.cut c [10]).1++[10])).2.2≠0∨(D8 ((Lib.cut c [10]).1++[10])).1.length≠1):¬ S7 c:=by
 rintro ⟨y,r,hy,rfl⟩
 rw [Sc hy.1] at h
 simp only at h
 rcases h with h | h
 ·cases h
 ·rcases Sb (R4 hy.1) with ⟨y2,h1,h2⟩ | ⟨h1,_⟩
  ·simp only [List.length_append,List.length_cons] at hl
   rw [h2 (by omega)] at h
   rcases h with h | h <;> exact h rfl
  ·exact h1 y ⟨hy.1,hy.2.1,rfl⟩
theorem rd8_typ {s:List UInt8} {y:ItemD} (h:Rd8 s y):y.typ < 256:=by
 have:=h.1
 unfold ItemOk at this
 omega
theorem Ait {c:List UInt8} (hc:(Lib.cut c [10]).2.2=true) (h:(D8 ((Lib.cut c [10]).1++[10])).2.2=0) (h1:(D8 ((Lib.cut c [10]).1++[10])).1.length=1) (hl:c.length≤1048576) :
  ∃ y,(D8 ((Lib.cut c [10]).1++[10])).1=[y]∧(ItemOk 8 y∧y.key < 18446744073709551616∧y.typ < 256)∧c=Cx [y]++(Lib.cut c [10]).2.1:=by
 have hcc:=Y5 hc
 rcases Sb (cut_not (c:=10) (s:=c)) with ⟨y,h2,h3⟩ | ⟨_,h2⟩
 ·have hlen:=congrArg List.length hcc
  simp only [List.length_append,List.length_cons] at hlen
  refine ⟨y,by rw [h3 (by omega)],⟨h2.1,h2.2.1,rd8_typ h2⟩,?_⟩
  rw [Adn,h2.2.2]
  simpa using hcc
 ·exact absurd h h2
theorem kfn_pos {k:Nat} (h:1≤k):kfn k=.func (.func (Dt k)) #[] #[]:=by unfold kfn;rw [if_neg (by omega)]
theorem fl_zero {k:Nat} (hk:1≤k∧k≤5):FlH ⟨k,0,0,0,[]⟩ 0:=⟨hk,Or.inr rfl,Or.inr rfl,Or.inr rfl,Or.inr rfl,rfl,(Cu (n:=0) (by decide) (by decide)),(Cu (n:=0) (by decide) (by decide)),(Cu (n:=0) (by decide) (by decide)),(Cu (n:=0) (by decide) (by decide))⟩
theorem ok_of {s:List UInt8} {z:Int} {b:Bool} (h:(Lib.atoiAll s=.ok z∧b=true)∨((∀ x,Lib.atoiAll s≠.ok x)∧b=false)) (hb:b=true):Lib.atoiAll s=.ok z:=by
 rcases h with h | ⟨_,h⟩
 ·exact h.1
 ·rw [h] at hb;cases hb
theorem Aff {z:Int} {W:List UInt8} (h:Alg z W) (hz:¬ z < 1):∃ k:Nat,(1≤k∧k≤5)∧z=((k:Nat):Int)∧B1 k=W:=by
 rcases h with ⟨h1,_⟩ | ⟨k,h1,h2,h3,_⟩
 ·omega
 ·exact ⟨k,⟨by omega,by omega⟩,h2,h3⟩
end Go.Proofs.YtmmhmcplegpenaaGreatDoor
namespace Go.Proofs
open Go.Shelf
def Tryz.laysC172_ren:Go.Shelf.Ren:=⟨fun | 172=>136 | 244=>167 | 245=>147 | 247=>195 | 279=>177 | 280=>178 | 281=>179 | 282=>180 | 287=>146 | 316=>206 | 171=>83 | 205=>207 | 321=>175 | 322=>176 | 243=>133 | 246=>166 | 283=>170 | 284=>171 | 285=>172 | 286=>173 | 129=>198 | 317=>197 | 318=>199 | 319=>200 | 320=>201 | 337=>222 | 338=>223 | n=>n,fun | 9=>9 | 3=>3 | 75=>103 | 76=>104 | 4=>4 | 5=>5 | 167=>250 | 37=>32 | 0=>0 | 85=>265 | 2=>2 | 168=>253 | 53=>23 | 175=>178 | 46=>252 | 210=>277 | 127=>174 | 145=>296 | 143=>294 | 21=>21 | 171=>244 | 173=>247 | 212=>269 | 51=>270 | 20=>20 | 213=>271 | 232=>307 | 233=>308 | 80=>107 | n=>n,fun | 15=>2 | 16=>3 | 17=>0 | 18=>4 | 19=>5 | n=>n⟩
theorem Tryz.laysC172:Go.Proofs.LaysC.n172 Tryz.prog Tryz.laysC172_ren:={
 mixed:=by kernel_rfl
 f129:=Tryz.func198.trans (congrArg some (by kernel_rfl))
 f171:=Tryz.func83.trans (congrArg some (by kernel_rfl))
 f172:=Tryz.func136.trans (congrArg some (by kernel_rfl))
 f205:=Tryz.func207.trans (congrArg some (by kernel_rfl))
 f243:=Tryz.func133.trans (congrArg some (by kernel_rfl))
 f244:=Tryz.func167.trans (congrArg some (by kernel_rfl))
 f245:=Tryz.func147.trans (congrArg some (by kernel_rfl))
 f246:=Tryz.func166.trans (congrArg some (by kernel_rfl))
 f247:=Tryz.func195.trans (congrArg some (by kernel_rfl))
 f279:=Tryz.func177.trans (congrArg some (by kernel_rfl))
 f280:=Tryz.func178.trans (congrArg some (by kernel_rfl))
 f281:=Tryz.func179.trans (congrArg some (by kernel_rfl))
 f282:=Tryz.func180.trans (congrArg some (by kernel_rfl))
 f283:=Tryz.func170.trans (congrArg some (by kernel_rfl))
 f284:=Tryz.func171.trans (congrArg some (by kernel_rfl))
 f285:=Tryz.func172.trans (congrArg some (by kernel_rfl))
 f286:=Tryz.func173.trans (congrArg some (by kernel_rfl))
 f287:=Tryz.func146.trans (congrArg some (by kernel_rfl))
 f316:=Tryz.func206.trans (congrArg some (by kernel_rfl))
 f317:=Tryz.func197.trans (congrArg some (by kernel_rfl))
 f318:=Tryz.func199.trans (congrArg some (by kernel_rfl))
 f319:=Tryz.func200.trans (congrArg some (by kernel_rfl))
 f320:=Tryz.func201.trans (congrArg some (by kernel_rfl))
 f321:=Tryz.func175.trans (congrArg some (by kernel_rfl))
 f322:=Tryz.func176.trans (congrArg some (by kernel_rfl))
 f337:=Tryz.func222.trans (congrArg some (by kernel_rfl))
 f338:=Tryz.func223.trans (congrArg some (by kernel_rfl))
 t0:=Tryz.underlying0
 a0:=Tryz.isAgg0
 z0:=Tryz.sizeOf0
 v0:=Tryz.zeroValue0
 t2:=Tryz.underlying2
 a2:=Tryz.isAgg2
 z2:=Tryz.sizeOf2
 v2:=Tryz.zeroValue2
 t3:=Tryz.underlying3
 a3:=Tryz.isAgg3
 z3:=Tryz.sizeOf3
 v3:=Tryz.zeroValue3
 t4:=Tryz.underlying4
 a4:=Tryz.isAgg4
 z4:=Tryz.sizeOf4
 v4:=Tryz.zeroValue4
 t5:=Tryz.underlying5
 a5:=Tryz.isAgg5
 z5:=Tryz.sizeOf5
 v5:=Tryz.zeroValue5
 t9:=Tryz.underlying9
 a9:=Tryz.isAgg9
 z9:=Tryz.sizeOf9
 v9:=Tryz.zeroValue9
 t20:=Tryz.underlying20
 a20:=Tryz.isAgg20
 z20:=Tryz.sizeOf20
 v20:=Tryz.zeroValue20
 t21:=Tryz.underlying21
 a21:=Tryz.isAgg21
 z21:=Tryz.sizeOf21
 v21:=Tryz.zeroValue21
 t37:=Tryz.underlying32
 a37:=Tryz.isAgg32
 z37:=Tryz.sizeOf32
 v37:=Tryz.zeroValue32
 t46:=Tryz.underlying252
 a46:=Tryz.isAgg252
 z46:=Tryz.sizeOf252
 v46:=Tryz.zeroValue252
 t51:=Tryz.underlying270
 a51:=Tryz.isAgg270
 z51:=Tryz.sizeOf270
 v51:=Tryz.zeroValue270
 t53:=Tryz.underlying23
 a53:=Tryz.isAgg23
 z53:=Tryz.sizeOf23
 v53:=Tryz.zeroValue23
 t75:=Tryz.underlying103
 a75:=Tryz.isAgg103
 z75:=Tryz.sizeOf103
 v75:=Tryz.zeroValue103
 t76:=Tryz.underlying104
 a76:=Tryz.isAgg104
 z76:=Tryz.sizeOf104
 v76:=Tryz.zeroValue104
 t85:=Tryz.underlying265
 a85:=Tryz.isAgg265
 z85:=Tryz.sizeOf265
 v85:=Tryz.zeroValue265
 t127:=Tryz.underlying174
 a127:=Tryz.isAgg174
 z127:=Tryz.sizeOf174
 v127:=Tryz.zeroValue174
 t143:=Tryz.underlying294
 a143:=Tryz.isAgg294
 z143:=Tryz.sizeOf294
 v143:=Tryz.zeroValue294
 t145:=Tryz.underlying296
 a145:=Tryz.isAgg296
 z145:=Tryz.sizeOf296
 v145:=Tryz.zeroValue296
 t167:=Tryz.underlying250
 a167:=Tryz.isAgg250
 z167:=Tryz.sizeOf250
 v167:=Tryz.zeroValue250
 t168:=Tryz.underlying253
 a168:=Tryz.isAgg253
 z168:=Tryz.sizeOf253
 v168:=Tryz.zeroValue253
 t171:=Tryz.underlying244
 a171:=Tryz.isAgg244
 z171:=Tryz.sizeOf244
 v171:=Tryz.zeroValue244
 t173:=Tryz.underlying247
 a173:=Tryz.isAgg247
 z173:=Tryz.sizeOf247
 v173:=Tryz.zeroValue247
 t175:=Tryz.underlying178
 a175:=Tryz.isAgg178
 z175:=Tryz.sizeOf178
 v175:=Tryz.zeroValue178
 t210:=Tryz.underlying277
 a210:=Tryz.isAgg277
 z210:=Tryz.sizeOf277
 v210:=Tryz.zeroValue277
 t212:=Tryz.underlying269
 a212:=Tryz.isAgg269
 z212:=Tryz.sizeOf269
 v212:=Tryz.zeroValue269
 t213:=Tryz.underlying271
 a213:=Tryz.isAgg271
 z213:=Tryz.sizeOf271
 t232:=Tryz.underlying307
 a232:=Tryz.isAgg307
 z232:=Tryz.sizeOf307
 v232:=Tryz.zeroValue307
 t233:=Tryz.underlying308
 a233:=Tryz.isAgg308
 z233:=Tryz.sizeOf308
 v233:=Tryz.zeroValue308
 g15:=by kernel_rfl
 g16:=by kernel_rfl
 g17:=by kernel_rfl
 g18:=by kernel_rfl
 g19:=by kernel_rfl
 t80:=Tryz.underlying107
 a80:=Tryz.isAgg107
 z80:=Tryz.sizeOf107
 v80:=Tryz.zeroValue107
 i0:=by kernel_rfl
 i2:=by kernel_rfl
 i3:=by kernel_rfl
 i4:=by kernel_rfl
 i5:=by kernel_rfl
 i9:=by kernel_rfl
 i20:=by kernel_rfl
 i21:=by kernel_rfl
 i37:=by kernel_rfl
 i46:=by kernel_rfl
 i51:=by kernel_rfl
 i53:=by kernel_rfl
 i75:=by kernel_rfl
 i76:=by kernel_rfl
 i80:=by kernel_rfl
 i85:=by kernel_rfl
 i127:=by kernel_rfl
 i143:=by kernel_rfl
 i145:=by kernel_rfl
 i167:=by kernel_rfl
 i168:=by kernel_rfl
 i171:=by kernel_rfl
 i173:=by kernel_rfl
 i175:=by kernel_rfl
 i210:=by kernel_rfl
 i212:=by kernel_rfl
 i232:=by kernel_rfl
 i233:=by kernel_rfl
 m15:=by kernel_rfl
 m16:=by kernel_rfl
 m17:=by kernel_rfl
 m18:=by kernel_rfl
 m19:=by kernel_rfl
 c0:=by kernel_rfl
 c2:=by kernel_rfl
 c3:=by kernel_rfl
 c4:=by kernel_rfl
 c5:=by kernel_rfl
 c9:=by kernel_rfl
 c20:=by kernel_rfl
 c21:=by kernel_rfl
 c37:=by kernel_rfl
 c46:=by kernel_rfl
 c51:=by kernel_rfl
 c53:=by kernel_rfl
 c75:=by kernel_rfl
 c76:=by kernel_rfl
 c80:=by kernel_rfl
 c85:=by kernel_rfl
 c127:=by kernel_rfl
 c143:=by kernel_rfl
 c145:=by kernel_rfl
 c167:=by kernel_rfl
 c168:=by kernel_rfl
 c171:=by kernel_rfl
 c173:=by kernel_rfl
 c175:=by kernel_rfl
 c210:=by kernel_rfl
 c212:=by kernel_rfl
 c213:=by kernel_rfl
 c232:=by kernel_rfl
 c233:=by kernel_rfl }
end Go.Proofs
namespace Go.Proofs.YtmmhmcplegpenaaGreatDoor
open Go Go.Y Go.Proofs
variable {w0 w:World} {G:A4} {L:List Res}
set_option linter.unusedSimpArgs false
set_option linter.unusedVariables false
theorem Uh {w0 w:World} {G:A4} {L:List Res} {b l:Nat} {c:List UInt8} (M:Mem w0 G (.blk b [.string (str c),.int .i64 ((l:Nat):Int)] 155::L) w) (HG:Globs 0 1 2 3 G) (hc:c.length≤1048576) (hl:l≤9000000) :
  Calls Tryz.prog 86 #[.pointer (some ⟨b,0,none⟩)] w (Ci w0 G (.blk b [.string (str ((Lib.cut c [10]).2.1)),.int .i64 ((((l+1):Nat):Int))] 155::L) fun v=>v=.tuple #[.string (str (Lib.cut c [10]).1),.bool (Lib.cut c [10]).2.2]):=by
 refine A0 (vs:=[_]) Tryz.func86 rfl (n:=29) rfl rfl<|Ab<|Ac<|Af rfl<|Af rfl<|Aa<|Ad<|Ab<|Ac<|Ae rfl<|Em rfl<|A2 Jp.k rfl rfl<|Bi B7 M 0 rfl rfl rfl rfl<|B9 rfl rfl<|Em rfl<|A2 Jp.k rfl rfl<|Fp B7 M 0 rfl rfl rfl rfl rfl rfl<|?_;clear M;intro w M
 refine Aa<|Ad<|Ab<|Ac<|Ae rfl<|Em rfl<|A2 Jp.k rfl rfl<|Bi Bq M 0 rfl rfl rfl rfl<|Bw Sr rfl rfl (Lj (s:=c) (sep:=([10]:List UInt8)) M HG (by omega))<|?_;clear M;rintro _ w M rfl
 have hclc1:=Ig 10 c
 refine Ae rfl<|Dg rfl rfl<|Dg rfl rfl<|Dg rfl rfl<|Af rfl<|Af rfl<|Af rfl<|Aa<|Ad<|Ab<|Ac<|Ae rfl<|Ae rfl<|Em rfl<|A2 Jp.k rfl rfl<|Fp Bq M 0 rfl rfl rfl rfl rfl rfl<|?_;clear M;intro w M
 refine Aa<|Ad<|Ab<|Ac<|Ae rfl<|Ae rfl<|Af rfl<|Af rfl<|Aa<|Ad<|Ak<|Gs rfl rfl rfl<|?_
 exact ⟨M,rfl⟩
theorem Agh (M:Mem w0 G L w) (HG:Globs 0 1 2 3 G) {s:List UInt8} (hs:s.length≤281474976710656) :
  Calls Tryz.prog 136 #[.string (str s)] w (Ci w0 G L fun v=>∃ (z:Int) (er:Value),v=.tuple #[.int .i64 z,er]∧(er=.nilIface∨∃ te pe,er=.iface te pe)∧((Lib.atoiAll s=.ok z∧D3 er=true)∨((∀ x,Lib.atoiAll s≠.ok x)∧D3 er=false))):=by
 have hd:(str s).data.toList=s:=E1 s
 cases h:Lib.atoiAll s with
 | ok u =>
  refine (Any.strconv_Atoi_ok Tryz.laysC172 (str s) (by rw [Ck];omega) u (by rw [hd];exact h) w).mono ?_
  rintro e w' ⟨rfl,hw⟩
  refine ⟨?_,u,_,rfl,Or.inl rfl,Or.inl ⟨rfl,rfl⟩⟩
  rcases hw with rfl | ⟨t,rfl⟩
  ·exact M
  ·exact M.bytesWorld _ _
 | range =>
  obtain ⟨ev,h1,h2⟩:=HG.rng
  refine (Any.strconv_Atoi_range Tryz.laysC172 (str s) (by rw [Ck];omega) (by rw [hd];exact h) ev w (M.cell h1) h2).mono ?_
  rintro e w' ⟨N,rfl,_,_,hb⟩
  exact ⟨M.below' hb,_,_,rfl,Or.inr ⟨_,_,rfl⟩,Or.inr ⟨(fun x hx=>by cases hx),rfl⟩⟩
 | _ =>
  obtain ⟨ev,h1,h2⟩:=HG.syn
  refine (Any.strconv_Atoi_syntax Tryz.laysC172 (str s) (by rw [Ck];omega) (by rw [hd];exact h) ev w (M.cell h1) h2).mono ?_
  rintro e w' ⟨N,rfl,_,_,hb⟩
  exact ⟨M.below' hb,_,_,rfl,Or.inr ⟨_,_,rfl⟩,Or.inr ⟨(fun x hx=>by cases hx),rfl⟩⟩
theorem Tz (s:List UInt8):(Lib.splitB (str [32]) 0 (Lib.countB (str s) (str [32])) (str s)).map Value.string=(Bt s).map (fun x=>Value.string (str x)):=by
 have h:=Lib.splitB_data (str [32]) 0 (Lib.countB (str s) (str [32])) (str s)
 rw [E1,E1] at h
 have h2:Lib.countB (str s) (str [32])=Lib.count s [32]:=by
  show Lib.count (str s).data.toList (str [32]).data.toList=_
  rw [E1,E1]
 rw [h2] at h ⊢
 show _=(Lib.splitK [32] 0 (Lib.count s [32]) s).map _
 rw [← h,List.map_map]
 exact List.map_congr_left fun x _=>rfl
theorem Xd (M:Mem w0 G L w) (HG:Globs 0 1 2 3 G) {s:List UInt8} (hs:s.length < 4294967281) :
  Calls Tryz.prog 102 #[.string (str s),.string (str [32])] w (Ret w0 G L fun G' v=>∃ a:Option Addr,v=.slice a (Bt s).length (Bt s).length∧Az D4 1 G' (.slice a (Bt s).length (Bt s).length) (Bt s)):=by
 obtain ⟨m,hm⟩:=HG.max
 refine (Any.strings_Split Tryz.lays146 (by kernel_rfl) (str s) (str [32]) m w (by rw [Ck];exact hs) (M.cell hm) (by rw [Ck];decide)).mono ?_
 rintro e w' ⟨rfl,rfl⟩
 have hl:(Bt s).length=Lib.countB (str s) (str [32])+1:=by
  have h1:=Lib.splitB_all (str [32]) (by rw [Ck];decide) 0 _ (str s) rfl
  rw [← h1,← List.length_map (f:=Value.string),Tz,List.length_map]
 rw [Tz,← hl]
 have hcb:=Lib.countB_le (str [32]) (by rw [Ck];decide) (str s).size (str s) (Nat.le_refl _)
 rw [Ck] at hcb
 have hle:(Bt s).length≤4294967281:=by omega
 have M1:=M.newrow (t:=Tryz.lays146_ren.t 9) (sz:=1) (n:=(Bt s).length) (c:=(Bt s).length) (cs:=(Bt s).map fun x=>Value.string (str x)) (spare:=[])
  (by intro u hu;obtain ⟨x,_,rfl⟩:=List.mem_map.1 hu;rfl) (by simp) (by simp) (Nat.le_refl _) (by unfold maxLen;omega)
 rw [List.append_nil] at M1
 obtain ⟨_,G',a,c,hG,he,S,M2⟩:=M1.freeze_row Br (k:=0) rfl (Li (Bt s) (fun x hx=>by have:=Qv hx;omega)) (by decide)
 exact ⟨G',hG,M2,_,rfl,S⟩
theorem n1_spec {w0 w:World} {G:A4} {L:List Res} {b6:Nat} {nm:List UInt8} {k1 k2 k3 k4:Bool} {fv:Value} (hfv:Value.oneCell' fv=true) {aw:Option Addr} {cw:Nat} {ws:List (List UInt8)} (S:Az D4 1 G (.slice aw ws.length cw) ws) (M:Mem w0 G (.blk b6 [.slice aw ws.length cw] 24::L) w) {W:List UInt8} (hW:ws[0]?=some W) :
  Calls Tryz.prog 135 #[.agg #[.string (str nm),.bool k1,.bool k2,.bool k3,.bool k4,fv],.pointer (some ⟨b6,0,none⟩)] w (Ci w0 G (.blk b6 [.slice aw ws.length cw] 24::L) fun v=>v=.bool (decide (nm=W))):=by
 refine A0 (vs:=[_,_]) Tryz.func135 rfl (n:=10) rfl rfl<|Ab<|Ac<|C1 M rfl rfl rfl<|?_;clear M;intro b1 w M
 refine Af rfl<|Aa<|Ad<|Ab<|fun a F=>F4 [(true,0),(true,1),(true,2),(true,3),(true,4),(true,5),(true,6)] (Keep G [.blk b1 [.string (str nm),.bool k1,.bool k2,.bool k3,.bool k4,fv] 138,.blk b6 [.slice aw ws.length cw] 24]) rfl (by kernel_rfl) (fun c a d v w h=>by cases d <;> exact h) ((M.drew _).keep (Gle.refl _) (by simp)) ?_
 replace M:=M.drew (w.drawn+1)
 revert a
 refine l_r (fun a F w M=>Cm Cb.k rfl F rfl) rfl<|l_r (fun a F w M=>Ap (agf Bq rfl) (F.ev rfl) (M.cellL (k:=0) rfl rfl)) rfl<|l_r (fun a F w M=>Ap (agf Ca rfl) (F.ev rfl) (M.cellL (k:=1) rfl rfl)) rfl<|?_
 obtain ⟨be2,oe2,_,Ie2,_,Ae2,⟨rfl,hsle2⟩⟩:=S.at hW
 refine l_r (fun a F w M=>Ce Ca.k Bq (F.ev rfl) (F.ev rfl) (by omega) Ie2) rfl<|l_r (fun a F w M=>Ap (agf Bq rfl) (F.ev rfl) (M.cellA Ae2 0 (by omega) rfl)) rfl<|l_r (fun a F w M=>J0 (F.ev rfl) (F.ev rfl)) rfl<|l_r (fun a F w M=>Hg F rfl) rfl<|Hl<|?_
 generalize ({ w with drawn:=w.drawn+1 }:World)=w at M ⊢
 refine Ad<|Ak<|Aj rfl rfl<|?_
 exact ⟨M.weaken (.cons _ (.cons_cons _ (sR _))),rfl⟩
open Go Go.Y Go.Proofs
set_option linter.unusedSimpArgs false
set_option linter.unusedVariables false
theorem O7 {w0 w:World} {G:A4} {L:List Res} {b7 b6:Nat} {aw:Option Addr} {cw:Nat} {ws:List (List UInt8)} (S:Az D4 1 G (.slice aw ws.length cw) ws) (M:Mem w0 G (.blk b7 Hv 139::.blk b6 [.slice aw ws.length cw] 24::L) w) {W:List UInt8} (hW:ws[0]?=some W) :
  Calls Tryz.prog 134 #[.slice (some ⟨b7,0,none⟩) 6 6,.func (.func 135) #[] #[.pointer (some ⟨b6,0,none⟩)]] w (Ci w0 G (.blk b7 Hv 139::.blk b6 [.slice aw ws.length cw] 24::L) fun v=>∃ z:Int,v=.int .i64 z∧((z = -1∧∀ j,j < 6→B1 j≠W)∨∃ k:Nat,k < 6∧z=((k:Nat):Int)∧B1 k=W∧∀ j,j < k→B1 j≠W)):=by
 refine A0 (vs:=[_,_]) Tryz.func134 rfl (n:=19) rfl rfl<|Ab<|Ac<|Af rfl<|Aa<|Ad<|Ab<|Ab<|Ac<|Ae rfl<|B8 Agr.k rfl<|Ae rfl<|Aa<|Ad<|A1<|fun a F=>B2 (fun m a' w'=>∃ (i:Nat),m=6 - i∧Fits 19 a' [(0,.slice (some ⟨b7,0,none⟩) 6 6),(1,.func (.func 135) #[] #[.pointer (some ⟨b6,0,none⟩)]),(6,.slice (some ⟨b7,0,none⟩) 6 6),(7,.int .i64 ((6:Nat):Int)),(8,.int .i64 ((i:Nat):Int))]∧Mem w0 G (.blk b7 Hv 139::.blk b6 [.slice aw ws.length cw] 24::L) w'∧(i≤6)∧(∀ j,j < i→B1 j≠W)) _ ⟨0,rfl,F.to ⟨rfl,rfl,rfl,rfl,rfl,trivial⟩,M,by omega,fun j h=>by omega⟩ ?_
 clear F M
 rintro m a w ⟨i,rfl,F,M,hi,hA⟩
 revert a
 refine Ab<|Ac<|C9 rfl rfl<|Aa<|Ad<|Ab<|Ax rfl ?_ ?_
 ·intro h1b
  have h1:=dT h1b
  refine Aq<|Ad<|Ab<|A1<|Ab<|Ac<|Ae rfl<|Af rfl<|Aa<|Ad<|Ab<|Ac<|Ae rfl<|Ae rfl<|Ae rfl<|Ar (fun a F=>Ce (b:=b7) (o:=0+i * 6) Agr.k Cb (F.ev rfl) (F.ev rfl) (by omega) ⟨0,rfl,rfl,by omega⟩) rfl<|Ar (fun a F=>Ao Cb rfl (F.ev rfl) (cs:=[.string (str (B1 i)),.bool (decide (uAt i)),.bool (decide (uCo i)),.bool (decide (uTo i)),.bool (decide (uIt i)),kfn i]) rfl (M.cellsL (k:=0) rfl (R5 (k:=i) (by omega)))) rfl<|?_
  replace M:=M.perm (Am _ 1 _ rfl)
  change Mem w0 G (_::_::L) _ at M
  refine Z6 ent135 (caps:=[.pointer (some ⟨b6,0,none⟩)]) rfl rfl rfl (n1_spec (nm:=B1 i) (by unfold kfn;split <;> rfl) S M hW)<|?_;clear M;rintro _ w M rfl
  refine Aa<|Ad<|Ax rfl ?_ ?_
  ·intro h2b
   have h2:=dT h2b
   refine Ab<|Ac<|Ae rfl<|Af rfl<|Aa<|Ad<|Ak<|Bk<|Au<|Au<|Bk<|Au<|Aj rfl rfl<|?_
   replace M:=M.perm (Am _ 1 _ rfl)
   change Mem w0 G (_::_::L) _ at M
   exact ⟨M,_,rfl,Or.inr ⟨i,by omega,rfl,by assumption,hA⟩⟩
  ·intro h3b
   have h3:=dF h3b
   refine Aq<|C0<|Ad<|Ac<|B9 rfl rfl<|Ae rfl<|Aa<|Ad<|?_
   replace M:=M.perm (Am _ 1 _ rfl)
   change Mem w0 G (_::_::L) _ at M
   intro a F
   exact ⟨_,by omega,i+1,rfl,F.to ⟨rfl,rfl,rfl,rfl,rfl,trivial⟩,(M.weaken (.cons_cons _ (.cons_cons _ (sR _)))),by omega,fun j hj=>by rcases Nat.lt_succ_iff_lt_or_eq.1 hj with h_ | h_;exact hA j h_;subst h_;assumption⟩
 ·intro h4b
  have h4:=dF h4b
  refine B5<|B0<|B0<|Dr<|Ad<|Ab<|Ac<|Af rfl<|Aa<|Ad<|Ak<|Aj rfl rfl<|?_
  replace M:=M.perm (Am _ 1 _ rfl)
  replace M:=M.perm (Am _ 1 _ rfl)
  change Mem w0 G (_::_::L) _ at M
  exact ⟨M,_,rfl,Or.inl ⟨rfl,fun j hj=>hA j (by omega)⟩⟩
open Go Go.Y Go.Proofs
set_option linter.unusedSimpArgs false
set_option linter.unusedVariables false
def NRes (b:Nat) (c:List UInt8) (l:Nat) (L:List Res) (G':A4) (L':List Res) (v:Value):Prop :=
  ∃ (k:Nat) (a1 c1 t1:Int) (ad:Option Addr) (ln cn:Nat) (ok:Bool) (c':List UInt8) (l':Nat),v=.tuple #[.agg #[.int .u8 ((k:Nat):Int),.int .i64 a1,.int .i64 c1,.int .i64 t1,.slice ad ln cn],.bool ok]∧L' = (.blk b [.string (str c'),.int .i64 ((l':Nat):Int)] 155::L)∧c'.length≤c.length∧l'≤l+1025 ∧
  ((ok=true∧∃ x sz ys,Head x sz∧okI ys∧((ys.length:Nat):Int)=sz∧c=D7 x sz++(Cx ys++c')∧l' = l+1+ys.length∧Ff G' [.int .u8 ((k:Nat):Int),.int .i64 a1,.int .i64 c1,.int .i64 t1,.slice ad ln cn] { x with items:=ys }) ∨
   (ok=false∧((¬ Js c∧l' = l+1)∨∃ x sz ys r,Head x sz∧okI ys∧((ys.length:Nat):Int) < sz∧l' = l+1+ys.length+1∧c=D7 x sz++(Cx ys++r)∧¬ S7 r)))
theorem Ahq {ys:List ItemD} {y:ItemD} (h:okI ys) (hy:ItemOk 8 y∧y.key < 18446744073709551616∧y.typ < 256):okI (ys++[y]):=by
 intro z hz
 rcases List.mem_append.1 hz with hz | hz
 ·exact h z hz
 ·rw [List.mem_singleton.1 hz];exact hy
theorem X7 {w0 w:World} {G:A4} {L:List Res} {b l:Nat} {c:List UInt8} (M:Mem w0 G (.blk b [.string (str c),.int .i64 ((l:Nat):Int)] 155::L) w) (HG:Globs 0 1 2 3 G) (hcl:c.length≤1048576) (hll:l≤2000000) :
  Calls Tryz.prog 85 #[.func (.func 86) #[.pointer (some ⟨b,0,none⟩)] #[]] w (H4 w0 G (NRes b c l L)):=by
 refine A0 (vs:=[_]) Tryz.func85 rfl (n:=133) rfl rfl<|Ab<|Ac<|C6 M Bd rfl rfl<|?_;clear M;intro b1 w M
 refine Af rfl<|Aa<|Ad<|Ab<|Ac<|Ae rfl<|?_
 replace M:=M.perm (Am _ 1 _ rfl)
 change Mem w0 G (_::_::L) _ at M
 intro a F
 refine Xx F ent86 (first:=[.pointer (some ⟨b,0,none⟩)]) rfl rfl rfl (Uh (c:=c) (l:=l) M HG (by omega) (by omega)) ?_;clear F M a;rintro _ w a M rfl F
 have hctk3:=Ig 10 c
 revert a
 refine Ae rfl<|Dg rfl rfl<|Dg rfl rfl<|Af rfl<|Af rfl<|Aa<|Ad<|Ab<|Ac<|Ae rfl<|Hx Akf rfl rfl (Xd (s:=(Lib.cut c [10]).1) M HG (by omega))<|?_;clear M;rintro _ Gp4 w hGp4 M ⟨ap4,rfl,Sp4⟩
 replace HG:=HG.mono hGp4
 refine C6 M Ca rfl rfl<|?_;clear M;intro b5 w M
 refine Fp Ca M 0 rfl rfl rfl rfl rfl rfl<|?_;clear M;intro w M
 refine Aa<|Ad<|Ab<|Ac<|Bw N7 rfl rfl (Fz M)<|?_;clear M;rintro _ w M rfl
 refine C6 M Gb rfl rfl<|?_;clear M;intro b7 w M
 intro a F
 refine Av F M Gb (k:=0) rfl rfl rfl (us:=Hv) rfl rfl (by simp [Hv,Value.oneCell']) (Nat.le_refl 36) ?_;clear F M a;intro w a M F
 change Mem w0 Gp4 (.blk b7 Hv 139::.blk b5 [.slice ap4 ((Bt ((Lib.cut c [10]).1)).length) ((Bt ((Lib.cut c [10]).1)).length)] 24::.blk b [.string (str ((Lib.cut c [10]).2.1)),.int .i64 ((((l+1):Nat):Int))] 155::.blk b1 [.int .u8 0,.int .i64 0,.int .i64 0,.int .i64 0,.slice none 0 0] 65::L) _ at M
 revert a
 refine Aa<|Ad<|Ab<|?_
 obtain ⟨W,wr,hws,hwsb⟩:=Po (Lib.cut c [10]).1
 have hW:(Bt (Lib.cut c [10]).1)[0]?=some W:=by rw [hws];rfl
 have hwsl:=congrArg List.length hws
 intro a F
 rw [List.length_cons] at hwsl
 revert a
 refine Ac<|Ar (fun a F=>Tc Gb.k Cb (F.ev rfl)) rfl<|Ar (fun a F=>De (vs:=#[.pointer (some ⟨b5,0,none⟩)]) (by simp only [List.map_toArray,List.map_cons,List.map_nil,F.ev (x:=.tmp 6) rfl])) rfl<|?_
 replace M:=M.perm (Am _ 1 _ rfl)
 replace M:=M.perm (Am _ 1 _ rfl)
 change Mem w0 Gp4 (_::.blk b5 [.slice ap4 ((Bt ((Lib.cut c [10]).1)).length) ((Bt ((Lib.cut c [10]).1)).length)] 24::_::_::L) _ at M
 refine Bw ent134 rfl rfl (O7 Sp4 M hW)<|?_;clear M;rintro _ w M ⟨zz9,rfl,hzz9⟩
 refine Af rfl<|Aa<|Ad<|Ab<|Ab<|Ac<|Ae rfl<|C5 rfl<|Ae rfl<|?_
 rcases bE (!((Lib.cut c [10]).2.2)) with h10b | h11b
 ·skip
  have h10:=Ah h10b
  have h10c:((Lib.cut c [10]).2.2)=false:=(Ah h10b)
  refine g_f rfl (Al h10c)<|g_f rfl (Al h10c)<|Bj rfl (Al h10c) rfl<|Aa<|Ad<|Bo rfl rfl<|Ab<|Ac<|Ar (fun a F=>Ao Bd rfl (F.ev rfl) (cs:=[.int .u8 0,.int .i64 0,.int .i64 0,.int .i64 0,.slice none 0 0]) rfl (M.cellsL (k:=3) rfl rfl)) rfl<|fun a F=>?_
  refine Av F M Bd (k:=3) rfl rfl rfl (us:=[.int .u8 0,.int .i64 0,.int .i64 0,.int .i64 0,.slice none 0 0]) rfl rfl (by simp [Value.oneCell']) (by simp) ?_;clear F M a;intro w a M F
  change Mem w0 Gp4 (_::.blk b5 [.slice ap4 ((Bt ((Lib.cut c [10]).1)).length) ((Bt ((Lib.cut c [10]).1)).length)] 24::_::.blk b1 [.int .u8 0,.int .i64 0,.int .i64 0,.int .i64 0,.slice none 0 0] 65::L) _ at M
  revert a
  refine Af rfl<|Aa<|Ad<|Ak<|Au<|fun a F=>Cj F M (k:=3) rfl rfl Bd rfl rfl rfl rfl ?_
  replace M:=M.perm (Am _ 2 _ rfl)
  change Mem w0 Gp4 (_::_::.blk b5 [.slice ap4 ((Bt ((Lib.cut c [10]).1)).length) ((Bt ((Lib.cut c [10]).1)).length)] 24::.blk b1 [.int .u8 0,.int .i64 0,.int .i64 0,.int .i64 0,.slice none 0 0] 65::L) _ at M
  exact ⟨_,_,hGp4,M.weaken (.cons_cons _ (.cons _ (.cons _ (.cons _ (sR _))))),0,0,0,0,none,0,0,false,_,_,rfl,rfl,by omega,by omega,Or.inr ⟨rfl,Or.inl ⟨Ry hws hzz9 (by first | exact Or.inl (by assumption) | exact Or.inr (by omega)),rfl⟩⟩⟩
 ·skip
  have h11:=Ai h11b
  have h11c:((Lib.cut c [10]).2.2)=true:=(Ai h11b)
  refine g_t rfl (Ag h11c)<|Ae rfl<|g_t rfl (Ag h11c)<|C9 rfl rfl<|Bh rfl (Ag h11c) rfl<|Aa<|Ad<|Ax rfl ?_ ?_
  ·intro h12b
   have h12:=dT h12b
   refine Ab<|Ac<|Ar (fun a F=>Ao Bd rfl (F.ev rfl) (cs:=[.int .u8 0,.int .i64 0,.int .i64 0,.int .i64 0,.slice none 0 0]) rfl (M.cellsL (k:=3) rfl rfl)) rfl<|fun a F=>?_
   refine Av F M Bd (k:=3) rfl rfl rfl (us:=[.int .u8 0,.int .i64 0,.int .i64 0,.int .i64 0,.slice none 0 0]) rfl rfl (by simp [Value.oneCell']) (by simp) ?_;clear F M a;intro w a M F
   change Mem w0 Gp4 (_::.blk b5 [.slice ap4 ((Bt ((Lib.cut c [10]).1)).length) ((Bt ((Lib.cut c [10]).1)).length)] 24::_::.blk b1 [.int .u8 0,.int .i64 0,.int .i64 0,.int .i64 0,.slice none 0 0] 65::L) _ at M
   revert a
   refine Af rfl<|Aa<|Ad<|Ak<|Au<|fun a F=>Cj F M (k:=3) rfl rfl Bd rfl rfl rfl rfl ?_
   replace M:=M.perm (Am _ 2 _ rfl)
   change Mem w0 Gp4 (_::_::.blk b5 [.slice ap4 ((Bt ((Lib.cut c [10]).1)).length) ((Bt ((Lib.cut c [10]).1)).length)] 24::.blk b1 [.int .u8 0,.int .i64 0,.int .i64 0,.int .i64 0,.slice none 0 0] 65::L) _ at M
   exact ⟨_,_,hGp4,M.weaken (.cons_cons _ (.cons _ (.cons _ (.cons _ (sR _))))),0,0,0,0,none,0,0,false,_,_,rfl,rfl,by omega,by omega,Or.inr ⟨rfl,Or.inl ⟨Ry hws hzz9 (by first | exact Or.inl (by assumption) | exact Or.inr (by omega)),rfl⟩⟩⟩
  ·intro h13b
   have h13:=dF h13b
   refine Aq<|Ad<|Ab<|?_
   have hwt:(Lib.cut c [10]).2.2=true:=by assumption
   obtain ⟨k,hk,hzk,hkW⟩:=Aff hzz9 (by assumption)
   subst hzk
   refine Ac<|C6 M B7 rfl rfl<|?_;clear M;intro b14 w M
   refine Fp B7 M 0 rfl rfl rfl rfl rfl rfl<|?_;clear M;intro w M
   refine Aa<|Ad<|Ab<|Ac<|Ae rfl<|Ar (fun a F=>D0 Ev.k ⟨_,by rw [Dk B7.k]⟩ (F.ev rfl) (in_u8 (by omega) (by omega))) rfl<|A2 Bd.k rfl rfl<|Fp Ev M 4 rfl rfl rfl rfl rfl rfl<|?_;clear M;intro w M
   refine Aa<|Ad<|Ab<|Ac<|Ae rfl<|Ar (fun a F=>Xp (j:=k) Gb.k Cb (F.ev rfl) (F.ev rfl) rfl (by omega)) rfl<|Ar (fun a F=>Ao Cb rfl (F.ev rfl) (cs:=[.string (str (B1 k)),.bool (decide (uAt k)),.bool (decide (uCo k)),.bool (decide (uTo k)),.bool (decide (uIt k)),kfn k]) rfl (M.cellsL (k:=1) rfl (R5 (k:=k) (by omega)))) rfl<|fun a F=>?_
   rw [kfn_pos hk.1] at F
   revert a
   refine Hx ent82 rfl rfl (Uf (k:=k) (b:=b1) (b2:=b14) M)<|?_;clear M;rintro _ Gq16 w hGq16 M ⟨aq16,cq16,rfl,Sq16⟩
   replace HG:=HG.mono hGq16
   replace Sp4:=Sp4.mono Br hGq16
   refine Af rfl<|Aa<|Ad<|Ab<|Ab<|?_
   have hf4:=O9 (Ga k b1 b14)
   intro a F
   rw [show (Ga k b1 b14).length=4 from rfl] at hf4
   revert a
   refine Ac<|Bi Ca M 2 rfl rfl rfl rfl<|B8 Ca.k rfl<|Ae rfl<|B8 Mn.k rfl<|B9 rfl rfl<|D9 rfl rfl<|Aa<|Ad<|Ax rfl ?_ ?_
   ·intro h17b
    have h17:=dF (Ah h17b)
    have h17c:(decide ((((Bt ((Lib.cut c [10]).1)).length:Nat):Int)=((((fm (Ga k b1 b14)).length:Nat):Int))+1))=false:=(Ah h17b)
    refine Ab<|Ac<|Ar (fun a F=>Ao Bd rfl (F.ev rfl) (cs:=[.int .u8 ((k:Nat):Int),.int .i64 0,.int .i64 0,.int .i64 0,.slice none 0 0]) rfl (M.cellsL (k:=4) rfl rfl)) rfl<|fun a F=>?_
    refine Av F M Bd (k:=4) rfl rfl rfl (us:=[.int .u8 ((k:Nat):Int),.int .i64 0,.int .i64 0,.int .i64 0,.slice none 0 0]) rfl rfl (by simp [Value.oneCell']) (by simp) ?_;clear F M a;intro w a M F
    change Mem w0 Gq16 (.blk b14 [.int .i64 0] 3::_::.blk b5 [.slice ap4 ((Bt ((Lib.cut c [10]).1)).length) ((Bt ((Lib.cut c [10]).1)).length)] 24::_::.blk b1 [.int .u8 ((k:Nat):Int),.int .i64 0,.int .i64 0,.int .i64 0,.slice none 0 0] 65::L) _ at M
    revert a
    refine Af rfl<|Aa<|Ad<|Ak<|Au<|fun a F=>Cj F M (k:=4) rfl rfl Bd rfl rfl rfl rfl ?_
    replace M:=M.perm (Am _ 3 _ rfl)
    change Mem w0 Gq16 (_::.blk b14 [.int .i64 0] 3::_::.blk b5 [.slice ap4 ((Bt ((Lib.cut c [10]).1)).length) ((Bt ((Lib.cut c [10]).1)).length)] 24::.blk b1 [.int .u8 ((k:Nat):Int),.int .i64 0,.int .i64 0,.int .i64 0,.slice none 0 0] 65::L) _ at M
    exact ⟨_,_,(hGp4.trans hGq16),M.weaken (.cons_cons _ (.cons _ (.cons _ (.cons _ (.cons _ (sR _)))))),k,0,0,0,none,0,0,false,_,_,rfl,rfl,by omega,by omega,Or.inr ⟨rfl,Or.inl ⟨Ya (b:=b1) (b2:=b14) hws hk hkW (by omega),rfl⟩⟩⟩
   ·intro h18b
    have h18:=dT (Ai h18b)
    have h18c:(decide ((((Bt ((Lib.cut c [10]).1)).length:Nat):Int)=((((fm (Ga k b1 b14)).length:Nat):Int))+1))=true:=(Ai h18b)
    refine Aq<|Ad<|Ab<|Ab<|?_
    have hlw:wr.length=(fm (Ga k b1 b14)).length:=by omega
    refine Ac<|Ae rfl<|B8 Mn.k rfl<|Ae rfl<|Aa<|Ad<|A1<|fun a F=>B2 (fun m a' w'=>∃ (i:Nat),∃ (x:NotD),∃ (sz:Int),m=(fm (Ga k b1 b14)).length - i∧Fits 133 a' [(0,.func (.func 86) #[.pointer (some ⟨b,0,none⟩)] #[]),(2,.pointer (some ⟨b1,0,none⟩)),(6,.pointer (some ⟨b5,0,none⟩)),(7,.pointer (some ⟨b7,0,none⟩)),(9,.pointer (some ⟨b14,0,none⟩)),(10,.slice aq16 ((fm (Ga k b1 b14)).length) (cq16)),(52,.slice aq16 ((fm (Ga k b1 b14)).length) (cq16)),(53,.int .i64 ((((fm (Ga k b1 b14)).length:Nat):Int))),(54,.int .i64 ((i:Nat):Int))]∧Mem w0 Gq16 (.blk b14 [.int .i64 sz] 3::.blk b7 Hv 139::.blk b5 [.slice ap4 ((Bt ((Lib.cut c [10]).1)).length) ((Bt ((Lib.cut c [10]).1)).length)] 24::.blk b [.string (str ((Lib.cut c [10]).2.1)),.int .i64 ((((l+1):Nat):Int))] 155::.blk b1 [.int .u8 ((x.kind:Nat):Int),.int .i64 x.at_,.int .i64 x.count,.int .i64 x.to,.slice none 0 0] 65::L) w'∧(i≤(fm (Ga k b1 b14)).length)∧(x.kind=k)∧(FlH x sz)∧(Wd wr x sz i)) _ ⟨0,⟨k,0,0,0,[]⟩,0,rfl,F.to ⟨rfl,rfl,rfl,rfl,rfl,rfl,rfl,rfl,rfl,trivial⟩,M,Nat.zero_le _,rfl,fl_zero hk,fun j z h=>by omega⟩ ?_
    clear F M
    rintro m a w ⟨i,x,sz,rfl,F,M,hi,hxk,hfl,hwd⟩
    revert a
    refine Ab<|Ac<|C9 rfl rfl<|Aa<|Ad<|Ab<|Ax rfl ?_ ?_
    ·intro h19b
     have h19:=dT h19b
     refine Aq<|Ad<|Ab<|A1<|Ab<|Ac<|Ae rfl<|?_
     obtain ⟨Xe20,hXe20⟩:=Bc (xs:=(fm (Ga k b1 b14))) (i:=i) (by omega)
     obtain ⟨be20,oe20,_,Ie20,_,Ae20,rfl⟩:=Sq16.at hXe20
     refine Ds Mn.k Mm Ie20 rfl rfl<|C2 Mm M Ae20 0 rfl rfl (by omega) rfl<|Af rfl<|Af rfl<|Aa<|Ad<|Ab<|Ac<|Bi Ca M 2 rfl rfl rfl rfl<|Ae rfl<|B9 rfl rfl<|?_
     obtain ⟨Xe21,hXe21⟩:=Bc (xs:=Bt ((Lib.cut c [10]).1)) (i:=i+1) (by (have h9_:=hwsl;omega))
     obtain ⟨be21,oe21,_,Ie21,_,Ae21,⟨rfl,hsle21⟩⟩:=Sp4.at hXe21
     refine Ds Ca.k Bq Ie21 rfl rfl<|C2 Bq M Ae21 0 rfl rfl (by omega) rfl<|?_
     have hwi:wr[i]?=some Xe21:=by have h_:=hXe21;rw [hws] at h_;simpa using h_
     have hwl:=Qv (List.mem_of_getElem? hXe21)
     refine Bw ent136 rfl rfl (Agh (s:=Xe21) M HG (by omega))<|?_;clear M;rintro _ w M ⟨zt22,ert22,rfl,het22,hat22⟩
     refine Ae rfl<|Dg rfl rfl<|Dg rfl rfl<|Af rfl<|Af rfl<|Aa<|Ad<|Ab<|Ab<|fun a F=>Vf [(.free,0),(.free,1),(.free,2),(.free,3),(.pure,5),(.free,6),(.free,7),(.free,8),(.pure,9),(.keep,4),(.free,10),(.free,11)] [] (Keep Gq16 [.blk b5 [.slice ap4 ((Bt ((Lib.cut c [10]).1)).length) ((Bt ((Lib.cut c [10]).1)).length)] 24]) rfl (by kernel_rfl) (fun c a d v w h=>by cases d <;> exact h) ((M.drew _).keep (Gle.refl _) (by simp)) ?_
     replace M:=M.drew (w.drawn+1)
     revert a
     refine k_f (fun a F w _=>Cg F rfl) rfl<|k_f (fun a F w _=>Z9 Qt.k het22 (F.ev rfl) rfl) rfl<|k_f (fun a F w _=>Cg F rfl) rfl<|?_
     rcases bE (!(D3 ert22)) with h23b | h24b
     ·skip
      have h23:=Ah h23b
      have h23c:(D3 ert22)=false:=(Ah h23b)
      refine k_s rfl (Al h23c)<|k_s rfl (Al h23c)<|k_s rfl (Al h23c)<|k_s rfl (Al h23c)<|k_s rfl (Al h23c)<|k_s rfl (Al h23c)<|k_s rfl (Al h23c)<|k_s rfl (Al h23c)<|k_f (fun a F w _=>Ht F rfl (Al h23c) rfl) rfl<|D1<|?_
      generalize ({ w with drawn:=w.drawn+1 }:World)=w at M ⊢
      refine Ad<|Bo rfl rfl<|Ab<|Ac<|Ar (fun a F=>Ao Bd rfl (F.ev rfl) (cs:=[.int .u8 ((x.kind:Nat):Int),.int .i64 x.at_,.int .i64 x.count,.int .i64 x.to,.slice none 0 0]) rfl (M.cellsL (k:=4) rfl rfl)) rfl<|fun a F=>?_
      refine Av F M Bd (k:=4) rfl rfl rfl (us:=[.int .u8 ((x.kind:Nat):Int),.int .i64 x.at_,.int .i64 x.count,.int .i64 x.to,.slice none 0 0]) rfl rfl (by simp [Value.oneCell']) (by simp) ?_;clear F M a;intro w a M F
      change Mem w0 Gq16 (_::_::.blk b5 [.slice ap4 ((Bt ((Lib.cut c [10]).1)).length) ((Bt ((Lib.cut c [10]).1)).length)] 24::_::.blk b1 [.int .u8 ((x.kind:Nat):Int),.int .i64 x.at_,.int .i64 x.count,.int .i64 x.to,.slice none 0 0] 65::L) _ at M
      revert a
      refine Af rfl<|Aa<|Ad<|Ak<|Au<|Bk<|Au<|Au<|Bk<|Au<|fun a F=>Cj F M (k:=4) rfl rfl Bd rfl rfl rfl rfl ?_
      replace M:=M.perm (Am _ 3 _ rfl)
      change Mem w0 Gq16 (_::_::_::.blk b5 [.slice ap4 ((Bt ((Lib.cut c [10]).1)).length) ((Bt ((Lib.cut c [10]).1)).length)] 24::.blk b1 [.int .u8 ((x.kind:Nat):Int),.int .i64 x.at_,.int .i64 x.count,.int .i64 x.to,.slice none 0 0] 65::L) _ at M
      exact ⟨_,_,(hGp4.trans hGq16),M.weaken (.cons_cons _ (.cons _ (.cons _ (.cons _ (.cons _ (sR _)))))),x.kind,x.at_,x.count,x.to,none,0,0,false,_,_,rfl,rfl,by omega,by omega,Or.inr ⟨rfl,Or.inl ⟨X9 hws hk hkW hwi hat22 (by first | exact Or.inl (by assumption) | exact Or.inr (by assumption)),rfl⟩⟩⟩
     ·skip
      have h24:=Ai h24b
      have h24c:(D3 ert22)=true:=(Ai h24b)
      refine C7 rfl (Ag h24c) (fun a F w _=>Cg F rfl)<|H2 rfl (Ag h24c) (fun a F w M=>Ap (agf Ca rfl) (F.ev rfl) (M.cellL (k:=0) rfl rfl))<|C7 rfl (Ag h24c) (fun a F w _=>Cg F rfl)<|C7 rfl (Ag h24c) (fun a F w _=>F3 (F.ev rfl) (F.ev rfl) (Cu (by omega) (by omega)))<|?_
      obtain ⟨be25,oe25,_,Ie25,_,Ae25,⟨rfl,hsle25⟩⟩:=Sp4.at hXe21
      refine C7 rfl (Ag h24c) (fun a F w _=>Ce Ca.k Bq (F.ev rfl) (F.ev rfl) (by omega) Ie25)<|H2 rfl (Ag h24c) (fun a F w M=>Ap (agf Bq rfl) (F.ev rfl) (M.cellA Ae25 0 (by omega) rfl))<|fun a F=>G8 F rfl rfl (Ag h24c) ?_
      revert a
      refine g_t rfl (Ag h24c)<|Bw Acz rfl rfl (Sa (z:=zt22) M HG (Zg (ok_of hat22 (by assumption))))<|?_;clear M;rintro _ w M rfl
      refine Aa<|eK (C':=Keep Gq16 [.blk b5 [.slice ap4 ((Bt ((Lib.cut c [10]).1)).length) ((Bt ((Lib.cut c [10]).1)).length)] 24]) (M.keep (Gle.refl _) (by simp)) (fun w h=>h.mono (Gle.refl _) (by simp))<|C7 rfl (Ag h24c) (fun a F w _=>I0 (F.ev rfl) (F.ev rfl))<|k_f (fun a F w _=>Gq F rfl (Ag h24c) rfl) rfl<|D1<|Ad<|Ax rfl ?_ ?_
      ·intro h26b
       have h26:=dF (Ah h26b)
       have h26c:(decide ((Lib.itoa zt22)=Xe21))=false:=(Ah h26b)
       refine Ab<|Ac<|Ar (fun a F=>Ao Bd rfl (F.ev rfl) (cs:=[.int .u8 ((x.kind:Nat):Int),.int .i64 x.at_,.int .i64 x.count,.int .i64 x.to,.slice none 0 0]) rfl (M.cellsL (k:=4) rfl rfl)) rfl<|fun a F=>?_
       refine Av F M Bd (k:=4) rfl rfl rfl (us:=[.int .u8 ((x.kind:Nat):Int),.int .i64 x.at_,.int .i64 x.count,.int .i64 x.to,.slice none 0 0]) rfl rfl (by simp [Value.oneCell']) (by simp) ?_;clear F M a;intro w a M F
       change Mem w0 Gq16 (_::_::.blk b5 [.slice ap4 ((Bt ((Lib.cut c [10]).1)).length) ((Bt ((Lib.cut c [10]).1)).length)] 24::_::.blk b1 [.int .u8 ((x.kind:Nat):Int),.int .i64 x.at_,.int .i64 x.count,.int .i64 x.to,.slice none 0 0] 65::L) _ at M
       revert a
       refine Af rfl<|Aa<|Ad<|Ak<|Au<|Bk<|Au<|Au<|Bk<|Au<|fun a F=>Cj F M (k:=4) rfl rfl Bd rfl rfl rfl rfl ?_
       replace M:=M.perm (Am _ 3 _ rfl)
       change Mem w0 Gq16 (_::_::_::.blk b5 [.slice ap4 ((Bt ((Lib.cut c [10]).1)).length) ((Bt ((Lib.cut c [10]).1)).length)] 24::.blk b1 [.int .u8 ((x.kind:Nat):Int),.int .i64 x.at_,.int .i64 x.count,.int .i64 x.to,.slice none 0 0] 65::L) _ at M
       exact ⟨_,_,(hGp4.trans hGq16),M.weaken (.cons_cons _ (.cons _ (.cons _ (.cons _ (.cons _ (sR _)))))),x.kind,x.at_,x.count,x.to,none,0,0,false,_,_,rfl,rfl,by omega,by omega,Or.inr ⟨rfl,Or.inl ⟨X9 hws hk hkW hwi hat22 (by first | exact Or.inl (by assumption) | exact Or.inr (by assumption)),rfl⟩⟩⟩
      ·intro h27b
       have h27:=dT (Ai h27b)
       have h27c:(decide ((Lib.itoa zt22)=Xe21))=true:=(Ai h27b)
       refine Aq<|Ad<|?_
       have hao:=ok_of hat22 (by assumption)
       have hiw:Lib.itoa zt22=Xe21:=by assumption
       have hXp2:(fm (Ga x.kind b1 b14))[i]?=some Xe20:=by rw [hxk];exact hXe20
       obtain ⟨hpk,hpf,hpw⟩:=put_ok hXp2 hfl hwd (Zg hao) (by rw [hiw];exact hwi)
       obtain ⟨hpa,hpp⟩:=Abz (sz:=sz) (v:=zt22) hXp2
       intro a F
       refine Pk (fun a' w'=>Fits 133 a' [(0,.func (.func 86) #[.pointer (some ⟨b,0,none⟩)] #[]),(2,.pointer (some ⟨b1,0,none⟩)),(6,.pointer (some ⟨b5,0,none⟩)),(7,.pointer (some ⟨b7,0,none⟩)),(9,.pointer (some ⟨b14,0,none⟩)),(10,.slice aq16 ((fm (Ga k b1 b14)).length) (cq16)),(52,.slice aq16 ((fm (Ga k b1 b14)).length) (cq16)),(53,.int .i64 ((((fm (Ga k b1 b14)).length:Nat):Int))),(54,.int .i64 ((i:Nat):Int))]∧Mem w0 Gq16 (.blk b14 [.int .i64 ((K9 x sz Xe20.2 zt22).2)] 3::.blk b7 Hv 139::.blk b5 [.slice ap4 ((Bt ((Lib.cut c [10]).1)).length) ((Bt ((Lib.cut c [10]).1)).length)] 24::.blk b [.string (str ((Lib.cut c [10]).2.1)),.int .i64 ((((l+1):Nat):Int))] 155::.blk b1 [.int .u8 ((((K9 x sz Xe20.2 zt22).1.kind:Nat):Int)),.int .i64 ((K9 x sz Xe20.2 zt22).1.at_),.int .i64 ((K9 x sz Xe20.2 zt22).1.count),.int .i64 ((K9 x sz Xe20.2 zt22).1.to),.slice none 0 0] 65::L) w') ?_ ?_
       ·skip
        rcases hpp with ⟨rfl,_⟩ | ⟨rfl,_⟩ | ⟨rfl,_⟩ | ⟨rfl,_⟩
        ·skip
         revert a
         refine Ac<|Ae rfl<|Ae rfl<|Em rfl<|Fp B7 M 4 rfl rfl rfl rfl rfl rfl<|?_;clear M;intro w M
         refine Aa<|fun a F=>?_
         exact ⟨F.to ⟨rfl,rfl,rfl,rfl,rfl,rfl,rfl,rfl,rfl,trivial⟩,M⟩
        ·skip
         revert a
         refine Ac<|Ae rfl<|Ae rfl<|Em rfl<|Fp B7 M 4 rfl rfl rfl rfl rfl rfl<|?_;clear M;intro w M
         refine Aa<|fun a F=>?_
         exact ⟨F.to ⟨rfl,rfl,rfl,rfl,rfl,rfl,rfl,rfl,rfl,trivial⟩,M⟩
        ·skip
         revert a
         refine Ac<|Ae rfl<|Ae rfl<|Em rfl<|Fp B7 M 4 rfl rfl rfl rfl rfl rfl<|?_;clear M;intro w M
         refine Aa<|fun a F=>?_
         exact ⟨F.to ⟨rfl,rfl,rfl,rfl,rfl,rfl,rfl,rfl,rfl,trivial⟩,M⟩
        ·skip
         revert a
         refine Ac<|Ae rfl<|Ae rfl<|Em rfl<|Fp B7 M 0 rfl rfl rfl rfl rfl rfl<|?_;clear M;intro w M
         refine Aa<|fun a F=>?_
         exact ⟨F.to ⟨rfl,rfl,rfl,rfl,rfl,rfl,rfl,rfl,rfl,trivial⟩,M⟩
       ·clear F M
        rintro a w ⟨F,M⟩
        revert a
        refine C0<|Ad<|Ac<|B9 rfl rfl<|Ae rfl<|Aa<|Ad<|fun a F=>?_
        exact ⟨_,by omega,i+1,(K9 x sz Xe20.2 zt22).1,(K9 x sz Xe20.2 zt22).2,rfl,F.to ⟨rfl,rfl,rfl,rfl,rfl,rfl,rfl,rfl,rfl,trivial⟩,M,by omega,hpk.trans hxk,hpf,hpw⟩
    ·intro h28b
     have h28:=dF h28b
     refine B5<|B0<|B0<|Dr<|Ad<|Ab<|Ab<|?_
     have hfe:=Qn (x:=x) (b:=b1) (b2:=b14) (sz:=sz)
     intro a F
     rw [hxk] at hfe
     have hwr:=wd_all hwd (by omega) (by omega)
     revert a
     refine Ac<|Bi B7 M 0 rfl rfl rfl rfl<|C9 rfl rfl<|Ae rfl<|?_
     rcases bE (decide (sz < 0)) with h29b | h30b
     ·skip
      have h29:=dT h29b
      refine g_f rfl h29b<|g_f rfl h29b<|Bj rfl h29b rfl<|Aa<|Ad<|Bo rfl rfl<|Ab<|Ac<|Ar (fun a F=>Ao Bd rfl (F.ev rfl) (cs:=[.int .u8 ((x.kind:Nat):Int),.int .i64 x.at_,.int .i64 x.count,.int .i64 x.to,.slice none 0 0]) rfl (M.cellsL (k:=4) rfl rfl)) rfl<|fun a F=>?_
      refine Av F M Bd (k:=4) rfl rfl rfl (us:=[.int .u8 ((x.kind:Nat):Int),.int .i64 x.at_,.int .i64 x.count,.int .i64 x.to,.slice none 0 0]) rfl rfl (by simp [Value.oneCell']) (by simp) ?_;clear F M a;intro w a M F
      change Mem w0 Gq16 (_::_::.blk b5 [.slice ap4 ((Bt ((Lib.cut c [10]).1)).length) ((Bt ((Lib.cut c [10]).1)).length)] 24::_::.blk b1 [.int .u8 ((x.kind:Nat):Int),.int .i64 x.at_,.int .i64 x.count,.int .i64 x.to,.slice none 0 0] 65::L) _ at M
      revert a
      refine Af rfl<|Aa<|Ad<|Ak<|Au<|fun a F=>Cj F M (k:=4) rfl rfl Bd rfl rfl rfl rfl ?_
      replace M:=M.perm (Am _ 3 _ rfl)
      change Mem w0 Gq16 (_::_::_::.blk b5 [.slice ap4 ((Bt ((Lib.cut c [10]).1)).length) ((Bt ((Lib.cut c [10]).1)).length)] 24::.blk b1 [.int .u8 ((x.kind:Nat):Int),.int .i64 x.at_,.int .i64 x.count,.int .i64 x.to,.slice none 0 0] 65::L) _ at M
      exact ⟨_,_,(hGp4.trans hGq16),M.weaken (.cons_cons _ (.cons _ (.cons _ (.cons _ (.cons _ (sR _)))))),x.kind,x.at_,x.count,x.to,none,0,0,false,_,_,rfl,rfl,by omega,by omega,Or.inr ⟨rfl,Or.inl ⟨X8 hws hfl (by rw [hxk];exact hkW) hwr (by omega),rfl⟩⟩⟩
     ·skip
      have h30:=dF h30b
      refine g_t rfl h30b<|Bi B7 M 0 rfl rfl rfl rfl<|g_t rfl h30b<|Df rfl rfl<|Bh rfl h30b rfl<|Aa<|Ad<|Ax rfl ?_ ?_
      ·intro h31b
       have h31:=dT h31b
       refine Ab<|Ac<|Ar (fun a F=>Ao Bd rfl (F.ev rfl) (cs:=[.int .u8 ((x.kind:Nat):Int),.int .i64 x.at_,.int .i64 x.count,.int .i64 x.to,.slice none 0 0]) rfl (M.cellsL (k:=4) rfl rfl)) rfl<|fun a F=>?_
       refine Av F M Bd (k:=4) rfl rfl rfl (us:=[.int .u8 ((x.kind:Nat):Int),.int .i64 x.at_,.int .i64 x.count,.int .i64 x.to,.slice none 0 0]) rfl rfl (by simp [Value.oneCell']) (by simp) ?_;clear F M a;intro w a M F
       change Mem w0 Gq16 (_::_::.blk b5 [.slice ap4 ((Bt ((Lib.cut c [10]).1)).length) ((Bt ((Lib.cut c [10]).1)).length)] 24::_::.blk b1 [.int .u8 ((x.kind:Nat):Int),.int .i64 x.at_,.int .i64 x.count,.int .i64 x.to,.slice none 0 0] 65::L) _ at M
       revert a
       refine Af rfl<|Aa<|Ad<|Ak<|Au<|fun a F=>Cj F M (k:=4) rfl rfl Bd rfl rfl rfl rfl ?_
       replace M:=M.perm (Am _ 3 _ rfl)
       change Mem w0 Gq16 (_::_::_::.blk b5 [.slice ap4 ((Bt ((Lib.cut c [10]).1)).length) ((Bt ((Lib.cut c [10]).1)).length)] 24::.blk b1 [.int .u8 ((x.kind:Nat):Int),.int .i64 x.at_,.int .i64 x.count,.int .i64 x.to,.slice none 0 0] 65::L) _ at M
       exact ⟨_,_,(hGp4.trans hGq16),M.weaken (.cons_cons _ (.cons _ (.cons _ (.cons _ (.cons _ (sR _)))))),x.kind,x.at_,x.count,x.to,none,0,0,false,_,_,rfl,rfl,by omega,by omega,Or.inr ⟨rfl,Or.inl ⟨X8 hws hfl (by rw [hxk];exact hkW) hwr (by omega),rfl⟩⟩⟩
      ·intro h32b
       have h32:=dF h32b
       refine Aq<|Ad<|Ab<|Ab<|?_
       have hh:=hfl.head (by omega)
       have hcc:=head_of hws (by rw [hxk];exact hkW) hwr hwt
       obtain ⟨p,hp⟩:=Int.eq_ofNat_of_zero_le hh.rs.1
       subst hp
       have hp4:=hh.rs.2
       refine Ac<|Bi B7 M 0 rfl rfl rfl rfl<|Ae rfl<|Aa<|Ad<|A1<|?_
       have M:=M.nilrow 26 4
       change Mem w0 Gq16 (.row (.slice none 0 0) 0 ([]) 26 4::.blk b14 [.int .i64 ((p:Nat):Int)] 3::.blk b7 Hv 139::.blk b5 [.slice ap4 ((Bt ((Lib.cut c [10]).1)).length) ((Bt ((Lib.cut c [10]).1)).length)] 24::.blk b [.string (str ((Lib.cut c [10]).2.1)),.int .i64 ((((l+1):Nat):Int))] 155::.blk b1 [.int .u8 ((x.kind:Nat):Int),.int .i64 x.at_,.int .i64 x.count,.int .i64 x.to,.slice none 0 0] 65::L) _ at M
       intro a F
       refine B2 (fun m a' w'=>∃ (j:Nat),∃ (ys:List ItemD),∃ (cj:List UInt8),∃ (ar:Option Addr),∃ (nr:Nat),∃ (cr:Nat),∃ (csr:List Value),m=p - j∧∃ G33,Gle Gq16 G33∧Fits 133 a' [(0,.func (.func 86) #[.pointer (some ⟨b,0,none⟩)] #[]),(2,.pointer (some ⟨b1,0,none⟩)),(92,.int .i64 ((p:Nat):Int)),(93,.int .i64 ((j:Nat):Int))]∧Mem w0 G33 (.row (.slice ar nr cr) (nr) (csr) 26 4::.blk b14 [.int .i64 ((p:Nat):Int)] 3::.blk b7 Hv 139::.blk b5 [.slice ap4 ((Bt ((Lib.cut c [10]).1)).length) ((Bt ((Lib.cut c [10]).1)).length)] 24::.blk b [.string (str cj),.int .i64 ((((l+1+j):Nat):Int))] 155::.blk b1 [.int .u8 ((x.kind:Nat):Int),.int .i64 x.at_,.int .i64 x.count,.int .i64 x.to,.slice ar nr cr] 65::L) w'∧(j≤p)∧(ys.length=j)∧(okI ys)∧((Lib.cut c [10]).2.1=Cx ys++cj)∧(cj.length≤c.length)∧(Els Co 4 G33 csr ys)∧(nr≤j)) _ ⟨0,[],_,none,0,0,[],rfl,Gq16,Gle.refl _,F.to ⟨rfl,rfl,rfl,rfl,trivial⟩,M,Nat.zero_le _,rfl,(fun y hy=>by cases hy),rfl,by omega,Els.nil,by omega⟩ ?_
       clear F M
       rintro m a w ⟨j,ys,cj,ar,nr,cr,csr,rfl,G33,hG33,F,M,hj,hyl,hok,hcj,hcl2,Er,hnr⟩
       replace HG:=HG.mono hG33
       replace Sp4:=Sp4.mono Br hG33
       replace Sq16:=Sq16.mono J3 hG33
       revert a
       refine Ab<|Ac<|C9 rfl rfl<|Aa<|Ad<|Ab<|Ax rfl ?_ ?_
       ·intro h34b
        have h34:=dT h34b
        refine Aq<|Ad<|Ab<|A1<|Ab<|Ac<|Ae rfl<|?_
        replace M:=M.perm (Am _ 4 _ rfl)
        change Mem w0 G33 (_::_::_::_::_::_::L) _ at M
        intro a F
        refine Xx F ent86 (first:=[.pointer (some ⟨b,0,none⟩)]) rfl rfl rfl (Uh (c:=cj) (l:=(l+1+j)) M HG (by omega) (by omega)) ?_;clear F M a;rintro _ w a M rfl F
        have hctk35:=Ig 10 cj
        revert a
        refine Ae rfl<|Dg rfl rfl<|Dg rfl rfl<|Af rfl<|Af rfl<|Aa<|Ad<|Ab<|Ac<|Ae rfl<|Ar (fun a F=>Bu (F.ev rfl) (F.ev rfl) (by (first | omega | (simp only [List.length_append,List.length_cons,List.length_nil];omega)))) rfl<|Hx ent12 rfl rfl (Aam (s:=(((Lib.cut cj [10]).1)++([10]:List UInt8))) M HG (by (first | omega | (simp only [List.length_append,List.length_cons,List.length_nil];omega))))<|?_;clear M;rintro _ Gq36 w hGq36 M ⟨aq36,rfl,Sq36⟩
        replace HG:=HG.mono hGq36
        replace Sp4:=Sp4.mono Br hGq36
        replace Sq16:=Sq16.mono J3 hGq36
        replace Er:=Er.mono A3 hGq36
        refine Ae rfl<|Dg rfl rfl<|Dg rfl rfl<|Dg rfl rfl<|Af rfl<|Af rfl<|Af rfl<|Aa<|Ad<|Ab<|Ab<|Ac<|Ae rfl<|C5 rfl<|Ae rfl<|?_
        rcases bE (!((Lib.cut cj [10]).2.2)) with h37b | h38b
        ·skip
         have h37:=Ah h37b
         have h37c:((Lib.cut cj [10]).2.2)=false:=(Ah h37b)
         refine g_f rfl (Al h37c)<|g_f rfl (Al h37c)<|Bj rfl (Al h37c) rfl<|Ae rfl<|g_f rfl rfl<|g_f rfl rfl<|g_f rfl rfl<|Bj rfl rfl rfl<|Aa<|Ad<|Bo rfl rfl<|Ab<|Ac<|Ar (fun a F=>Ao Bd rfl (F.ev rfl) (cs:=[.int .u8 ((x.kind:Nat):Int),.int .i64 x.at_,.int .i64 x.count,.int .i64 x.to,.slice ar nr cr]) rfl (M.cellsL (k:=5) rfl rfl)) rfl<|fun a F=>?_
         refine Av F M Bd (k:=5) rfl rfl rfl (us:=[.int .u8 ((x.kind:Nat):Int),.int .i64 x.at_,.int .i64 x.count,.int .i64 x.to,.slice ar nr cr]) rfl rfl (by simp [Value.oneCell']) (by simp) ?_;clear F M a;intro w a M F
         change Mem w0 Gq36 (_::_::_::_::_::.blk b1 [.int .u8 ((x.kind:Nat):Int),.int .i64 x.at_,.int .i64 x.count,.int .i64 x.to,.slice ar nr cr] 65::L) _ at M
         revert a
         refine Af rfl<|Aa<|Ad<|Ak<|Au<|Bk<|Au<|Au<|Bk<|Au<|fun a F=>Cj F M (k:=5) rfl rfl Bd rfl rfl rfl rfl ?_
         change Mem w0 Gq36 (_::_::_::_::_::.blk b1 [.int .u8 ((x.kind:Nat):Int),.int .i64 x.at_,.int .i64 x.count,.int .i64 x.to,.slice ar nr cr] 65::L) _ at M
         exact ⟨_,_,(((hGp4.trans hGq16).trans hG33).trans hGq36),M.weaken (.cons_cons _ (.cons _ (.cons _ (.cons _ (.cons _ (.cons _ (sR _))))))),x.kind,x.at_,x.count,x.to,ar,nr,cr,false,_,_,rfl,rfl,by omega,by omega,Or.inr ⟨rfl,Or.inr ⟨x,_,ys,cj,hh,hok,by omega,by omega,by rw [← hcj];exact hcc,Wh (c:=cj) (by omega) (by first | exact Or.inl (by assumption) | exact Or.inr (Or.inl (by assumption)) | exact Or.inr (Or.inl (by omega)) | exact Or.inr (Or.inr (by omega)))⟩⟩⟩
        ·skip
         have h38:=Ai h38b
         have h38c:((Lib.cut cj [10]).2.2)=true:=(Ai h38b)
         refine g_t rfl (Ag h38c)<|Ae rfl<|g_t rfl (Ag h38c)<|D9 rfl rfl<|Bh rfl (Ag h38c) rfl<|Ae rfl<|?_
         rcases bE (!(decide ((D8 (((Lib.cut cj [10]).1)++([10]:List UInt8))).2.2=0))) with h39b | h40b
         ·skip
          have h39:=dF (Ah h39b)
          have h39c:(decide ((D8 (((Lib.cut cj [10]).1)++([10]:List UInt8))).2.2=0))=false:=(Ah h39b)
          refine g_f rfl (Al h39c)<|g_f rfl (Al h39c)<|g_f rfl (Al h39c)<|Bj rfl (Al h39c) rfl<|Aa<|Ad<|Bo rfl rfl<|Ab<|Ac<|Ar (fun a F=>Ao Bd rfl (F.ev rfl) (cs:=[.int .u8 ((x.kind:Nat):Int),.int .i64 x.at_,.int .i64 x.count,.int .i64 x.to,.slice ar nr cr]) rfl (M.cellsL (k:=5) rfl rfl)) rfl<|fun a F=>?_
          refine Av F M Bd (k:=5) rfl rfl rfl (us:=[.int .u8 ((x.kind:Nat):Int),.int .i64 x.at_,.int .i64 x.count,.int .i64 x.to,.slice ar nr cr]) rfl rfl (by simp [Value.oneCell']) (by simp) ?_;clear F M a;intro w a M F
          change Mem w0 Gq36 (_::_::_::_::_::.blk b1 [.int .u8 ((x.kind:Nat):Int),.int .i64 x.at_,.int .i64 x.count,.int .i64 x.to,.slice ar nr cr] 65::L) _ at M
          revert a
          refine Af rfl<|Aa<|Ad<|Ak<|Au<|Bk<|Au<|Au<|Bk<|Au<|fun a F=>Cj F M (k:=5) rfl rfl Bd rfl rfl rfl rfl ?_
          change Mem w0 Gq36 (_::_::_::_::_::.blk b1 [.int .u8 ((x.kind:Nat):Int),.int .i64 x.at_,.int .i64 x.count,.int .i64 x.to,.slice ar nr cr] 65::L) _ at M
          exact ⟨_,_,(((hGp4.trans hGq16).trans hG33).trans hGq36),M.weaken (.cons_cons _ (.cons _ (.cons _ (.cons _ (.cons _ (.cons _ (sR _))))))),x.kind,x.at_,x.count,x.to,ar,nr,cr,false,_,_,rfl,rfl,by omega,by omega,Or.inr ⟨rfl,Or.inr ⟨x,_,ys,cj,hh,hok,by omega,by omega,by rw [← hcj];exact hcc,Wh (c:=cj) (by omega) (by first | exact Or.inl (by assumption) | exact Or.inr (Or.inl (by assumption)) | exact Or.inr (Or.inl (by omega)) | exact Or.inr (Or.inr (by omega)))⟩⟩⟩
         ·skip
          have h40:=dT (Ai h40b)
          have h40c:(decide ((D8 (((Lib.cut cj [10]).1)++([10]:List UInt8))).2.2=0))=true:=(Ai h40b)
          refine g_t rfl (Ag h40c)<|Ae rfl<|g_t rfl (Ag h40c)<|B8 Bp.k rfl<|g_t rfl (Ag h40c)<|D9 rfl rfl<|Bh rfl (Ag h40c) rfl<|Aa<|Ad<|Ax rfl ?_ ?_
          ·intro h41b
           have h41:=dF (Ah h41b)
           have h41c:(decide ((((D8 (((Lib.cut cj [10]).1)++([10]:List UInt8))).1.length:Nat):Int)=1))=false:=(Ah h41b)
           refine Ab<|Ac<|Ar (fun a F=>Ao Bd rfl (F.ev rfl) (cs:=[.int .u8 ((x.kind:Nat):Int),.int .i64 x.at_,.int .i64 x.count,.int .i64 x.to,.slice ar nr cr]) rfl (M.cellsL (k:=5) rfl rfl)) rfl<|fun a F=>?_
           refine Av F M Bd (k:=5) rfl rfl rfl (us:=[.int .u8 ((x.kind:Nat):Int),.int .i64 x.at_,.int .i64 x.count,.int .i64 x.to,.slice ar nr cr]) rfl rfl (by simp [Value.oneCell']) (by simp) ?_;clear F M a;intro w a M F
           change Mem w0 Gq36 (_::_::_::_::_::.blk b1 [.int .u8 ((x.kind:Nat):Int),.int .i64 x.at_,.int .i64 x.count,.int .i64 x.to,.slice ar nr cr] 65::L) _ at M
           revert a
           refine Af rfl<|Aa<|Ad<|Ak<|Au<|Bk<|Au<|Au<|Bk<|Au<|fun a F=>Cj F M (k:=5) rfl rfl Bd rfl rfl rfl rfl ?_
           change Mem w0 Gq36 (_::_::_::_::_::.blk b1 [.int .u8 ((x.kind:Nat):Int),.int .i64 x.at_,.int .i64 x.count,.int .i64 x.to,.slice ar nr cr] 65::L) _ at M
           exact ⟨_,_,(((hGp4.trans hGq16).trans hG33).trans hGq36),M.weaken (.cons_cons _ (.cons _ (.cons _ (.cons _ (.cons _ (.cons _ (sR _))))))),x.kind,x.at_,x.count,x.to,ar,nr,cr,false,_,_,rfl,rfl,by omega,by omega,Or.inr ⟨rfl,Or.inr ⟨x,_,ys,cj,hh,hok,by omega,by omega,by rw [← hcj];exact hcc,Wh (c:=cj) (by omega) (by first | exact Or.inl (by assumption) | exact Or.inr (Or.inl (by assumption)) | exact Or.inr (Or.inl (by omega)) | exact Or.inr (Or.inr (by omega)))⟩⟩⟩
          ·intro h42b
           have h42:=dT (Ai h42b)
           have h42c:(decide ((((D8 (((Lib.cut cj [10]).1)++([10]:List UInt8))).1.length:Nat):Int)=1))=true:=(Ai h42b)
           refine Aq<|Ad<|?_
           obtain ⟨y,hy1,hyok,hcy⟩:=Ait (c:=cj) (by assumption) (by omega) (by omega) (by omega)
           intro a F
           refine Vf [(.free,0),(.pure,1),(.free,2),(.free,3),(.pure,4),(.keep,5),(.chg,6),(.free,7),(.chg,8)] [6,8] (Keep Gq36 [.blk b1 [.int .u8 ((x.kind:Nat):Int),.int .i64 x.at_,.int .i64 x.count,.int .i64 x.to,.slice ar nr cr] 65]) rfl (by kernel_rfl) (fun c a d v w h=>by cases d <;> exact h) ((M.drew _).keep (Gle.refl _) (by simp)) ?_
           replace M:=M.drew (w.drawn+1)
           revert a
           refine k_f (fun a F w _=>Cm Bd.k rfl F rfl) rfl<|k_p (fun a F w M=>Ap (agf Bp rfl) (F.ev rfl) (M.cellL (k:=0) rfl rfl)) rfl<|k_f (fun a F w _=>Cg F rfl) rfl<|?_
           obtain ⟨be43,oe43,_,Ie43,_,Ae43,hTe43⟩:=Sq36.at (show (D8 ((Lib.cut cj [10]).1++[10])).1[0]?=some y by rw [hy1];rfl)
           obtain ⟨mae43,mce43,rfl,hke43,hte43,hxe43,hne43,SMe43⟩:=hTe43
           have hIe43:(y.key < 18446744073709551616∧y.typ < 256∧y.text.length≤9223372036854775807):=⟨hke43,hte43,hxe43⟩
           refine k_f (fun a F w _=>Ce Bp.k Bf (F.ev rfl) (F.ev rfl) (by omega) Ie43) rfl<|k_p (fun a F w M=>Ao Bf rfl (F.ev rfl) (cs:=[.int .u64 ((y.key:Nat):Int),.int .u8 ((y.typ:Nat):Int),.string (str y.text),.slice mae43 y.marks.length mce43]) rfl (M.cellsA Ae43 0 (by omega) rfl)) rfl<|k_k rfl<|fun a F=>?_
           refine Cv F M Bp.k Bf rfl rfl (cs:=[.int .u64 ((y.key:Nat):Int),.int .u8 ((y.typ:Nat):Int),.string (str y.text),.slice mae43 y.marks.length mce43]) rfl rfl (by simp [Value.oneCell']) (by decide) rfl ?_;clear F M a;intro v44 w a M F
           obtain ⟨av44,cv44,rfl,hlev44,hcmv44,hlv44⟩:=M.row_shape (k:=0) rfl
           revert a
           refine Aa<|eK (C':=Keep Gq36 [.blk b1 [.int .u8 ((x.kind:Nat):Int),.int .i64 x.at_,.int .i64 x.count,.int .i64 x.to,.slice ar nr cr] 65]) (M.keep (Gle.refl _) (by simp)) (fun w h=>h.mono (Gle.refl _) (by simp))<|?_
           have Eb:Els Co 4 Gq36 [.int .u64 ((y.key:Nat):Int),.int .u8 ((y.typ:Nat):Int),.string (str y.text),.slice mae43 y.marks.length mce43] [y]:=⟨[.int .u64 ((y.key:Nat):Int),.int .u8 ((y.typ:Nat):Int),.string (str y.text),.slice mae43 y.marks.length mce43],[],rfl,rfl,⟨mae43,mce43,rfl,hIe43.1,hIe43.2.1,hIe43.2.2,(by have h_:=SMe43.bound;omega),SMe43⟩,rfl⟩
           refine k_c rfl<|fun a F=>?_
           refine Ep F M (k:=2) (k2:=0) rfl rfl Bp.k Bf rfl rfl (by decide) rfl rfl (by show _ * 56≤_;(try simp only [List.length_drop,List.length_take,List.length_append,List.length_cons,List.length_nil]);omega) (by (try simp only [List.length_drop,List.length_take,List.length_append,List.length_cons,List.length_nil]);omega) rfl ?_;clear F M a;intro v45 w a M F
           have Ev45:=Els.append Er Eb
           obtain ⟨av45,cv45,rfl,hlev45,hcmv45,hlv45⟩:=M.row_shape (k:=2) rfl
           revert a
           refine Aa<|?_
           change Mem w0 Gq36 (.row (.slice av44 1 (cv44)) 1 ([.int .u64 ((y.key:Nat):Int),.int .u8 ((y.typ:Nat):Int),.string (str y.text),.slice mae43 y.marks.length mce43]) 26 4::.blk b [.string (str ((Lib.cut cj [10]).2.1)),.int .i64 (((((l+1+j)+1):Nat):Int))] 155::.row (.slice av45 (nr+1) (cv45)) (nr+1) (csr++([.int .u64 ((y.key:Nat):Int),.int .u8 ((y.typ:Nat):Int),.string (str y.text),.slice mae43 y.marks.length mce43])) 26 4::.blk b14 [.int .i64 ((p:Nat):Int)] 3::.blk b7 Hv 139::.blk b5 [.slice ap4 ((Bt ((Lib.cut c [10]).1)).length) ((Bt ((Lib.cut c [10]).1)).length)] 24::.blk b1 [.int .u8 ((x.kind:Nat):Int),.int .i64 x.at_,.int .i64 x.count,.int .i64 x.to,.slice ar nr cr] 65::L) _ at M
           intro a F
           refine ⟨Keep Gq36 [.row (.slice av44 1 (cv44)) 1 ([.int .u64 ((y.key:Nat):Int),.int .u8 ((y.typ:Nat):Int),.string (str y.text),.slice mae43 y.marks.length mce43]) 26 4,.blk b [.string (str ((Lib.cut cj [10]).2.1)),.int .i64 (((((l+1+j)+1):Nat):Int))] 155,.row (.slice av45 (nr+1) (cv45)) (nr+1) (csr++([.int .u64 ((y.key:Nat):Int),.int .u8 ((y.typ:Nat):Int),.string (str y.text),.slice mae43 y.marks.length mce43])) 26 4,.blk b14 [.int .i64 ((p:Nat):Int)] 3,.blk b7 Hv 139,.blk b5 [.slice ap4 ((Bt ((Lib.cut c [10]).1)).length) ((Bt ((Lib.cut c [10]).1)).length)] 24,.blk b1 [.int .u8 ((x.kind:Nat):Int),.int .i64 x.at_,.int .i64 x.count,.int .i64 x.to,.slice ar nr cr] 65],M.keep (Gle.refl _) (by simp),?_⟩
           revert a
           refine k_f (fun a F w _=>Cm Bd.k rfl F rfl) rfl<|k_c rfl<|Fp Bp M 6 rfl rfl rfl rfl rfl rfl<|?_;clear M;intro w M
           refine Aa<|?_
           change Mem w0 Gq36 (.row (.slice av44 1 (cv44)) 1 ([.int .u64 ((y.key:Nat):Int),.int .u8 ((y.typ:Nat):Int),.string (str y.text),.slice mae43 y.marks.length mce43]) 26 4::.blk b [.string (str ((Lib.cut cj [10]).2.1)),.int .i64 (((((l+1+j)+1):Nat):Int))] 155::.row (.slice av45 (nr+1) (cv45)) (nr+1) (csr++([.int .u64 ((y.key:Nat):Int),.int .u8 ((y.typ:Nat):Int),.string (str y.text),.slice mae43 y.marks.length mce43])) 26 4::.blk b14 [.int .i64 ((p:Nat):Int)] 3::.blk b7 Hv 139::.blk b5 [.slice ap4 ((Bt ((Lib.cut c [10]).1)).length) ((Bt ((Lib.cut c [10]).1)).length)] 24::.blk b1 [.int .u8 ((x.kind:Nat):Int),.int .i64 x.at_,.int .i64 x.count,.int .i64 x.to,.slice av45 (nr+1) (cv45)] 65::L) _ at M
           intro a F
           refine ⟨Keep Gq36 [.row (.slice av44 1 (cv44)) 1 ([.int .u64 ((y.key:Nat):Int),.int .u8 ((y.typ:Nat):Int),.string (str y.text),.slice mae43 y.marks.length mce43]) 26 4,.blk b [.string (str ((Lib.cut cj [10]).2.1)),.int .i64 (((((l+1+j)+1):Nat):Int))] 155,.row (.slice av45 (nr+1) (cv45)) (nr+1) (csr++([.int .u64 ((y.key:Nat):Int),.int .u8 ((y.typ:Nat):Int),.string (str y.text),.slice mae43 y.marks.length mce43])) 26 4,.blk b14 [.int .i64 ((p:Nat):Int)] 3,.blk b7 Hv 139,.blk b5 [.slice ap4 ((Bt ((Lib.cut c [10]).1)).length) ((Bt ((Lib.cut c [10]).1)).length)] 24,.blk b1 [.int .u8 ((x.kind:Nat):Int),.int .i64 x.at_,.int .i64 x.count,.int .i64 x.to,.slice av45 (nr+1) (cv45)] 65],M.keep (Gle.refl _) (by simp),?_⟩
           revert a
           refine D1<|C0<|Ad<|Ac<|B9 rfl rfl<|Ae rfl<|Aa<|Ad<|?_
           replace M:=M.perm (Am _ 6 _ rfl)
           replace M:=M.perm (Am _ 2 _ rfl)
           replace M:=M.perm (Am _ 6 _ rfl)
           replace M:=M.perm (Am _ 6 _ rfl)
           replace M:=M.perm (Am _ 6 _ rfl)
           replace M:=M.perm (Am _ 6 _ rfl)
           change Mem w0 Gq36 (_::_::_::_::_::.blk b1 [.int .u8 ((x.kind:Nat):Int),.int .i64 x.at_,.int .i64 x.count,.int .i64 x.to,.slice av45 (nr+1) (cv45)] 65::_::L) _ at M
           intro a F
           exact ⟨_,by omega,j+1,(ys++[y]),_,(av45),(nr+1),(cv45),csr++([.int .u64 ((y.key:Nat):Int),.int .u8 ((y.typ:Nat):Int),.string (str y.text),.slice mae43 y.marks.length mce43]),rfl,Gq36,(hG33.trans hGq36),F.to ⟨rfl,rfl,rfl,rfl,trivial⟩,(M.weaken (.cons_cons _ (.cons_cons _ (.cons_cons _ (.cons_cons _ (.cons_cons _ (.cons_cons _ (.cons _ (sR _))))))))),by omega,by rw [List.length_append];simp only [List.length_cons,List.length_nil];omega,Ahq hok hyok,by rw [hcj,Tw,List.append_assoc,← hcy],by omega,Ev45,by omega⟩
       ·intro h46b
        have h46:=dF h46b
        refine B5<|B0<|B0<|Dr<|Ad<|Ab<|?_
        obtain ⟨hnz47,Gz47,az47,cz47,hGz47,hez47,Sz47,M⟩:=M.freeze_row A3 (k:=0) rfl Er (by decide)
        clear hez47 az47 cz47
        replace HG:=HG.mono hGz47
        replace Sp4:=Sp4.mono Br hGz47
        replace Sq16:=Sq16.mono J3 hGz47
        intro a F
        rw [hnz47] at M Sz47
        change Mem w0 Gz47 (.blk b14 [.int .i64 ((p:Nat):Int)] 3::.blk b7 Hv 139::.blk b5 [.slice ap4 ((Bt ((Lib.cut c [10]).1)).length) ((Bt ((Lib.cut c [10]).1)).length)] 24::.blk b [.string (str cj),.int .i64 ((((l+1+j):Nat):Int))] 155::.blk b1 [.int .u8 ((x.kind:Nat):Int),.int .i64 x.at_,.int .i64 x.count,.int .i64 x.to,.slice ar ys.length cr] 65::L) _ at M
        revert a
        refine Ac<|A2 Bd.k rfl rfl<|Bi Bp M 4 rfl rfl rfl rfl<|Hx Ajz rfl rfl (U6 (xs:=ys) M Sz47 (by omega) (fun x hx=>by have:=(hok x hx).1.2.2.2.1;omega))<|?_;clear M;rintro _ Gq48 w hGq48 M ⟨aq48,rfl,Sq48⟩
        replace HG:=HG.mono hGq48
        replace Sp4:=Sp4.mono Br hGq48
        replace Sq16:=Sq16.mono J3 hGq48
        replace Sz47:=Sz47.mono A3 hGq48
        refine A2 Bd.k rfl rfl<|Fp Bp M 4 rfl rfl rfl rfl rfl rfl<|?_;clear M;intro w M
        refine Aa<|Ad<|Ab<|Ac<|Ar (fun a F=>Ao Bd rfl (F.ev rfl) (cs:=[.int .u8 ((x.kind:Nat):Int),.int .i64 x.at_,.int .i64 x.count,.int .i64 x.to,.slice aq48 ys.length ys.length]) rfl (M.cellsL (k:=4) rfl rfl)) rfl<|fun a F=>?_
        refine Av F M Bd (k:=4) rfl rfl rfl (us:=[.int .u8 ((x.kind:Nat):Int),.int .i64 x.at_,.int .i64 x.count,.int .i64 x.to,.slice aq48 ys.length ys.length]) rfl rfl (by simp [Value.oneCell']) (by simp) ?_;clear F M a;intro w a M F
        change Mem w0 Gq48 (_::_::_::_::.blk b1 [.int .u8 ((x.kind:Nat):Int),.int .i64 x.at_,.int .i64 x.count,.int .i64 x.to,.slice aq48 ys.length ys.length] 65::L) _ at M
        revert a
        refine Af rfl<|Aa<|Ad<|Ak<|fun a F=>Cj F M (k:=4) rfl rfl Bd rfl rfl rfl rfl ?_
        replace M:=M.perm (Am _ 3 _ rfl)
        change Mem w0 Gq48 (_::_::_::_::.blk b1 [.int .u8 ((x.kind:Nat):Int),.int .i64 x.at_,.int .i64 x.count,.int .i64 x.to,.slice aq48 ys.length ys.length] 65::L) _ at M
        exact ⟨_,_,((((hGp4.trans hGq16).trans hG33).trans hGz47).trans hGq48),M.weaken (.cons_cons _ (.cons _ (.cons _ (.cons _ (.cons _ (sR _)))))),x.kind,x.at_,x.count,x.to,aq48,ys.length,ys.length,true,_,_,rfl,rfl,by omega,by omega,Or.inl ⟨rfl,x,_,ys,hh,hok,by omega,by rw [← hcj];exact hcc,by omega,⟨aq48,ys.length,rfl,(by have:=hh.kd;show x.kind < 256;omega),hh.ra,hh.rc,hh.rt,(by show ys.length≤_;omega),Sq48⟩⟩⟩
end Go.Proofs.YtmmhmcplegpenaaGreatDoor
