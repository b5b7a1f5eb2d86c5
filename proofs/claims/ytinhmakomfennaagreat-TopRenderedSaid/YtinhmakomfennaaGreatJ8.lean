/- Own lemmas. -/
import Derived.Test.YtinhmakomfennaaGreatJ7
set_option linter.unusedSimpArgs false
set_option linter.unusedVariables false
set_option linter.unusedSectionVars false
namespace Go.V.D
theorem Lx {α:Type} {p q:α→Bool}:∀ {l:List α},(∀ x,x∈l→p x=q x)→l.filter p=l.filter q
 | [],_=>rfl
 | a::l,h=>by
  rw [List.filter_cons,List.filter_cons,h a (List.mem_cons_self ..),Lx fun x hx=>h x (List.mem_cons_of_mem _ hx)]
def ixI (v:Int):List Int→Nat
 | []=>0
 | x::l=>if x=v then 0 else ixI v l+1
theorem Awe (v:Int):∀ l:List Int,ixI v l≤l.length
 | []=>Nat.le_refl _
 | x::l=>by unfold ixI;split <;> simp [Awe v l]
theorem ixI_at {v:Int}:∀ {l:List Int},v∈l→l[ixI v l]?=some v
 | x::l,h=>by
  unfold ixI;split
  ·rename_i e;rw [e];rfl
  ·rename_i e;rw [List.getElem?_cons_succ];exact ixI_at ((List.mem_cons.1 h).resolve_left fun e2=>e e2.symm)
theorem split_at {v:Int}:∀ {l:List Int},v∈l→l=l.take (ixI v l)++v::l.drop (ixI v l+1)
 | x::l,h=>by
  unfold ixI;split
  ·rename_i e;rw [e];rfl
  ·rename_i e;have:=split_at ((List.mem_cons.1 h).resolve_left fun e2=>e e2.symm);rw [List.take_succ_cons,List.drop_succ_cons,List.cons_append,← this]
def insI (l:List Int) (k:Nat) (v:Int):List Int:=l.take k++v::l.drop k
def delI {α:Type} (l:List α) (k:Nat):List α:=l.take k++l.drop (k+1)
theorem Qc {v:Int}:∀ {a b c d:List Int},(a++v::b).Nodup→a++v::b=c++v::d→a=c∧b=d
 | [],b,[],d,_,e=>by simpa using e
 | [],b,x::c,d,n,e=>by
  simp only [List.nil_append,List.cons_append,List.cons.injEq] at e;obtain ⟨rfl,rfl⟩:=e;simp at n
 | x::a,b,[],d,n,e=>by
  simp only [List.nil_append,List.cons_append,List.cons.injEq] at e;obtain ⟨rfl,rfl⟩:=e;simp at n
 | x::a,b,y::c,d,n,e=>by
  simp only [List.cons_append,List.cons.injEq] at e;obtain ⟨rfl,e⟩:=e;obtain ⟨rfl,rfl⟩:=Qc (by simpa using (List.nodup_cons.1 n).2) e;exact ⟨rfl,rfl⟩
theorem Ayi:∀ {a b:List Int},a.Pairwise (· < ·)→b.Pairwise (· < ·)→(∀ x,x∈a↔x∈b)→a=b
 | [],[],_,_,_=>rfl
 | [],y::b,_,_,h=>absurd ((h y).2 (List.mem_cons_self ..)) (by simp)
 | x::a,[],_,_,h=>absurd ((h x).1 (List.mem_cons_self ..)) (by simp)
 | x::a,y::b,ha,hb,h=>by
  rw [List.pairwise_cons] at ha hb;have e:x=y:=by
   rcases List.mem_cons.1 ((h x).1 (List.mem_cons_self ..)) with e | e
   ·exact e
   ·rcases List.mem_cons.1 ((h y).2 (List.mem_cons_self ..)) with e2 | e2
    ·exact e2.symm
    ·have:=hb.1 x e;have:=ha.1 y e2;omega
  subst e;rw [Ayi ha.2 hb.2 fun z=>?_];have:=h z;simp only [List.mem_cons] at this;constructor
  ·intro hz;rcases this.1 (Or.inr hz) with e | e
   ·have:=ha.1 z hz;omega
   ·exact e
  ·intro hz;rcases this.2 (Or.inr hz) with e | e
   ·have:=hb.1 z hz;omega
   ·exact e
section
variable (ms:List Int) (st:List Bool)
def tok (i:Nat):Int:=if 0≤ms.getD i (-1) then ms.getD i (-1) else -1 - (i:Int)
def stB' (k:Nat):Bool:=st.getD k false
def stl (i:Nat):List Int:=((List.range' i (ms.length - i)).filter (stB' st)).map (tok ms)
def Ii (i:Nat):List Int:=(List.range i).map (tok ms)
def ahd (i:Nat) (l:List Int):Nat:=match stl ms st (i+1) with
 | []=>l.length
 | v::_=>ixI v l
structure StOK:Prop where
 inj:∀ i k,i < ms.length→k < ms.length→0≤ms.getD i (-1)→ms.getD i (-1)=ms.getD k (-1)→i=k
 keep:∀ i,i < ms.length→stB' st i=true→0≤ms.getD i (-1)
 asc:(stl ms st 0).Pairwise (· < ·)
structure Ord (i:Nat) (l:List Int):Prop where
 nd:l.Nodup
 mem:∀ v,v∈l↔∃ k,k < ms.length∧v=tok ms k∧(k < i∨0≤ms.getD k (-1))
 flt:∀ p:Int→Bool,(∀ v,p v=true↔v∈Ii ms i∨v∈stl ms st i)→l.filter p=Ii ms i++stl ms st i
variable {ms st}
theorem Hc (h:StOK ms st) {i k:Nat} (z:i < ms.length) (D:k < ms.length) (e:tok ms i=tok ms k):i=k:=by
 unfold tok at e;split at e <;> split at e
 ·exact h.inj i k z D tA e
 ·omega
 ·omega
 ·omega
theorem stl_step {i:Nat} (z:i < ms.length):stl ms st i=(if stB' st i then [tok ms i] else [])++stl ms st (i+1):=by
 unfold stl;rw [show ms.length - i=(ms.length - (i+1))+1 by omega,List.range'_succ,List.filter_cons];split <;> simp
theorem stl_end {i:Nat} (z:ms.length≤i):stl ms st i=[]:=by
 unfold stl;rw [show ms.length - i=0 by omega];rfl
theorem J7 {i:Nat}:Ii ms (i+1)=Ii ms i++[tok ms i]:=by
 unfold Ii;rw [List.range_succ,List.map_append];rfl
theorem Ahc {i:Nat} {v:Int}:v∈stl ms st i↔∃ k,i≤k∧k < ms.length∧stB' st k=true∧v=tok ms k:=by
 unfold stl;simp only [List.mem_map,List.mem_filter,List.mem_range'_1];constructor
 ·rintro ⟨k,⟨⟨a,b⟩,c⟩,rfl⟩;exact ⟨k,a,tM,c,rfl⟩
 ·rintro ⟨k,a,b,c,rfl⟩;exact ⟨k,⟨⟨a,tM⟩,c⟩,rfl⟩
theorem Q6 {i:Nat} {v:Int}:v∈Ii ms i↔∃ k,k < i∧v=tok ms k:=by
 unfold Ii;simp only [List.mem_map,List.mem_range];constructor
 ·rintro ⟨k,a,rfl⟩;exact ⟨k,a,rfl⟩
 ·rintro ⟨k,a,rfl⟩;exact ⟨k,a,rfl⟩
theorem Ord.keep (H:StOK ms st) {i:Nat} {l:List Int} (o:Ord ms st i l) (z:i < ms.length) (hs:stB' st i=true):Ord ms st (i+1) l:=by
 have D:=H.keep i z hs;refine ⟨o.nd,fun v=>?_,fun p E=>?_⟩
 ·rw [o.mem];constructor
  ·rintro ⟨k,a,b,c⟩;exact ⟨k,a,b,c.imp tM id⟩
  ·rintro ⟨k,a,b,c⟩;refine ⟨k,a,b,?_⟩;rcases c with c | c
   ·rcases Nat.lt_or_ge k i with h | h
    ·exact Or.inl h
    ·have:k=i:=tM;rw [this];exact Or.inr D
   ·exact Or.inr c
 ·have e:stl ms st i=tok ms i::stl ms st (i+1):=by rw [stl_step z,if_pos hs];rfl
  rw [o.flt p fun v=>?_,J7,e]
  ·simp
  ·rw [E,J7,e];simp only [List.mem_append,List.mem_cons,List.not_mem_nil,or_false];constructor
   ·rintro ((h | h) | h)
    ·exact Or.inl h
    ·exact Or.inr (Or.inl h)
    ·exact Or.inr (Or.inr h)
   ·rintro (h | h | h)
    ·exact Or.inl (Or.inl h)
    ·exact Or.inl (Or.inr h)
    ·exact Or.inr h
theorem Ord.ins (H:StOK ms st) {i:Nat} {l l':List Int} (o:Ord ms st i l) (E:i < ms.length) (hs:stB' st i=false) (hl:l' = l∧ms.getD i (-1) < 0∨l' = delI l (ixI (tok ms i) l)∧0≤ms.getD i (-1)) :
  ahd ms st i l'≤l'.length∧Ord ms st (i+1) (insI l' (ahd ms st i l') (tok ms i)):=by
 have e:stl ms st i=stl ms st (i+1):=by rw [stl_step E,if_neg (by rw [hs];exact Bool.false_ne_true)];rfl
 have ht:tok ms i ∉ l'∧l'.Nodup∧(∀ v,v∈l'↔v∈l∧v≠tok ms i)∧(∀ p:Int→Bool,p (tok ms i)=false→l'.filter p=l.filter p):=by
  rcases hl with ⟨rfl,hm⟩ | ⟨rfl,hm⟩
  ·have J:tok ms i ∉ l':=by
    rw [o.mem];rintro ⟨k,a,b,c⟩;have:=Hc H E a b;subst this;omega
   exact ⟨J,o.nd,fun v=>⟨fun h=>⟨h,fun e=>J (e ▸ h)⟩,fun h=>h.1⟩,fun _ _=>rfl⟩
  ·have af:tok ms i∈l:=(o.mem _).2 ⟨i,E,rfl,Or.inr hm⟩;have D:=split_at af;have z:=o.nd;rw [D,List.nodup_append,List.nodup_cons] at z;have J:tok ms i ∉ delI l (ixI (tok ms i) l):=by
    unfold delI;rw [List.mem_append];rintro (h | h)
    ·exact z.2.2 _ h _ (List.mem_cons_self ..) rfl
    ·exact z.2.1.1 h
   refine ⟨J,?_,fun v=>?_,fun p hp=>?_⟩
   ·unfold delI;rw [List.nodup_append];exact ⟨z.1,z.2.1.2,fun a ha b Y=>z.2.2 a ha b (List.mem_cons_of_mem _ Y)⟩
   ·constructor
    ·intro h;refine ⟨?_,fun e=>J (e ▸ h)⟩;rw [D];unfold delI at h;simp only [List.mem_append,List.mem_cons] at h ⊢;exact h.imp id Or.inr
    ·rintro ⟨h,ah⟩;rw [D] at h;unfold delI;simp only [List.mem_append,List.mem_cons] at h ⊢;rcases h with h | h | h
     ·exact Or.inl h
     ·exact absurd h ah
     ·exact Or.inr h
   ·conv=>rhs;rw [D]
    unfold delI;rw [List.filter_append,List.filter_append,List.filter_cons,if_neg (by rw [hp];exact Bool.false_ne_true)]
 obtain ⟨J,z,I,Z⟩:=ht;have ag:ahd ms st i l'≤l'.length:=by
  unfold ahd;split
  ·exact Nat.le_refl _
  ·exact Awe _ _
 refine ⟨ag,?_,fun v=>?_,fun p hp=>?_⟩
 ·unfold insI;have h0:=z;rw [← List.take_append_drop (ahd ms st i l') l',List.nodup_append] at h0;have O:=J;rw [← List.take_append_drop (ahd ms st i l') l',List.mem_append] at O;rw [List.nodup_append,List.nodup_cons];refine ⟨h0.1,⟨fun h=>O (Or.inr h),h0.2.1⟩,fun a ha b Y=>?_⟩;rcases List.mem_cons.1 Y with rfl | Y
  ·exact fun e=>O (Or.inl (e ▸ ha))
  ·exact h0.2.2 a ha b Y
 ·have:v∈insI l' (ahd ms st i l') (tok ms i)↔v=tok ms i∨v∈l':=by
   unfold insI
   conv=>rhs;rw [← List.take_append_drop (ahd ms st i l') l']
   simp only [List.mem_append,List.mem_cons];constructor
   ·rintro (h | h | h)
    ·exact Or.inr (Or.inl h)
    ·exact Or.inl h
    ·exact Or.inr (Or.inr h)
   ·rintro (h | h | h)
    ·exact Or.inr (Or.inl h)
    ·exact Or.inl h
    ·exact Or.inr (Or.inr h)
  rw [this,I,o.mem];constructor
  ·rintro (h | ⟨⟨k,a,b,c⟩,h⟩)
   ·exact ⟨i,E,h,Or.inl (Nat.lt_succ_self i)⟩
   ·exact ⟨k,a,b,c.imp tM id⟩
  ·rintro ⟨k,a,b,c⟩;rcases Nat.lt_trichotomy k i with h | h | h
   ·exact Or.inr ⟨⟨k,a,b,Or.inl h⟩,fun e=>by
     have:=Hc H a E (b ▸ e);omega⟩
   ·subst h;exact Or.inl b
   ·exact Or.inr ⟨⟨k,a,b,c.imp tM id⟩,fun e=>by
     have:=Hc H a E (b ▸ e);omega⟩
 ·-- the order of those that are right
  have ai:p (tok ms i)=true:=(hp _).2 (Or.inl (Q6.2 ⟨i,Nat.lt_succ_self i,rfl⟩));have aj:tok ms i ∉ Ii ms i:=fun h=>by
   obtain ⟨k,a,b⟩:=Q6.1 h;have:=Hc H E (by omega:k < ms.length) b;omega
  have ak:∀ k,i < k→tok ms i ∉ stl ms st k:=fun k hk h=>by
   obtain ⟨j,a,b,c,d⟩:=Ahc.1 h;have:=Hc H E b d;omega
  have ac:tok ms i ∉ stl ms st i:=by rw [e];exact ak _ (Nat.lt_succ_self i)
  have hq:l'.filter p=Ii ms i++stl ms st (i+1):=by
   have U:l'.filter p=l'.filter fun v=>p v && decide (v≠tok ms i):=Lx fun x hx=>by
    have:x≠tok ms i:=((I x).1 hx).2;simp [this]
   rw [U,Z _ (by simp),o.flt _ fun v=>?_,e];simp only [Bool.and_eq_true,decide_eq_true_eq,hp,J7,List.mem_append,List.mem_singleton];constructor
   ·rintro ⟨(h | h) | h,h2⟩
    ·exact Or.inl h
    ·exact absurd h h2
    ·exact Or.inr (e ▸ h)
   ·rintro (h | h)
    ·exact ⟨Or.inl (Or.inl h),fun e2=>aj (e2 ▸ h)⟩
    ·exact ⟨Or.inr (e ▸ h),fun e2=>ac (e2 ▸ h)⟩
  rw [J7];unfold insI;rw [List.filter_append,List.filter_cons,if_pos ai];unfold ahd;cases hst:stl ms st (i+1) with
  | nil =>
   rw [hst] at hq;simp only;rw [List.take_length,List.drop_length,hq,List.filter_nil,List.append_nil,List.append_nil]
  | cons v r =>
   simp only;have hv:p v=true:=(hp v).2 (Or.inr (by rw [hst];exact List.mem_cons_self ..));have am:v∈l':=by
    have:v∈l'.filter p:=by rw [hq,hst];simp
    exact (List.mem_filter.1 this).1
   have D:=split_at am;have ae:l'.drop (ixI v l')=v::l'.drop (ixI v l' + 1):=by
    have U:l'.take (ixI v l')++l'.drop (ixI v l')=l'.take (ixI v l')++v::l'.drop (ixI v l' + 1):=by rw [List.take_append_drop];exact D
    exact List.append_cancel_left U
   have ab:(l'.take (ixI v l')).filter p++v::(l'.drop (ixI v l' + 1)).filter p=Ii ms i++v::r:=by
    rw [← hst,← hq]
    conv=>rhs;rw [D]
    rw [List.filter_append,List.filter_cons,if_pos hv]
   have aa:((l'.take (ixI v l')).filter p++v::(l'.drop (ixI v l' + 1)).filter p).Nodup:=by
    rw [ab,← hst,← hq];exact z.filter p
   obtain ⟨U,h2⟩:=Qc aa ab;rw [U,ae,List.filter_cons,if_pos hv,h2];simp
theorem Ord.fin {l:List Int} (o:Ord ms st ms.length l):l=Ii ms ms.length:=by
 have D:l.filter (fun _=>true)=l:=List.filter_eq_self.2 fun _ _=>rfl;have z:=o.flt (fun v=>decide (v∈Ii ms ms.length)) fun v=>by
  rw [stl_end (Nat.le_refl _)];simp
 rw [stl_end (Nat.le_refl _),List.append_nil] at z;rw [← z,← D]
 conv=>rhs;rw [List.filter_filter]
 refine Lx fun v E=>?_;obtain ⟨k,a,b,_⟩:=(o.mem v).1 E;simp only [Bool.and_true];exact (decide_eq_true (Q6.2 ⟨k,a,b⟩)).symm
theorem Ord.init (H:StOK ms st) {n:Nat} (U:∀ i,i < ms.length→ms.getD i (-1) < n) (Z:∀ i,i < ms.length→-1≤ms.getD i (-1)) :
  Ord ms st 0 (((List.range n).map fun (j:Nat)=>(j:Int)).filter fun v=>decide (v∈ms)):=by
 have z:(((List.range n).map fun (j:Nat)=>(j:Int)).filter fun v=>decide (v∈ms)).Pairwise (· < ·):=by
  refine List.Pairwise.filter _ ?_;rw [List.pairwise_map];exact List.pairwise_lt_range.imp fun h=>by omega
 have D:∀ v,v∈(((List.range n).map fun (j:Nat)=>(j:Int)).filter fun v=>decide (v∈ms))↔∃ k,k < ms.length∧v=tok ms k∧(k < 0∨0≤ms.getD k (-1)):=by
  intro v;rw [List.mem_filter,List.mem_map];constructor
  ·rintro ⟨⟨j,a,rfl⟩,b⟩;have b:(j:Int)∈ms:=by simpa using b
   obtain ⟨k,I,e⟩:=List.mem_iff_getElem.1 b;have J:ms.getD k (-1)=(j:Int):=by rw [List.getD_eq_getElem?_getD,List.getElem?_eq_getElem I,e];rfl
   refine ⟨k,I,?_,Or.inr tM⟩;unfold tok;rw [J,if_pos tM]
  ·rintro ⟨k,a,b,c⟩;have c:0≤ms.getD k (-1):=c.resolve_left tM;have b:v=ms.getD k (-1):=by rw [b,tok,if_pos c]
   have O:ms.getD k (-1)=ms[k]:=by rw [List.getD_eq_getElem?_getD,List.getElem?_eq_getElem a];rfl
   have:=U k a;refine ⟨⟨v.toNat,by rw [List.mem_range];omega,tM⟩,?_⟩;rw [b,O];simp
 refine ⟨z.imp fun h=>by omega,D,fun p Y=>?_⟩;have E:Ii ms 0=[]:=rfl;rw [E,List.nil_append];refine Ayi (z.filter p) H.asc fun v=>?_;rw [List.mem_filter,Y,E];constructor
 ·rintro ⟨_,h⟩;exact h.resolve_left (by simp)
 ·intro h;refine ⟨(D v).2 ?_,Or.inr h⟩;obtain ⟨k,a,b,c,d⟩:=Ahc.1 h;exact ⟨k,b,d,Or.inr (H.keep k b c)⟩
end
abbrev Str:=List UInt8
abbrev Als:=List (Str × Str)
inductive Sp where
 | drop (n:Str)
 | set (n v:Str)
 | txt (v:Str)
 | free (k:Nat)
 | mnt (k:Nat) (t:T)
 | mov (k j:Nat)
def difA (lt:Str→Str→Bool):Als→Als→List Sp
 | [],r=>r.map fun a=>.set a.1 a.2
 | (a,v)::l,r=>difR lt a v (difA lt l) r
where difR (lt:Str→Str→Bool) (a v:Str) (k:Als→List Sp):Als→List Sp
 | []=>.drop a::k []
 | (b,w)::r=>if lt a b then .drop a::k ((b,w)::r) else if a=b then (if v=w then k r else .set b w::k r) else .set b w::difR lt a v k r
def setA (lt:Str→Str→Bool) (n v:Str):Als→Als
 | []=>[(n,v)]
 | (a,w)::l=>if lt a n then (a,w)::setA lt n v l else if a=n then (n,v)::l else (n,v)::(a,w)::l
def drpA (n:Str) (l:Als):Als:=l.filter fun a=>decide (a.1≠n)
inductive EdR (lt:Str→Str→Bool) (b:Nat):Als→List Sp→Als→Prop
 | nil {l}:EdR lt b l [] l
 | drop {l n r l'}:n∈l.map (·.1)→EdR lt b (drpA n l) r l'→EdR lt b l (.drop n::r) l'
 | set {l n v r l'}:(setA lt n v l).length≤b→EdR lt b (setA lt n v l) r l'→EdR lt b l (.set n v::r) l'
def AscA (lt:Str→Str→Bool) (l:Als):Prop:=l.Pairwise fun a b=>lt a.1 b.1=true
section
variable {lt:Str→Str→Bool} (irr:∀ a,lt a a=false) (tr:∀ {a b c},lt a b=true→lt b c=true→lt a c=true) (tot:∀ a b,lt a b=true∨a=b∨lt b a=true)
include irr tr
theorem setA_app {n v:Str}:∀ {l r:Als},(∀ a,a∈l→lt a.1 n=true)→setA lt n v (l++r)=l++setA lt n v r
 | [],r,_=>rfl
 | (a,w)::l,r,h=>by
  rw [List.cons_append,setA,if_pos (h (a,w) (List.mem_cons_self ..)),setA_app fun x hx=>h x (List.mem_cons_of_mem _ hx)];rfl
theorem Aah {a b:Str} (h:lt a b=true):a≠b:=fun e=>by rw [e,irr] at h;cases h
theorem Aba {n v:Str} {l r:Als} (D:∀ a,a∈l→lt a.1 n=true) (E:∀ a,a∈r→lt n a.1=true):drpA n (l++(n,v)::r)=l++r:=by
 unfold drpA;rw [List.filter_append,List.filter_cons,if_neg (by simp),List.filter_eq_self.2,List.filter_eq_self.2]
 ·intro a z;have:=Aah irr tr (E a z);simp [Ne.symm this]
 ·intro a z;have:=Aah irr tr (D a z);simp [this]
theorem Aiy {b:Nat}:∀ (r d:Als),AscA lt (d++r)→d.length+r.length≤b→EdR lt b d (difA lt [] r) (d++r)
 | [],d,_,_=>by rw [List.append_nil];exact .nil
 | (n,v)::r,d,hr,hb=>by
  have hd:∀ a,a∈d→lt a.1 n=true:=fun a ha=>(List.pairwise_append.1 hr).2.2 a ha _ (List.mem_cons_self ..);have e:setA lt n v d=d++[(n,v)]:=by have:=setA_app irr tr (v:=v) (r:=[]) hd;rw [List.append_nil] at this;exact this
  simp only [List.length_cons] at hb;refine .set (by rw [e,List.length_append,List.length_singleton];omega) ?_;rw [e];have:=Aiy (b:=b) r (d++[(n,v)]) (by rw [List.append_assoc];exact hr) (by simp only [List.length_append,List.length_singleton];omega);rw [List.append_assoc] at this;exact this
include tot
theorem Mu {b:Nat}:∀ (l r d:Als),AscA lt (d++l)→AscA lt (d++r)→d.length+l.length+r.length≤b→EdR lt b (d++l) (difA lt l r) (d++r)
 | [],r,d,_,hr,hb=>by
  rw [List.append_nil];exact Aiy irr tr r d hr (by simpa using hb)
 | (a,v)::l,[],d,hl,hr,hb=>by
  have hd:∀ x,x∈d→lt x.1 a=true:=fun x hx=>(List.pairwise_append.1 hl).2.2 x hx _ (List.mem_cons_self ..);have hl2:=(List.pairwise_append.1 hl);have hl3:AscA lt (d++l):=List.pairwise_append.2 ⟨hl2.1,(List.pairwise_cons.1 hl2.2.1).2,fun x hx y hy=>hl2.2.2 x hx y (List.mem_cons_of_mem _ hy)⟩;refine .drop (by simp) ?_;rw [Aba irr tr hd (List.pairwise_cons.1 hl2.2.1).1];exact Mu l [] d hl3 hr (by simp only [List.length_cons] at hb ⊢;omega)
 | (a,v)::l,(c,w)::r,d,hl,hr,hb=>by
  have hd:∀ x,x∈d→lt x.1 a=true:=fun x hx=>(List.pairwise_append.1 hl).2.2 x hx _ (List.mem_cons_self ..);have hd':∀ x,x∈d→lt x.1 c=true:=fun x hx=>(List.pairwise_append.1 hr).2.2 x hx _ (List.mem_cons_self ..);have hl2:=(List.pairwise_append.1 hl);have hr2:=(List.pairwise_append.1 hr);have hla:=(List.pairwise_cons.1 hl2.2.1);have hra:=(List.pairwise_cons.1 hr2.2.1);have hl3:AscA lt (d++l):=List.pairwise_append.2 ⟨hl2.1,hla.2,fun x hx y hy=>hl2.2.2 x hx y (List.mem_cons_of_mem _ hy)⟩;simp only [List.length_cons] at hb;show EdR lt b _ (if lt a c then _ else _) _;split
  ·rename_i h;refine .drop (by simp) ?_;rw [Aba irr tr hd hla.1];exact Mu l ((c,w)::r) d hl3 hr (by simp only [List.length_cons];omega)
  ·rename_i h;split
   ·rename_i e;subst e;have hl4:∀ w,AscA lt (d++[(a,w)]++l):=fun w=>by
     rw [List.append_assoc];refine List.pairwise_append.2 ⟨hl2.1,List.pairwise_cons.2 ⟨hla.1,hla.2⟩,fun x hx y hy=>?_⟩;rcases List.mem_cons.1 hy with rfl | hy
     ·exact hd x hx
     ·exact hl2.2.2 x hx y (List.mem_cons_of_mem _ hy)
    have key:EdR lt b (d++(a,w)::l) (difA lt l r) (d++(a,w)::r):=by
     have:=Mu (b:=b) l r (d++[(a,w)]) (hl4 w) (by rw [List.append_assoc];exact hr) (by simp only [List.length_append,List.length_singleton];omega);rw [List.append_assoc,List.append_assoc] at this;exact this
    split
    ·rename_i e;subst e;exact key
    ·refine .set ?_ ?_
     ·rw [setA_app irr tr hd,setA,if_neg (by rw [irr];exact Bool.false_ne_true),if_pos rfl];simp only [List.length_append,List.length_cons];omega
     ·rw [setA_app irr tr hd,setA,if_neg (by rw [irr];exact Bool.false_ne_true),if_pos rfl];exact key
   ·rename_i e;have hca:lt c a=true:=by
     rcases tot a c with t | t | t
     ·exact absurd t h
     ·exact absurd t e
     ·exact t
    have es:setA lt c w (d++(a,v)::l)=d++[(c,w)]++(a,v)::l:=by
     rw [setA_app irr tr hd',setA,if_neg h,if_neg e,List.append_assoc];rfl
    have hl5:AscA lt (d++[(c,w)]++(a,v)::l):=by
     rw [List.append_assoc];refine List.pairwise_append.2 ⟨hl2.1,List.pairwise_cons.2 ⟨fun x hx=>?_,hl2.2.1⟩,fun x hx y hy=>?_⟩
     ·rcases List.mem_cons.1 hx with rfl | hx
      ·exact hca
      ·exact tr hca (hla.1 x hx)
     ·rcases List.mem_cons.1 hy with rfl | hy
      ·exact hd' x hx
      ·exact hl2.2.2 x hx y hy
    refine .set (by rw [es];simp only [List.length_append,List.length_cons,List.length_nil];omega) ?_;rw [es];have:=Mu (b:=b) ((a,v)::l) r (d++[(c,w)]) hl5 (by rw [List.append_assoc];exact hr) (by simp only [List.length_append,List.length_cons,List.length_nil];omega);rw [List.append_assoc d [(c,w)] r] at this;exact this
termination_by l r=>l.length+r.length
end
structure Hd where
 ix:Nat
 gen:Nat
deriving DecidableEq
structure Nd where
 kind:Nat
 tag:Str
 attrs:Als
 text:Str
 par:Option Hd
 ch:List Hd
abbrev M:=Hd→Option Nd
inductive HT where
 | nd (x:Hd) (ch:List HT)
def HT.x:HT→Hd | .nd x _=>x
def HT.ch:HT→List HT | .nd _ l=>l
mutual
def HT.all:HT→List Hd
 | .nd x l=>x::HT.alls l
def HT.alls:List HT→List Hd
 | []=>[]
 | t::l=>t.all++HT.alls l
end
mutual
def R (m:M) (par:Option Hd):HT→T→Prop
 | .nd x hs,.nd kd tg ky tx al ch=>m x=some ⟨kd,tg,al,tx,par,hs.map HT.x⟩∧Rs m x hs ch
def Rs (m:M) (x:Hd):List HT→List T→Prop
 | [],[]=>True
 | h::hs,t::ts=>R m (some x) h t∧Rs m x hs ts
 | _,_=>False
end
theorem HT.x_mem:∀ h:HT,h.x∈h.all
 | .nd x l=>by rw [HT.all];exact List.mem_cons_self ..
theorem HT.alls_eq:∀ l:List HT,HT.alls l=l.flatMap HT.all
 | []=>rfl
 | t::l=>by rw [HT.alls,HT.alls_eq l];rfl
theorem R.x {m:M} {par:Option Hd}:∀ {h:HT} {t:T},R m par h t→m h.x=some ⟨t.kind,t.tag,t.attrs,t.text,par,h.ch.map HT.x⟩∧Rs m h.x h.ch t.ch
 | .nd x hs,.nd kd tg ky tx al ch,r=>r
theorem R.mk {m:M} {z:Option Hd} {x:Hd} {hs:List HT} {t:T} (a:m x=some ⟨t.kind,t.tag,t.attrs,t.text,z,hs.map HT.x⟩) (b:Rs m x hs t.ch):R m z (.nd x hs) t:=by
 cases t with
 | nd kd tg ky tx al ch=>exact ⟨a,b⟩
theorem Rs.len {m:M} {x:Hd}:∀ {hs:List HT} {ts:List T},Rs m x hs ts→hs.length=ts.length
 | [],[],_=>rfl
 | h::hs,t::ts,r=>by rw [List.length_cons,List.length_cons,Rs.len r.2]
theorem Rs.get {m:M} {x:Hd}:∀ {hs:List HT} {ts:List T},Rs m x hs ts→∀ {j:Nat} {t:T},ts[j]?=some t→∃ h,hs[j]?=some h∧R m (some x) h t
 | [],[],_,_,_,e=>by simp at e
 | h::hs,t::ts,r,0,_,e=>by cases e;exact ⟨h,rfl,r.1⟩
 | h::hs,t::ts,r,j+1,t',e=>by
  rw [List.getElem?_cons_succ] at e ⊢;exact Rs.get r.2 e
theorem Rs.of {m:M} {x:Hd} {α:Type} {f:α→HT} {g:α→T}:∀ {l:List α},(∀ e,e∈l→R m (some x) (f e) (g e))→Rs m x (l.map f) (l.map g)
 | [],_=>trivial
 | e::l,h=>⟨h e (List.mem_cons_self ..),Rs.of fun e he=>h e (List.mem_cons_of_mem _ he)⟩
mutual
theorem R.live {m:M} {par:Option Hd}:∀ {h:HT} {t:T},R m par h t→∀ k,k∈h.all→m k≠none
 | .nd x hs,.nd kd tg ky tx al ch,r,k,hk=>by
  rw [HT.all] at hk;rcases List.mem_cons.1 hk with rfl | hk
  ·rw [r.1];exact Option.some_ne_none _
  ·exact Rs.live r.2 k hk
theorem Rs.live {m:M} {x:Hd}:∀ {hs:List HT} {ts:List T},Rs m x hs ts→∀ k,k∈HT.alls hs→m k≠none
 | [],[],_,k,hk=>by rw [HT.alls] at hk;cases hk
 | h::hs,t::ts,r,k,hk=>by
  rw [HT.alls,List.mem_append] at hk;rcases hk with hk | hk
  ·exact R.live r.1 k hk
  ·exact Rs.live r.2 k hk
end
mutual
theorem R.frame {m m':M} {par:Option Hd}:∀ {h:HT} {t:T},R m par h t→(∀ k,k∈h.all→m' k=m k)→R m' par h t
 | .nd x hs,.nd kd tg ky tx al ch,r,f=>by
  rw [HT.all] at f;exact ⟨(f x (List.mem_cons_self ..)).trans r.1,Rs.frame r.2 fun k hk=>f k (List.mem_cons_of_mem _ hk)⟩
theorem Rs.frame {m m':M} {x:Hd}:∀ {hs:List HT} {ts:List T},Rs m x hs ts→(∀ k,k∈HT.alls hs→m' k=m k)→Rs m' x hs ts
 | [],[],_,_=>trivial
 | h::hs,t::ts,r,f=>by
  rw [HT.alls] at f;exact ⟨R.frame r.1 fun k hk=>f k (List.mem_append_left _ hk),Rs.frame r.2 fun k hk=>f k (List.mem_append_right _ hk)⟩
end
def M.up (m:M) (x:Hd) (n:Nd):M:=fun k=>if k=x then some n else m k
def Pt (m:M):Hd→List Nat→Hd→Prop
 | r,[],h=>h=r
 | r,i::p,h=>∃ nd c,m r=some nd∧nd.ch[i]?=some c∧Pt m c p h
inductive Up (m:M):Nat→Hd→Prop
 | root {h nd}:m h=some nd→nd.par=none→Up m 0 h
 | step {n h nd p}:m h=some nd→nd.par=some p→Up m n p→Up m (n+1) h
structure Val where
 lt:Str→Str→Bool
 nm:Str→Prop
 tx:Str→Prop
 tr:T→Prop
def Val.al (V:Val) (l:Als):Prop:=AscA V.lt l∧(∀ a,a∈l→V.nm a.1∧V.tx a.2)∧l.length≤8
structure Val.OK (V:Val):Prop where
 irr:∀ a,V.lt a a=false
 trans:∀ {a b c},V.lt a b=true→V.lt b c=true→V.lt a c=true
 tot:∀ a b,V.lt a b=true∨a=b∨V.lt b a=true
 ch:∀ {t c},V.tr t→c∈t.ch→V.tr c
 words:∀ {t},V.tr t→t.kind=2→t.attrs=[]∧t.ch=[]∧V.tx t.text
 elem:∀ {t},V.tr t→t.kind≠2→t.kind=1∧t.text=[]
 at':∀ {t},V.tr t→AscA V.lt t.attrs∧(∀ a,a∈t.attrs→V.nm a.1∧V.tx a.2)∧t.attrs.length≤4
def insH (l:List Hd) (k:Nat) (v:Hd):List Hd:=l.take k++v::l.drop k
structure Mtd (m:M) (h:Hd) (nd:Nd) (k:Nat) (t:T) (ht:HT) (m':M):Prop where
 r:R m' (some h) ht t
 nd':ht.all.Nodup
 fresh:∀ x,x∈ht.all→m x=none
 at':m' h=some { nd with ch:=insH nd.ch k ht.x }
 same:∀ x,x ∉ ht.all→x≠h→m' x=m x
def Act (V:Val) (m:M) (h:Hd) (s:Sp) (Q:M→Prop):Prop:=∃ nd,m h=some nd∧match s with
 | .drop n=>nd.kind=1∧V.al nd.attrs∧n∈nd.attrs.map (·.1)∧V.nm n∧Q (m.up h { nd with attrs:=drpA n nd.attrs })
 | .set n v=>nd.kind=1∧V.al nd.attrs∧V.nm n∧V.tx v∧(setA V.lt n v nd.attrs).length≤8∧Q (m.up h { nd with attrs:=setA V.lt n v nd.attrs })
 | .txt v=>nd.kind=2∧V.tx v∧Q (m.up h { nd with text:=v })
 | .free k=>nd.ch.Nodup∧∃ ht t,nd.ch[k]?=some ht.x∧R m (some h) ht t∧V.tr t∧ht.all.Nodup∧h ∉ ht.all∧Q fun x=>if x∈ht.all then none else if x=h then some { nd with ch:=delI nd.ch k } else m x
 | .mnt k t=>nd.kind=1∧nd.ch.Nodup∧k≤nd.ch.length∧(∃ n,Up m n h)∧(∀ c,c∈nd.ch→m c≠none)∧V.tr t∧∀ ht m',Mtd m h nd k t ht m'→Q m'
 | .mov k j=>nd.ch.Nodup∧j+1≤nd.ch.length∧∃ c nc,nd.ch[k]?=some c∧c≠h∧m c=some nc∧nc.par=some h∧(∀ c,c∈nd.ch→m c≠none)∧Q (m.up h { nd with ch:=insH (delI nd.ch k) j c })
structure Sx where
 path:List Nat
 a:Sp
def Safe (V:Val) (r:Hd) (Q:M→Prop):List Sx→M→Prop
 | [],m=>Q m
 | s::l,m=>∃ h,Pt m r s.path h∧Act V m h s.a (Safe V r Q l)
structure MatchOK (old now:List T) (ms:List Int):Prop where
 len:ms.length=now.length
 rng:∀ i,i < ms.length→ms.getD i (-1) = -1∨∃ (j:Nat) (o n:T),ms.getD i (-1)=(j:Int)∧old[j]?=some o∧now[i]?=some n∧o.kind=n.kind∧o.tag=n.tag
 inj:∀ i k,i < ms.length→k < ms.length→0≤ms.getD i (-1)→ms.getD i (-1)=ms.getD k (-1)→i=k
 key:∀ (i j:Nat) (n o:T),now[i]?=some n→old[j]?=some o→n.key≠[]→o.kind=n.kind→o.tag=n.tag→o.key=n.key→ms.getD i (-1)=(j:Int)
def frS (ms:List Int):Nat→List Int→List Sp
 | _,[]=>[]
 | k,v::l=>if v∈ms then frS ms (k+1) l else .free k::frS ms k l
inductive LP (ms:List Int) (st:List Bool) (nows:List T) (path:List Nat) (P:Nat→Nat→List Sx→Prop):Nat→List Int→List Sx→Prop
 | nil {l}:LP ms st nows path P ms.length l []
 | mnt {i l rest t}:i < ms.length→ms.getD i (-1) < 0→nows[i]?=some t→LP ms st nows path P (i+1) (insI l (ahd ms st i l) (tok ms i)) rest→LP ms st nows path P i l (⟨path,.mnt (ahd ms st i l) t⟩::rest)
 | keep {i l sub rest}:i < ms.length→0≤ms.getD i (-1)→P i (ixI (tok ms i) l) sub→stB' st i=true→LP ms st nows path P (i+1) l rest→LP ms st nows path P i l (sub++rest)
 | mov {i l sub rest}:i < ms.length→0≤ms.getD i (-1)→P i (ixI (tok ms i) l) sub→stB' st i=false →
   LP ms st nows path P (i+1) (insI (delI l (ixI (tok ms i) l)) (ahd ms st i (delI l (ixI (tok ms i) l))) (tok ms i)) rest →
   LP ms st nows path P i l (sub++⟨path,.mov (ixI (tok ms i) l) (ahd ms st i (delI l (ixI (tok ms i) l)))⟩::rest)
def ownS (lt:Str→Str→Bool) (old now:T):List Sp:=(if old.text=now.text then [] else [.txt now.text])++difA lt old.attrs now.attrs
def ints (n:Nat):List Int:=(List.range n).map fun (j:Nat)=>(j:Int)
def DS (lt:Str→Str→Bool):Nat→T→T→List Nat→List Sx→Prop
 | 0,_,_,_,_=>False
 | d+1,old,now,path,l=>∃ ms st rest,MatchOK old.ch now.ch ms∧StOK ms st ∧
  l=(ownS lt old now).map (Sx.mk path)++((frS ms 0 (ints old.ch.length)).map (Sx.mk path)++rest) ∧
  LP ms st now.ch path (fun i k sub=>∃ o n,old.ch[(ms.getD i (-1)).toNat]?=some o∧now.ch[i]?=some n∧DS lt d o n (path++[k]) sub) 0 ((ints old.ch.length).filter fun v=>decide (v∈ms)) rest
inductive Anc (m:M) (r:Hd):List Nat→Hd→List Hd→Prop
 | root {nd}:m r=some nd→nd.par=none→Anc m r [] r []
 | snoc {p a l i c nd nd'}:Anc m r p a l→m a=some nd→nd.ch[i]?=some c→m c=some nd'→nd'.par=some a→Anc m r (p++[i]) c (l++[a])
theorem Pt.snoc {m:M} {a c:Hd} {i:Nat} {nd:Nd} (ha:m a=some nd) (hc:nd.ch[i]?=some c):∀ {p:List Nat} {r:Hd},Pt m r p a→Pt m r (p++[i]) c
 | [],r,h=>by
  have h:a=r:=h;subst h;exact ⟨nd,c,ha,hc,rfl⟩
 | j::p,r,⟨nd2,c2,h1,h2,h3⟩=>⟨nd2,c2,h1,h2,Pt.snoc ha hc h3⟩
theorem Anc.pt {m:M} {r x:Hd} {p:List Nat} {l:List Hd} (a:Anc m r p x l):Pt m r p x:=by
 induction a with
 | root=>exact rfl
 | snoc _ h1 h2 _ _ ih=>exact ih.snoc h1 h2
theorem Anc.up {m:M} {r x:Hd} {p:List Nat} {l:List Hd} (a:Anc m r p x l):∃ n,Up m n x:=by
 induction a with
 | root h1 h2=>exact ⟨0,.root h1 h2⟩
 | snoc _ _ _ h3 h4 ih=>obtain ⟨n,u⟩:=ih;exact ⟨n+1,.step h3 h4 u⟩
theorem Anc.live {m:M} {r x:Hd} {p:List Nat} {l:List Hd} (a:Anc m r p x l):∀ k,k∈l→m k≠none:=by
 induction a with
 | root=>intro k z;cases z
 | snoc _ h1 _ _ _ ih =>
  intro k z;rcases List.mem_append.1 z with z | z
  ·exact ih k z
  ·rw [List.mem_singleton] at z;rw [z,h1];exact Option.some_ne_none _
theorem Anc.frame {m m':M} {r x:Hd} {p:List Nat} {l:List Hd} (a:Anc m r p x l):(∀ k,k∈l→m' k=m k)→(∀ nd,m x=some nd→∃ nd',m' x=some nd'∧nd'.par=nd.par)→Anc m' r p x l:=by
 induction a with
 | root h1 h2 =>
  intro _ D;obtain ⟨nd',z,E⟩:=D _ h1;exact .root z (E.trans h2)
 | @snoc p a l i c nd nd' h0 h1 h2 h3 D ih =>
  intro z E;obtain ⟨Y,J,O⟩:=E _ h3;have I:m' a=m a:=z a (by simp);exact .snoc (ih (fun k U=>z k (List.mem_append_left _ U)) fun nd h=>⟨nd,I.trans h,rfl⟩) (I.trans h1) h2 J (O.trans D)
section
variable {V:Val} {r:Hd} {Q:M→Prop}
theorem Safe.one {l:List Sx} {m:M} {s:Sx} {h:Hd} (D:Pt m r s.path h) (z:Act V m h s.a (Safe V r Q l)):Safe V r Q (s::l) m:=⟨h,D,z⟩
theorem up_eq {m:M} {x:Hd} {n:Nd}:m.up x n x=some n:=if_pos rfl
theorem up_ne {m:M} {x k:Hd} {n:Nd} (h:k≠x):m.up x n k=m k:=if_neg h
theorem Aqq {m:M} {x:Hd} {n n':Nd}:(m.up x n).up x n' = m.up x n':=by
 funext k
 unfold M.up
 by_cases h:k=x
 ·rw [if_pos h,if_pos h]
 ·rw [if_neg h,if_neg h,if_neg h]
theorem Afb {m:M} {x:Hd} {n:Nd} (h:m x=some n):m.up x n=m:=by
 funext k
 unfold M.up
 by_cases e:k=x
 ·rw [if_pos e,e,h]
 ·rw [if_neg e]
theorem Axg (hV:V.OK) {x:Hd} {path:List Nat} {anc:List Hd} {rest:List Sx} {ab:Als}:∀ {l:Als} {O:List Sp},EdR V.lt 8 l O ab→(∀ s,s∈O→∃ n,s=.drop n∧V.nm n∨∃ v,s=.set n v∧V.nm n∧V.tx v) →
  ∀ {m:M} {nd:Nd},m x=some nd→nd.kind=1→nd.attrs=l→V.al l→Anc m r path x anc→x ∉ anc→(∀ s l,s∈O→V.al l→(∀ n v,s=.set n v→(setA V.lt n v l).length≤8)→∀ l',(∀ n,s=.drop n→l' = drpA n l)→(∀ n v,s=.set n v→l' = setA V.lt n v l)→V.al l') →
  (∀ m',m' = m.up x { nd with attrs:=ab }→Anc m' r path x anc→Safe V r Q rest m')→Safe V r Q (O.map (Sx.mk path)++rest) m:=by
 intro l O h
 induction h with
 | nil =>
  intro _ m nd hm I J _ Y _ _ k;exact k m (by subst J;exact (Afb hm).symm) Y
 | @drop l n O l' hin U ih =>
  intro D m nd hm I J hv Y hx z k;obtain ⟨n',h3⟩:=D _ (List.mem_cons_self ..);have hn:V.nm n:=by
   rcases h3 with ⟨e,h⟩ | ⟨v,e,_⟩
   ·cases e;exact h
   ·cases e
  have Z:Anc (m.up x { nd with attrs:=drpA n l }) r path x anc:=Y.frame (fun k I=>up_ne fun e=>hx (e ▸ I)) fun ac U=>by
   rw [hm] at U;cases U;exact ⟨_,up_eq,rfl⟩
  refine Safe.one Y.pt ⟨nd,hm,I,J ▸ hv,J ▸ hin,hn,?_⟩;rw [J];refine ih (fun s hs=>D s (List.mem_cons_of_mem _ hs)) (up_eq) I rfl ?_ Z hx (fun s l hs=>z s l (List.mem_cons_of_mem _ hs)) ?_
  ·exact z (.drop n) l (List.mem_cons_self ..) hv (fun _ _ e=>by cases e) _ (fun n e=>by cases e;rfl) (fun _ _ e=>by cases e)
  ·intro m' E aa;rw [Aqq] at E;exact k m' E aa
 | @set l n v O l' hin U ih =>
  intro D m nd hm I J hv Y hx z k;obtain ⟨n',h3⟩:=D _ (List.mem_cons_self ..);have hn:V.nm n∧V.tx v:=by
   rcases h3 with ⟨e,h⟩ | ⟨v,e,h⟩
   ·cases e
   ·cases e;exact h
  have Z:Anc (m.up x { nd with attrs:=setA V.lt n v l }) r path x anc:=Y.frame (fun k I=>up_ne fun e=>hx (e ▸ I)) fun ac U=>by
   rw [hm] at U;cases U;exact ⟨_,up_eq,rfl⟩
  refine Safe.one Y.pt ⟨nd,hm,I,J ▸ hv,hn.1,hn.2,J ▸ hin,?_⟩;rw [J];refine ih (fun s hs=>D s (List.mem_cons_of_mem _ hs)) (up_eq) I rfl ?_ Z hx (fun s l hs=>z s l (List.mem_cons_of_mem _ hs)) ?_
  ·exact z (.set n v) l (List.mem_cons_self ..) hv (fun _ _ e=>by cases e;exact hin) _ (fun n e=>by cases e) (fun _ _ e=>by cases e;rfl)
  ·intro m' E aa;rw [Aqq] at E;exact k m' E aa
theorem Qh {lt:Str→Str→Bool} {n v:Str}:∀ {l:Als} {a:Str × Str},a∈setA lt n v l→a∈l∨a=(n,v)
 | [],a,h=>Or.inr (by simpa [setA] using h)
 | (b,w)::l,a,h=>by
  unfold setA at h;split at h
  ·rcases List.mem_cons.1 h with e | h
   ·exact Or.inl (e ▸ List.mem_cons_self ..)
   ·exact (Qh h).imp (List.mem_cons_of_mem _) id
  ·split at h
   ·rcases List.mem_cons.1 h with e | h
    ·exact Or.inr e
    ·exact Or.inl (List.mem_cons_of_mem _ h)
   ·rcases List.mem_cons.1 h with e | h
    ·exact Or.inr e
    ·exact Or.inl h
theorem Zr (hV:V.OK) {n v:Str}:∀ {l:Als},AscA V.lt l→AscA V.lt (setA V.lt n v l)
 | [],_=>List.pairwise_singleton _ _
 | (b,w)::l,h=>by
  have hp:=List.pairwise_cons.1 h;unfold setA;split
  ·rename_i hb;refine List.pairwise_cons.2 ⟨fun a ha=>?_,Zr hV hp.2⟩;rcases Qh ha with ha | rfl
   ·exact hp.1 a ha
   ·exact hb
  ·rename_i hb;split
   ·rename_i e;subst e;exact List.pairwise_cons.2 ⟨hp.1,hp.2⟩
   ·rename_i e;have hnb:V.lt n b=true:=by
     rcases hV.tot b n with t | t | t
     ·exact absurd t hb
     ·exact absurd t e
     ·exact t
    refine List.pairwise_cons.2 ⟨fun a ha=>?_,h⟩;rcases List.mem_cons.1 ha with rfl | ha
    ·exact hnb
    ·exact hV.trans hnb (hp.1 a ha)
theorem al_step (O:V.OK) {s:Sp} {l:Als} (hs:∃ n,s=.drop n∧V.nm n∨∃ v,s=.set n v∧V.nm n∧V.tx v) (D:V.al l) (E:∀ n v,s=.set n v→(setA V.lt n v l).length≤8) (l':Als) (hd:∀ n,s=.drop n→l' = drpA n l) (I:∀ n v,s=.set n v→l' = setA V.lt n v l):V.al l':=by
 obtain ⟨n,⟨e,J⟩ | ⟨v,e,J,U⟩⟩:=hs
 ·rw [hd n e];refine ⟨D.1.filter _,fun a z=>D.2.1 a (List.mem_filter.1 z).1,Nat.le_trans (List.length_filter_le _ _) D.2.2⟩
 ·rw [I n v e];refine ⟨Zr O D.1,fun a z=>?_,E n v e⟩;rcases Qh z with z | rfl
  ·exact D.2.1 a z
  ·exact ⟨J,U⟩
theorem difA_mem {lt:Str→Str→Bool}:∀ (l r:Als) (s:Sp),s∈difA lt l r→(∃ a,a∈l∧s=.drop a.1)∨∃ a,a∈r∧s=.set a.1 a.2
 | [],r,s,h=>by
  unfold difA at h;obtain ⟨a,ha,e⟩:=List.mem_map.1 h;exact Or.inr ⟨a,ha,e.symm⟩
 | (a,v)::l,[],s,h=>by
  rcases List.mem_cons.1 (show s∈.drop a::difA lt l [] from h) with e | h
  ·exact Or.inl ⟨(a,v),List.mem_cons_self ..,e⟩
  ·rcases difA_mem l [] s h with ⟨x,hx,e⟩ | ⟨x,hx,_⟩
   ·exact Or.inl ⟨x,List.mem_cons_of_mem _ hx,e⟩
   ·cases hx
 | (a,v)::l,(b,w)::r,s,h=>by
  have h:s∈(if lt a b then Sp.drop a::difA lt l ((b,w)::r) else if a=b then (if v=w then difA lt l r else .set b w::difA lt l r) else .set b w::difA lt ((a,v)::l) r):=h;have up1:((∃ x,x∈l∧s=.drop x.1)∨∃ x,x∈r∧s=.set x.1 x.2)→(∃ x,x∈(a,v)::l∧s=.drop x.1)∨∃ x,x∈(b,w)::r∧s=.set x.1 x.2:=fun h=>h.imp (fun ⟨x,h1,h2⟩=>⟨x,List.mem_cons_of_mem _ h1,h2⟩) fun ⟨x,h1,h2⟩=>⟨x,List.mem_cons_of_mem _ h1,h2⟩;have up2:((∃ x,x∈(a,v)::l∧s=.drop x.1)∨∃ x,x∈r∧s=.set x.1 x.2)→(∃ x,x∈(a,v)::l∧s=.drop x.1)∨∃ x,x∈(b,w)::r∧s=.set x.1 x.2:=fun h=>h.imp id fun ⟨x,h1,h2⟩=>⟨x,List.mem_cons_of_mem _ h1,h2⟩;have up3:((∃ x,x∈l∧s=.drop x.1)∨∃ x,x∈(b,w)::r∧s=.set x.1 x.2)→(∃ x,x∈(a,v)::l∧s=.drop x.1)∨∃ x,x∈(b,w)::r∧s=.set x.1 x.2:=fun h=>h.imp (fun ⟨x,h1,h2⟩=>⟨x,List.mem_cons_of_mem _ h1,h2⟩) id;have hset:s=.set b w→(∃ x,x∈(a,v)::l∧s=.drop x.1)∨∃ x,x∈(b,w)::r∧s=.set x.1 x.2:=fun e=>Or.inr ⟨(b,w),List.mem_cons_self ..,e⟩;split at h
  ·rcases List.mem_cons.1 h with e | h
   ·exact Or.inl ⟨(a,v),List.mem_cons_self ..,e⟩
   ·exact up3 (difA_mem l ((b,w)::r) s h)
  ·split at h
   ·split at h
    ·exact up1 (difA_mem l r s h)
    ·rcases List.mem_cons.1 h with e | h
     ·exact hset e
     ·exact up1 (difA_mem l r s h)
   ·rcases List.mem_cons.1 h with e | h
    ·exact hset e
    ·exact up2 (difA_mem ((a,v)::l) r s h)
termination_by l r=>l.length+r.length
theorem own_ok (E:V.OK) {x:Hd} {path:List Nat} {anc:List Hd} {rest:List Sx} {z D:T} (ho:V.tr z) (hn:V.tr D) (hk:z.kind=D.kind) {m:M} {aa:Option Hd} {cs:List Hd}
  (J:m x=some ⟨z.kind,z.tag,z.attrs,z.text,aa,cs⟩) (ha:Anc m r path x anc) (hx:x ∉ anc)
  (k:∀ m',m' = m.up x ⟨z.kind,z.tag,D.attrs,D.text,aa,cs⟩→Anc m' r path x anc→Safe V r Q rest m'):Safe V r Q ((ownS V.lt z D).map (Sx.mk path)++rest) m:=by
 unfold ownS
 by_cases I:z.kind=2
 ·obtain ⟨O,_,_⟩:=E.words ho I;obtain ⟨U,_,e3⟩:=E.words hn (hk ▸ I);rw [O,U];rw [O] at J;rw [U] at k;show Safe V r Q (((if z.text=D.text then [] else [Sp.txt D.text])++[]).map (Sx.mk path)++rest) m;rw [List.append_nil];split
  ·rename_i e;refine k m ?_ ha;rw [← e];exact (Afb J).symm
  ·refine Safe.one ha.pt ⟨_,J,I,e3,?_⟩;refine k _ rfl (ha.frame (fun k hk=>up_ne fun e=>hx (e ▸ hk)) fun ae I=>?_);rw [J] at I;cases I;exact ⟨_,up_eq,rfl⟩
 ·obtain ⟨k1,O⟩:=E.elem ho I;obtain ⟨_,U⟩:=E.elem hn (hk ▸ I);rw [O,U,if_pos rfl,List.nil_append];rw [U] at k;rw [O] at J;have a1:=E.at' ho;have a2:=E.at' hn;have Z:∀ s,s∈difA V.lt z.attrs D.attrs→∃ n,s=.drop n∧V.nm n∨∃ v,s=.set n v∧V.nm n∧V.tx v:=fun s hs=>by
   rcases difA_mem _ _ s hs with ⟨a,Y,e⟩ | ⟨a,Y,e⟩
   ·exact ⟨a.1,Or.inl ⟨e,(a1.2.1 a Y).1⟩⟩
   ·exact ⟨a.1,Or.inr ⟨a.2,e,a2.2.1 a Y⟩⟩
  have ab:=Mu (lt:=V.lt) (b:=8) E.irr E.trans E.tot z.attrs D.attrs [] a1.1 a2.1 (by have:=a1.2.2;have:=a2.2.2;simp only [List.length_nil];omega);exact Axg E ab Z J k1 rfl ⟨a1.1,a1.2.1,Nat.le_trans a1.2.2 tD⟩ ha hx (fun s l hs hv ac l' Y I=>al_step E (Z s hs) hv ac l' Y I) k
end
abbrev Ch:=Int × HT × T
def hds (cs:List Ch):List Hd:=cs.map fun e=>e.2.1.x
def Dj (cs:List Ch):List Hd:=cs.flatMap fun e=>e.2.1.all
section
variable {V:Val} {r:Hd} {Q:M→Prop}
theorem Dr {a b:List Ch}:Dj (a++b)=Dj a++Dj b:=List.flatMap_append ..
theorem Ce {e:Ch} {b:List Ch}:Dj (e::b)=e.2.1.all++Dj b:=rfl
theorem Ahk {cs:List Ch}:∀ c,c∈hds cs→c∈Dj cs:=fun c h=>by
 obtain ⟨e,z,rfl⟩:=List.mem_map.1 h;exact List.mem_flatMap.2 ⟨e,z,HT.x_mem _⟩
theorem Kr:∀ {cs:List Ch},(Dj cs).Nodup→(hds cs).Nodup
 | [],_=>List.nodup_nil
 | e::cs,h=>by
  rw [Ce,List.nodup_append] at h;refine List.nodup_cons.2 ⟨fun h2=>h.2.2 _ (HT.x_mem e.2.1) _ (Ahk _ h2) rfl,Kr h.2.1⟩
theorem HT.all_eq (x:Hd) (cs:List Ch):(HT.nd x (cs.map fun e=>e.2.1)).all=x::Dj cs:=by
 rw [HT.all,HT.alls_eq,List.flatMap_map];rfl
structure Lv (m0 m:M) (S:List Hd) (x:Hd) (nd:Nd) (cs:List Ch):Prop where
 at':m x=some nd
 ch:nd.ch=hds cs
 r:∀ e,e∈cs→R m (some x) e.2.1 e.2.2
 nd':(x::Dj cs).Nodup
 own:∀ k,k∈x::Dj cs→k∈S∨m0 k=none
 fr:∀ k,k ∉ S→m0 k≠none→m k=m0 k
theorem Lv.xn {m0 m:M} {S:List Hd} {x:Hd} {nd:Nd} {cs:List Ch} (L:Lv m0 m S x nd cs):x ∉ Dj cs:=(List.nodup_cons.1 L.nd').1
theorem Lv.cn {m0 m:M} {S:List Hd} {x:Hd} {nd:Nd} {cs:List Ch} (L:Lv m0 m S x nd cs):(Dj cs).Nodup:=(List.nodup_cons.1 L.nd').2
theorem Lv.live {m0 m:M} {S:List Hd} {x:Hd} {nd:Nd} {cs:List Ch} (L:Lv m0 m S x nd cs) {k:Hd} (h:k∈Dj cs):m k≠none:=by
 obtain ⟨e,z,D⟩:=List.mem_flatMap.1 h;exact (L.r e z).live k D
theorem Lv.chl {m0 m:M} {S:List Hd} {x:Hd} {nd:Nd} {cs:List Ch} (L:Lv m0 m S x nd cs):∀ c,c∈nd.ch→m c≠none:=fun c z=>L.live (Ahk c (L.ch ▸ z))
theorem Lv.anc {m0 m:M} {S:List Hd} {x:Hd} {nd:Nd} {cs:List Ch} {anc:List Hd} (L:Lv m0 m S x nd cs) (h:∀ k,k∈anc→k ∉ S∧m0 k≠none):∀ k,k∈anc→k ∉ x::Dj cs:=fun k I z=>by
 obtain ⟨D,E⟩:=h k I;exact (L.own k z).elim D E
theorem Ec {α:Type} {a b:List α} {e:α}:(a++e::b).take a.length=a∧(a++e::b).drop (a.length+1)=b∧(a++e::b)[a.length]?=some e:=by
 refine ⟨by simp,?_,by simp⟩;rw [List.drop_append,List.drop_of_length_le tM];simp
theorem Lv.free {m0 m:M} {S:List Hd} {x:Hd} {nd:Nd} {A B:List Ch} {e:Ch} (L:Lv m0 m S x nd (A++e::B)) :
  Lv m0 (fun k=>if k∈e.2.1.all then none else if k=x then some { nd with ch:=delI nd.ch A.length } else m k) S x { nd with ch:=delI nd.ch A.length } (A++B):=by
 have aa:x ∉ e.2.1.all:=fun h=>L.xn (by rw [Dr,Ce];simp [h]);have z:∀ k,k∈Dj (A++B)→k∈Dj (A++e::B):=fun k h=>by
  rw [Dr,List.mem_append] at h;rw [Dr,Ce];simp only [List.mem_append];exact h.imp id Or.inr
 have I:∀ k,k∈Dj (A++B)→k ∉ e.2.1.all:=fun k h U=>by
  have D:=L.cn;rw [Dr,Ce,List.nodup_append] at D;rw [Dr,List.mem_append] at h;rcases h with h | h
  ·exact D.2.2 k h k (List.mem_append_left _ U) rfl
  ·exact (List.nodup_append.1 D.2.1).2.2 k U k h rfl
 refine ⟨?_,?_,fun f hf=>?_,?_,fun k E=>?_,fun k E J=>?_⟩
 ·show (if x∈e.2.1.all then none else _)=_;rw [if_neg aa,if_pos rfl]
 ·show delI nd.ch A.length=_;rw [L.ch];unfold delI hds;have:=Ec (a:=A.map fun e=>e.2.1.x) (b:=B.map fun e=>e.2.1.x) (e:=e.2.1.x);rw [List.length_map] at this;rw [List.map_append,List.map_cons,this.1,this.2.1,List.map_append]
 ·have Z:f∈A++e::B:=by
   rcases List.mem_append.1 hf with h | h
   ·exact List.mem_append_left _ h
   ·exact List.mem_append_right _ (List.mem_cons_of_mem _ h)
  refine (L.r f Z).frame fun k E=>?_;have O:k∈Dj (A++B):=List.mem_flatMap.2 ⟨f,hf,E⟩;rw [if_neg (I k O),if_neg fun Y:k=x=>L.xn (Y ▸ z k O)]
 ·refine List.nodup_cons.2 ⟨fun h=>L.xn (z x h),?_⟩;have D:=L.cn;rw [Dr,Ce,List.nodup_append] at D;rw [Dr,List.nodup_append];exact ⟨D.1,(List.nodup_append.1 D.2.1).2.1,fun a ha b hb=>D.2.2 a ha b (List.mem_append_right _ hb)⟩
 ·refine L.own k ?_;rcases List.mem_cons.1 E with h | h
  ·exact h ▸ List.mem_cons_self ..
  ·exact List.mem_cons_of_mem _ (z k h)
 ·have h1:k ∉ x::Dj (A++e::B):=fun h=>(L.own k h).elim E J;have U:k ∉ e.2.1.all:=fun h=>h1 (List.mem_cons_of_mem _ (by rw [Dr,Ce];simp [h]));show (if k∈e.2.1.all then none else if k=x then _ else m k)=_;rw [if_neg U,if_neg fun Y:k=x=>h1 (Y ▸ List.mem_cons_self ..)];exact L.fr k E J
theorem Rc {ms:List Int} {m0:M} {S:List Hd} {x:Hd} {path:List Nat} {anc:List Hd} {rest:List Sx} (hanc:∀ k,k∈anc→k ∉ S∧m0 k≠none):∀ (B A:List Ch) {m:M} {nd:Nd},Lv m0 m S x nd (A++B)→(∀ e,e∈B→V.tr e.2.2)→Anc m r path x anc →
  (∀ m' nd',(∃ c,nd' = { nd with ch:=c })→Lv m0 m' S x nd' (A++B.filter fun e=>decide (e.1∈ms))→Anc m' r path x anc→Safe V r Q rest m') →
  Safe V r Q ((frS ms A.length (B.map (·.1))).map (Sx.mk path)++rest) m
 | [],A,m,nd,L,_,ha,k=>k m nd ⟨nd.ch,rfl⟩ L ha
 | e::B,A,m,nd,L,hv,ha,k=>by
  rw [List.map_cons];unfold frS;split
  ·rename_i he;have h2:=Rc (ms:=ms) (rest:=rest) hanc B (A++[e]) (m:=m) (nd:=nd) (by rw [List.append_assoc];exact L) (fun e he=>hv e (List.mem_cons_of_mem _ he)) ha fun m' nd' hn L' ha'=>by
    refine k m' nd' hn ?_ ha';rw [List.filter_cons,if_pos (by simpa using he)];rw [List.append_assoc] at L';exact L'
   rw [List.length_append,List.length_singleton] at h2;exact h2
  ·rename_i he;have hxn:x ∉ e.2.1.all:=fun h=>L.xn (by rw [Dr,Ce];simp [h]);have hen:e.2.1.all.Nodup:=by
    have hn:=L.cn;rw [Dr,Ce,List.nodup_append] at hn;exact (List.nodup_append.1 hn.2.1).1
   have hch:nd.ch[A.length]?=some e.2.1.x:=by
    rw [L.ch];have:=Ec (a:=A.map fun e=>e.2.1.x) (b:=B.map fun e=>e.2.1.x) (e:=e.2.1.x);rw [List.length_map] at this;unfold hds;rw [List.map_append,List.map_cons,this.2.2]
   have hnd:nd.ch.Nodup:=L.ch ▸ Kr L.cn;refine Safe.one ha.pt ⟨nd,L.at',hnd,e.2.1,e.2.2,hch,L.r e (by simp),hv e (by simp),hen,hxn,?_⟩;have L':=L.free;have ha':=ha.frame (m':=fun k=>if k∈e.2.1.all then none else if k=x then some { nd with ch:=delI nd.ch A.length } else m k) (fun k hk=>by
    have h1:k ∉ x::Dj (A++e::B):=L.anc hanc k hk;rw [if_neg fun h:k∈e.2.1.all=>h1 (List.mem_cons_of_mem _ (by rw [Dr,Ce];simp [h])),if_neg fun e2:k=x=>h1 (e2 ▸ List.mem_cons_self ..)]) fun nd2 h2=>by
    rw [L.at'] at h2;cases h2;exact ⟨_,L'.at',rfl⟩
   exact Rc hanc B A L' (fun e he=>hv e (List.mem_cons_of_mem _ he)) ha' fun m' nd' hn L2 ha2=>by
    obtain ⟨c,hc⟩:=hn;refine k m' nd' ⟨c,hc⟩ ?_ ha2;rw [List.filter_cons,if_neg (by simpa using he)];exact L2
end
section
variable {V:Val} {r:Hd} {Q:M→Prop}
theorem Mh {α:Type} {l:List α} {k:Nat} {e:α}:(l.take k++e::l.drop k).Perm (e::l):=by
 have:=List.perm_middle (a:=e) (l₁:=l.take k) (l₂:=l.drop k)
 rwa [List.take_append_drop] at this
theorem Gh {a b:List Ch} (h:a.Perm b):(Dj a).Perm (Dj b):=h.flatMap_right _
theorem Lv.x_own {m0 m:M} {S:List Hd} {x:Hd} {nd:Nd} {cs:List Ch} (L:Lv m0 m S x nd cs) {k:Hd} (z:k ∉ S) (D:m0 k≠none):k ∉ x::Dj cs:=fun h=>(L.own k h).elim z D
theorem Lv.perm {m0 m:M} {S:List Hd} {x:Hd} {nd:Nd} {cs cs':List Ch} (L:Lv m0 m S x nd cs) (p:cs'.Perm cs):Lv m0 (m.up x { nd with ch:=hds cs' }) S x { nd with ch:=hds cs' } cs':=by
 have J:∀ k,k∈Dj cs'↔k∈Dj cs:=fun k=>(Gh p).mem_iff;refine ⟨up_eq,rfl,fun e I=>(L.r e (p.mem_iff.1 I)).frame fun k z=>up_ne fun O=>L.xn (O ▸ List.mem_flatMap.2 ⟨e,p.mem_iff.1 I,z⟩),?_,fun k z=>?_,fun k D E=>?_⟩
 ·exact List.nodup_cons.2 ⟨fun h=>L.xn ((J x).1 h),(Gh p).nodup_iff.2 L.cn⟩
 ·refine L.own k ?_;rcases List.mem_cons.1 z with h | h
  ·exact h ▸ List.mem_cons_self ..
  ·exact List.mem_cons_of_mem _ ((J k).1 h)
 ·rw [up_ne fun e:k=x=>L.x_own D E (e ▸ List.mem_cons_self ..)];exact L.fr k D E
theorem Lv.ins {m0 m m':M} {S:List Hd} {x:Hd} {nd:Nd} {cs:List Ch} {k:Nat} {t:T} {D:HT} {v:Int} (L:Lv m0 m S x nd cs) (p:Mtd m x nd k t D m') :
  Lv m0 m' S x { nd with ch:=insH nd.ch k D.x } (cs.take k++(v,D,t)::cs.drop k):=by
 have Z:=Gh (Mh (l:=cs) (k:=k) (e:=(v,D,t)));rw [Ce] at Z;have hm:∀ z,z∈Dj (cs.take k++(v,D,t)::cs.drop k)↔z∈D.all∨z∈Dj cs:=fun z=>by rw [Z.mem_iff,List.mem_append]
 have aa:x ∉ D.all:=fun h=>by have:=p.fresh x h;rw [L.at'] at this;cases this
 refine ⟨p.at',?_,fun e J=>?_,?_,fun z hz=>?_,fun z h1 O=>?_⟩
 ·show insH nd.ch k D.x=_;rw [L.ch];unfold insH hds;rw [List.map_append,List.map_cons,List.map_take,List.map_drop]
 ·rcases List.mem_cons.1 ((Mh (l:=cs) (k:=k)).mem_iff.1 J) with rfl | J
  ·exact p.r
  ·refine (L.r e J).frame fun z hz=>?_;have I:z∈Dj cs:=List.mem_flatMap.2 ⟨e,J,hz⟩;exact p.same z (fun h=>L.live I (p.fresh z h)) fun e2=>L.xn (e2 ▸ I)
 ·refine List.nodup_cons.2 ⟨fun h=>((hm x).1 h).elim aa L.xn,Z.nodup_iff.2 (List.nodup_append.2 ⟨p.nd',L.cn,fun a ha b hb e=>L.live hb (e ▸ p.fresh a ha)⟩)⟩
 ·rcases List.mem_cons.1 hz with h | h
  ·exact L.own z (h ▸ List.mem_cons_self ..)
  ·rcases (hm z).1 h with h | h
   ·have h0:=p.fresh z h;refine Classical.byContradiction fun hn=>?_;have Y:z ∉ S:=fun h=>hn (Or.inl h);have E:m0 z≠none:=fun h=>hn (Or.inr h);rw [L.fr z Y E] at h0;exact E h0
   ·exact L.own z (List.mem_cons_of_mem _ h)
 ·have h3:=L.x_own h1 O;have U:=L.fr z h1 O;rw [p.same z (fun h=>by rw [p.fresh z h] at U;exact O U.symm) fun e=>h3 (e ▸ List.mem_cons_self ..)];exact U
theorem Lv.rep {m0 m m':M} {S:List Hd} {x:Hd} {nd:Nd} {A B:List Ch} {e:Ch} {h':HT} {t':T} (L:Lv m0 m S x nd (A++e::B)) (hr:R m' (some x) h' t') (hx:h'.x=e.2.1.x) (hn:h'.all.Nodup)
  (ho:∀ k,k∈h'.all→k∈e.2.1.all∨m k=none) (hf:∀ k,k ∉ e.2.1.all→m k≠none→m' k=m k):Lv m0 m' S x nd (A++(e.1,h',t')::B):=by
 have J:=Gh (List.perm_middle (a:=e) (l₁:=A) (l₂:=B));have O:=Gh (List.perm_middle (a:=(e.1,h',t')) (l₁:=A) (l₂:=B));rw [Ce] at J O;have E:=List.nodup_append.1 (J.nodup_iff.1 L.cn);have D:∀ z,z∈Dj (A++e::B)↔z∈e.2.1.all∨z∈Dj (A++B):=fun z=>by rw [J.mem_iff,List.mem_append]
 have U:∀ z,z∈Dj (A++(e.1,h',t')::B)↔z∈h'.all∨z∈Dj (A++B):=fun z=>by rw [O.mem_iff,List.mem_append]
 have Z:x ∉ e.2.1.all:=fun h=>L.xn ((D x).2 (Or.inl h));have hl:∀ z,z∈Dj (A++B)→m z≠none:=fun z I=>L.live ((D z).2 (Or.inr I));have aa:m x≠none:=by rw [L.at'];exact Option.some_ne_none _
 have ac:∀ z,z∈Dj (A++B)→m' z=m z:=fun z I=>hf z (fun h=>E.2.2 z h z I rfl) (hl z I);refine ⟨(hf x Z aa).trans L.at',?_,fun f ab=>?_,?_,fun z I=>?_,fun z h1 h2=>?_⟩
 ·rw [L.ch];unfold hds;rw [List.map_append,List.map_append,List.map_cons,List.map_cons,hx]
 ·rcases List.mem_cons.1 ((List.perm_middle (a:=(e.1,h',t')) (l₁:=A) (l₂:=B)).mem_iff.1 ab) with rfl | h
  ·exact hr
  ·refine (L.r f ((List.perm_middle (a:=e)).mem_iff.2 (List.mem_cons_of_mem _ h))).frame fun z I=>ac z (List.mem_flatMap.2 ⟨f,h,I⟩)
 ·refine List.nodup_cons.2 ⟨fun h=>?_,O.nodup_iff.2 (List.nodup_append.2 ⟨hn,E.2.1,fun a ha b hb e2=>?_⟩)⟩
  ·rcases (U x).1 h with h | h
   ·rcases ho x h with h | h
    ·exact Z h
    ·exact aa h
   ·exact L.xn ((D x).2 (Or.inr h))
  ·subst e2;rcases ho a ha with h | h
   ·exact E.2.2 a h a hb rfl
   ·exact hl a hb h
 ·rcases List.mem_cons.1 I with h | h
  ·exact L.own z (h ▸ List.mem_cons_self ..)
  ·rcases (U z).1 h with h | h
   ·rcases ho z h with h | h
    ·exact L.own z (List.mem_cons_of_mem _ ((D z).2 (Or.inl h)))
    ·refine Classical.byContradiction fun hn=>?_;have E:z ∉ S:=fun h=>hn (Or.inl h);have Y:m0 z≠none:=fun h=>hn (Or.inr h);rw [L.fr z E Y] at h;exact Y h
   ·exact L.own z (List.mem_cons_of_mem _ ((D z).2 (Or.inr h)))
 ·have h3:=L.x_own h1 h2;have h4:=L.fr z h1 h2;rw [hf z (fun h=>h3 (List.mem_cons_of_mem _ ((D z).2 (Or.inl h)))) (by rw [h4];exact h2)];exact h4
theorem Zl {v:Int}:∀ {cs:List Ch},v∈cs.map (·.1)→∃ A e B,cs=A++e::B∧e.1=v∧A.length=ixI v (cs.map (·.1))
 | e::cs,h=>by
  rw [List.map_cons];unfold ixI;split
  ·rename_i he;exact ⟨[],e,cs,rfl,he,rfl⟩
  ·rename_i he;obtain ⟨A,f,B,h1,h2,h3⟩:=Zl ((List.mem_cons.1 h).resolve_left fun h2=>he h2.symm);exact ⟨e::A,f,B,by rw [h1];rfl,h2,by rw [List.length_cons,h3]⟩
def Tg (ms:List Int) (olds nows:List T) (hs:List HT) (i:Nat) (e:Ch):Prop:=∀ k,k < ms.length→e.1=tok ms k→(k < i→nows[k]?=some e.2.2)∧(i≤k→olds[(ms.getD k (-1)).toNat]?=some e.2.2)∧(0≤ms.getD k (-1)→(hs[(ms.getD k (-1)).toNat]?).map HT.x=some e.2.1.x)
def TopK (o n:T) (h h':HT):Prop:=∀ (i j:Nat) (a b:T),n.ch[i]?=some a→o.ch[j]?=some b→a.key≠[]→b.kind=a.kind→b.tag=a.tag→b.key=a.key→(h'.ch[i]?).map HT.x=(h.ch[j]?).map HT.x
def SafeN (V:Val) (r:Hd) (Q:M→Prop) (o n:T) (path:List Nat) (l:List Sx):Prop:=∀ (m:M) (ht:HT) (par:Option Hd) (anc:List Hd) (rest:List Sx),R m par ht o→ht.all.Nodup→Anc m r path ht.x anc→(∀ k,k∈anc→k ∉ ht.all) →
 (∀ m' ht',R m' par ht' n→ht'.x=ht.x→ht'.all.Nodup→(∀ k,k∈ht'.all→k∈ht.all∨m k=none)→(∀ k,k ∉ ht.all→m k≠none→m' k=m k)→TopK o n ht ht'→Anc m' r path ht.x anc→Safe V r Q rest m')→Safe V r Q (l++rest) m
theorem loop_ok {ms:List Int} {st:List Bool} {I D:List T} {hs:List HT} {path:List Nat} {P:Nat→Nat→List Sx→Prop} (H:StOK ms st) (hm:MatchOK I D ms) (hV:∀ t,t∈D→V.tr t)
  (hP:∀ i k sub,i < ms.length→0≤ms.getD i (-1)→P i k sub→∃ o n,I[(ms.getD i (-1)).toNat]?=some o∧D[i]?=some n∧SafeN V r Q o n (path++[k]) sub)
  {m0:M} {S:List Hd} {x:Hd} {anc:List Hd} (ac:∀ k,k∈anc→k ∉ S∧m0 k≠none) {i:Nat} {l:List Int} {O:List Sx} (hl:LP ms st D path P i l O) :
  ∀ {m:M} {nd:Nd} {cs:List Ch} {rest:List Sx},Lv m0 m S x nd cs→cs.map (·.1)=l→Ord ms st i l→(∀ e,e∈cs→Tg ms I D hs i e)→(D≠[]→nd.kind=1)→Anc m r path x anc →
  (∀ m' nd' cs',Lv m0 m' S x nd' cs'→cs'.map (·.1)=Ii ms ms.length→(∀ e,e∈cs'→Tg ms I D hs ms.length e)→(∃ c,nd' = { nd with ch:=c })→Anc m' r path x anc→Safe V r Q rest m')→Safe V r Q (O++rest) m:=by
 have ab:∀ {i:Nat} {e:Ch},i < ms.length→Tg ms I D hs i e→e.1≠tok ms i→Tg ms I D hs (i+1) e:=fun Z h aH k J he=>by
  obtain ⟨h1,h2,h3⟩:=h k J he;refine ⟨fun h=>h1 ?_,fun h=>h2 tM,h3⟩;rcases Nat.lt_or_ge k _ with h4 | h4
  ·exact h4
  ·have:k=_:=Nat.le_antisymm tM h4;subst this;exact absurd he aH
 have ag:∀ {i:Nat} {sub:List Sx} {l:List Int},i < ms.length→0≤ms.getD i (-1)→P i (ixI (tok ms i) l) sub→Ord ms st i l→∀ {m:M} {nd:Nd} {cs:List Ch} {rest:List Sx},Lv m0 m S x nd cs→cs.map (·.1)=l→(∀ e,e∈cs→Tg ms I D hs i e)→Anc m r path x anc →
   (∀ m' A e B,cs.map (·.1)=(A++e::B).map (·.1)→e.1=tok ms i→A.length=ixI (tok ms i) l→Lv m0 m' S x nd (A++e::B)→(∀ f,f∈A++e::B→Tg ms I D hs (i+1) f)→Anc m' r path x anc→Safe V r Q rest m')→Safe V r Q (sub++rest) m:=by
  intro i sub l Z aA aa o m nd cs rest L E U ha k;obtain ⟨old,ap,h1,h2,h3⟩:=hP i _ sub Z aA aa;have aF:tok ms i∈cs.map (·.1):=by rw [E];exact (o.mem _).2 ⟨i,Z,rfl,Or.inr aA⟩
  obtain ⟨A,e,B,rfl,he,hA⟩:=Zl aF;rw [E] at hA;have aC:=U e (by simp) i Z he;have aB:e.2.2=old:=Option.some.inj ((aC.2.1 (Nat.le_refl _)).symm.trans h1);have hr:=L.r e (by simp);rw [aB] at hr;have ay:=Gh (List.perm_middle (a:=e) (l₁:=A) (l₂:=B));rw [Ce] at ay;have aD:=(List.nodup_append.1 (ay.nodup_iff.1 L.cn)).1;have aj:∀ z,z∈e.2.1.all→z∈Dj (A++e::B):=fun z hz=>ay.mem_iff.2 (List.mem_append_left _ hz);have a0:x ∉ e.2.1.all:=fun h=>L.xn (aj x h);have an:nd.ch[A.length]?=some e.2.1.x:=by
   rw [L.ch];have:=Ec (a:=A.map fun e=>e.2.1.x) (b:=B.map fun e=>e.2.1.x) (e:=e.2.1.x);rw [List.length_map] at this;unfold hds;rw [List.map_append,List.map_cons,this.2.2]
  have aJ:=hr.x.1;have au:Anc m r (path++[ixI (tok ms i) l]) e.2.1.x (anc++[x]):=by
   rw [← hA];exact .snoc ha L.at' an aJ rfl
  have av:∀ k,k∈anc++[x]→k ∉ e.2.1.all:=fun k J h=>by
   rcases List.mem_append.1 J with J | J
   ·exact L.anc ac k J (List.mem_cons_of_mem _ (aj k h))
   ·rw [List.mem_singleton] at J;exact a0 (J ▸ h)
  refine h3 m e.2.1 (some x) (anc++[x]) rest hr aD au av ?_;intro m' az g1 g2 g3 g4 g5 _ g6;have Y:=L.rep (t':=ap) g1 g2 g3 g4 g5;refine k m' A (e.1,az,ap) B ?_ he hA Y (fun f hf=>?_) ?_
  ·rw [List.map_append,List.map_append,List.map_cons,List.map_cons]
  ·have af:((A++(e.1,az,ap)::B).map (·.1)).Nodup:=by
    have:(A++(e.1,az,ap)::B).map (·.1)=(A++e::B).map (·.1):=by rw [List.map_append,List.map_append,List.map_cons,List.map_cons]
    rw [this,E];exact o.nd
   rw [List.map_append,List.map_cons,List.nodup_append,List.nodup_cons] at af;rcases List.mem_cons.1 (List.perm_middle.mem_iff.1 hf) with rfl | hf
   ·intro k J aw;have:k=i:=(Hc H Z J (he.symm.trans aw)).symm;subst this;refine ⟨fun _=>h2,fun h=>by omega,fun h=>?_⟩;rw [aC.2.2 h,g2]
   ·have aE:f∈A++e::B:=List.perm_middle.mem_iff.2 (List.mem_cons_of_mem _ hf);refine ab Z (U f aE) fun ao=>?_;rw [he] at af;rcases List.mem_append.1 hf with hf | hf
    ·exact af.2.2 f.1 (List.mem_map.2 ⟨f,hf,rfl⟩) (tok ms i) (List.mem_cons_self ..) ao
    ·exact af.2.1.1 (ao ▸ List.mem_map.2 ⟨f,hf,rfl⟩)
  ·refine ha.frame (fun k J=>?_) fun ai h=>⟨nd,Y.at',?_⟩
   ·obtain ⟨q1,q2⟩:=ac k J;rw [Y.fr k q1 q2,L.fr k q1 q2]
   ·rw [L.at'] at h;cases h;rfl
 induction hl with
 | nil =>
  intro m nd cs rest L E o U J ha k;exact k m nd cs L (E.trans o.fin) U ⟨nd.ch,rfl⟩ ha
 | @mnt i l O t Z hneg ht hlp ih =>
  intro m nd cs rest L E o U J ha k;have aI:stB' st i=false:=by
   cases e:stB' st i with
   | false=>rfl
   | true=>have:=H.keep i Z e;omega
  obtain ⟨ax,o'⟩:=o.ins H Z aI (l':=l) (Or.inl ⟨rfl,hneg⟩);have a8:l.length=nd.ch.length:=by rw [L.ch,← E];unfold hds;rw [List.length_map,List.length_map]
  have a7:nd.kind=1:=J fun e=>by rw [e] at ht;simp at ht
  refine Safe.one ha.pt ⟨nd,L.at',a7,L.ch ▸ Kr L.cn,a8 ▸ ax,ha.up,L.chl,hV t (List.mem_of_getElem? ht),fun h' m' p=>?_⟩;have Y:=L.ins (v:=tok ms i) p;have ah:Anc m' r path x anc:=ha.frame (fun k J=>by
   obtain ⟨q1,q2⟩:=ac k J;rw [Y.fr k q1 q2,L.fr k q1 q2]) fun ai h=>⟨_,Y.at',by rw [L.at'] at h;cases h;rfl⟩
  refine ih Y ?_ o' (fun e he=>?_) (fun _=>a7) ah fun m2 ai ar a1 a2 a3 ⟨c,hc⟩ a5=>k m2 ai ar a1 a2 a3 ⟨c,hc⟩ a5
  ·rw [List.map_append,List.map_cons,List.map_take,List.map_drop,E];rfl
  ·rcases List.mem_cons.1 (Mh.mem_iff.1 he) with rfl | he
   ·intro k J aw;have:k=i:=(Hc H Z J aw).symm;subst this;exact ⟨fun _=>ht,fun h=>by omega,fun h=>by omega⟩
   ·refine ab Z (U e he) fun ao=>?_;have:tok ms i∈l:=by rw [← E,← ao];exact List.mem_map.2 ⟨e,he,rfl⟩
    obtain ⟨k,h1,h2,h3⟩:=(o.mem _).1 this;have:=Hc H Z h1 h2;subst this;omega
 | @keep i l sub O Z hpos aa hst hlp ih =>
  intro m nd cs rest L E o U J ha k;rw [List.append_assoc];refine ag Z hpos aa o L E U ha fun m' A e B h1 h2 h3 Y am ah=>?_;exact ih Y (h1 ▸ E) (o.keep H Z hst) am J ah k
 | @mov i l sub O Z hpos aa hst hlp ih =>
  intro m nd cs rest L E o U J ha k;rw [List.append_assoc];refine ag Z hpos aa o L E U ha fun m' A e B h1 h2 h3 Y am ah=>?_;obtain ⟨ax,o'⟩:=o.ins H Z hst (Or.inr ⟨rfl,hpos⟩);have hl:l=A.map (·.1)++tok ms i::B.map (·.1):=by rw [← E,h1,List.map_append,List.map_cons,h2]
  have aq:delI l (ixI (tok ms i) l)=(A++B).map (·.1):=by
   rw [← h3,hl];unfold delI;have:=Ec (a:=A.map (·.1)) (b:=B.map (·.1)) (e:=tok ms i);rw [List.length_map] at this;rw [this.1,this.2.1,List.map_append]
  have an:nd.ch=A.map (fun e=>e.2.1.x)++e.2.1.x::B.map (fun e=>e.2.1.x):=by rw [Y.ch];unfold hds;rw [List.map_append,List.map_cons]
  have ae:=Ec (a:=A.map fun e=>e.2.1.x) (b:=B.map fun e=>e.2.1.x) (e:=e.2.1.x);rw [List.length_map,← an,h3] at ae;have hr:=Y.r e (by simp);have a0:e.2.1.x≠x:=fun h=>Y.xn (h ▸ List.mem_flatMap.2 ⟨e,by simp,HT.x_mem _⟩);have aG:ahd ms st i (delI l (ixI (tok ms i) l))+1≤nd.ch.length:=by
   have:=ax;rw [aq] at this ⊢;rw [an];simp only [List.length_append,List.length_map,List.length_cons] at this ⊢;omega
  refine Safe.one ah.pt ⟨nd,Y.at',Y.ch ▸ Kr Y.cn,aG,e.2.1.x,_,ae.2.2,a0,hr.x.1,rfl,Y.chl,?_⟩;generalize hj:ahd ms st i (delI l (ixI (tok ms i) l))=j at *;have ak:((A++B).take j++e::(A++B).drop j).Perm (A++e::B):=Mh.trans List.perm_middle.symm;have a6:insH (delI nd.ch (ixI (tok ms i) l)) j e.2.1.x=hds ((A++B).take j++e::(A++B).drop j):=by
   unfold insH delI hds;rw [ae.1,ae.2.1,List.map_append,List.map_cons,List.map_take,List.map_drop,List.map_append]
  have L2:=Y.perm ak;rw [a6];have au:=ah.frame (m':=m'.up x { nd with ch:=hds ((A++B).take j++e::(A++B).drop j) }) (fun k J=>by
   obtain ⟨q1,q2⟩:=ac k J;rw [L2.fr k q1 q2,Y.fr k q1 q2]) fun ai h=>⟨_,up_eq,by rw [Y.at'] at h;cases h;rfl⟩
  refine ih L2 ?_ o' (fun f hf=>am f (ak.mem_iff.1 hf)) J au fun m2 ai ar a1 a2 a3 ⟨c,hc⟩ a5=>k m2 ai ar a1 a2 a3 ⟨c,hc⟩ a5;rw [List.map_append,List.map_cons,List.map_take,List.map_drop,h2,aq];rfl
end
def mkC:Nat→List HT→List T→List Ch
 | k,h::hs,t::ts=>((k:Int),h,t)::mkC (k+1) hs ts
 | _,_,_=>[]
section
variable {V:Val} {r:Hd} {Q:M→Prop}
theorem mkC_1:∀ {k:Nat} {hs:List HT} {ts:List T},hs.length=ts.length→(mkC k hs ts).map (·.1)=(List.range' k ts.length).map fun (j:Nat)=>(j:Int)
 | k,[],[],_=>rfl
 | k,h::hs,t::ts,e=>by
  rw [mkC,List.map_cons,mkC_1 (by simpa using e),List.length_cons,List.range'_succ,List.map_cons]
theorem mkC_h:∀ {k:Nat} {hs:List HT} {ts:List T},hs.length=ts.length→hds (mkC k hs ts)=hs.map HT.x∧Dj (mkC k hs ts)=HT.alls hs
 | k,[],[],_=>⟨rfl,rfl⟩
 | k,h::hs,t::ts,e=>by
  obtain ⟨h1,h2⟩:=mkC_h (k:=k+1) (hs:=hs) (ts:=ts) (by simpa using e);rw [mkC,Ce,h2,HT.alls];refine ⟨?_,rfl⟩;show _::hds _=_;rw [h1];rfl
theorem Avs:∀ {k:Nat} {hs:List HT} {ts:List T} {e:Ch},e∈mkC k hs ts→∃ j:Nat,e.1=((k+j:Nat):Int)∧hs[j]?=some e.2.1∧ts[j]?=some e.2.2
 | k,h::hs,t::ts,e,he=>by
  rcases List.mem_cons.1 he with rfl | he
  ·exact ⟨0,rfl,rfl,rfl⟩
  ·obtain ⟨j,h1,h2,h3⟩:=Avs he;exact ⟨j+1,by rw [h1];congr 1;omega,h2,h3⟩
theorem mkC_r {m:M} {x:Hd}:∀ {k:Nat} {hs:List HT} {ts:List T},Rs m x hs ts→∀ e,e∈mkC k hs ts→R m (some x) e.2.1 e.2.2
 | k,h::hs,t::ts,r,e,he=>by
  rcases List.mem_cons.1 he with rfl | he
  ·exact r.1
  ·exact mkC_r r.2 e he
theorem ints_eq (n:Nat):ints n=(List.range' 0 n).map fun (j:Nat)=>(j:Int):=by
 unfold ints;rw [List.range_eq_range']
theorem chs_eq {ms:List Int} {D z:List T} {hs:List HT} {cs:List Ch} (Z:ms.length=z.length) (I:cs.map (·.1)=Ii ms ms.length) (U:∀ e,e∈cs→Tg ms D z hs ms.length e):cs.map (·.2.2)=z:=by
 have O:cs.length=ms.length:=by have:=congrArg List.length I;simpa [Ii] using this
 refine List.ext_getElem? fun k=>?_;rcases Nat.lt_or_ge k ms.length with E | E
 ·have J:cs[k]?=some cs[k]:=List.getElem?_eq_getElem tM;have Y:cs[k].1=tok ms k:=by
   have:=congrArg (fun l:List Int=>l[k]?) I;simp only [List.getElem?_map,J,Ii,Option.map_some] at this;rw [List.getElem?_range E] at this;exact Option.some.inj this
  rw [List.getElem?_map,J,((U cs[k] (List.getElem_mem _)) k E Y).1 E];rfl
 ·rw [List.getElem?_eq_none (by rw [List.length_map];omega),List.getElem?_eq_none tM]
theorem ds_safe (hV:V.OK):∀ (d:Nat) {o n:T} {path:List Nat} {l:List Sx},DS V.lt d o n path l→V.tr o→V.tr n→o.kind=n.kind→o.tag=n.tag→SafeN V r Q o n path l
 | 0,_,_,_,_,h,_,_,_,_=>h.elim
 | d+1,o,n,path,l,⟨ms,st,rest0,hm,hst,hl,hlp⟩,ho,hn,hk,ht=>by
  intro m h par anc rest hr hnd ha hanc k;obtain ⟨x,hs⟩:=h;have hx:m x=some ⟨o.kind,o.tag,o.attrs,o.text,par,hs.map HT.x⟩:=hr.x.1;have hrs:Rs m x hs o.ch:=hr.x.2;have ha:Anc m r path x anc:=ha;have k:∀ m' ht',R m' par ht' n→ht'.x=x→ht'.all.Nodup→(∀ k,k∈ht'.all→k∈(HT.nd x hs).all∨m k=none)→(∀ k,k ∉ (HT.nd x hs).all→m k≠none→m' k=m k)→TopK o n (.nd x hs) ht'→Anc m' r path x anc→Safe V r Q rest m':=k;have hlen:=hrs.len;rw [HT.all] at hnd hanc k;have hnd2:=List.nodup_cons.1 hnd;subst hl;rw [List.append_assoc,List.append_assoc];have hanc2:∀ k,k∈anc→k ∉ x::HT.alls hs∧m k≠none:=fun k hk=>⟨hanc k hk,ha.live k hk⟩;have hxa:x ∉ anc:=fun h=>hanc x h (List.mem_cons_self ..);refine own_ok hV ho hn hk hx ha hxa fun m1 hm1 ha1=>?_;obtain ⟨hh,hal⟩:=mkC_h (k:=0) hlen;have hm1k:∀ z,z≠x→m1 z=m z:=fun z hz=>by rw [hm1];exact up_ne hz
  have L0:Lv m m1 (x::HT.alls hs) x ⟨o.kind,o.tag,n.attrs,n.text,par,hs.map HT.x⟩ (mkC 0 hs o.ch):=by
   refine ⟨by rw [hm1];exact up_eq,hh.symm,fun e he=>?_,by rw [hal];exact hnd,fun z hz=>Or.inl (by rw [hal] at hz;exact hz),fun z h1 h2=>hm1k z fun e=>h1 (e ▸ List.mem_cons_self ..)⟩;refine (mkC_r hrs e he).frame fun z hz=>hm1k z fun e2=>hnd2.1 ?_;rw [← hal,← e2];exact List.mem_flatMap.2 ⟨e,he,hz⟩
  have hints:(mkC 0 hs o.ch).map (·.1)=ints o.ch.length:=by rw [mkC_1 hlen,ints_eq]
  have hf:=Rc (V:=V) (r:=r) (Q:=Q) (ms:=ms) (path:=path) (rest:=rest0++rest) hanc2 (mkC 0 hs o.ch) [] L0 (fun e he=>by
   obtain ⟨j,_,_,h3⟩:=Avs he;exact hV.ch ho (List.mem_of_getElem? h3)) ha1
  rw [hints] at hf;refine hf fun m2 nd2 ⟨c2,hc2⟩ L2 ha2=>?_;rw [List.nil_append] at L2;have hrng:∀ i,i < ms.length→ms.getD i (-1) < o.ch.length∧-1≤ms.getD i (-1):=fun i hi=>by
   rcases hm.rng i hi with h | ⟨j,a,b,h1,h2,_⟩
   ·omega
   ·have:=(List.getElem?_eq_some_iff.1 h2).1;omega
  have hord:=Ord.init hst (n:=o.ch.length) (fun i hi=>(hrng i hi).1) fun i hi=>(hrng i hi).2;have hfst:((mkC 0 hs o.ch).filter fun e=>decide (e.1∈ms)).map (·.1)=(ints o.ch.length).filter fun v=>decide (v∈ms):=by
   rw [← hints,List.filter_map];rfl
  have htg:∀ e,e∈((mkC 0 hs o.ch).filter fun e=>decide (e.1∈ms))→Tg ms o.ch n.ch hs 0 e:=fun e he k hk hek=>by
   obtain ⟨j,h1,h2,h3⟩:=Avs (List.mem_filter.1 he).1;have hj:ms.getD k (-1)=(j:Int):=by
    rw [hek] at h1;unfold tok at h1;split at h1
    ·rw [h1];congr 1;omega
    ·omega
   refine ⟨fun h=>by omega,fun _=>?_,fun _=>?_⟩
   ·rw [hj];exact h3
   ·rw [hj];show (hs[j]?).map HT.x=_;rw [h2];rfl
  have hkind:n.ch≠[]→nd2.kind=1:=fun hne=>by
   subst hc2;show o.kind=1
   by_cases h2:n.kind=2
   ·exact absurd (hV.words hn h2).2.1 hne
   ·rw [hk];exact (hV.elem hn h2).1
  refine loop_ok hst hm (fun t ht=>hV.ch hn ht) (fun i k sub hi hpos hP=>?_) hanc2 hlp L2 hfst hord htg hkind ha2 fun m3 nd3 cs L3 h1 h2 ⟨c3,hc3⟩ ha3=>?_
  ·obtain ⟨a,b,h1,h2,h3⟩:=hP;refine ⟨a,b,h1,h2,?_⟩;have hab:a.kind=b.kind∧a.tag=b.tag:=by
    rcases hm.rng i hi with h | ⟨j,a',b',g1,g2,g3,g4,g5⟩
    ·omega
    ·rw [g1] at h1;have e1:o.ch[j]?=some a:=h1;rw [g2] at e1;cases e1;rw [g3] at h2;cases h2;exact ⟨g4,g5⟩
   exact ds_safe hV d h3 (hV.ch ho (List.mem_of_getElem? h1)) (hV.ch hn (List.mem_of_getElem? h2)) hab.1 hab.2
  ·subst hc2 hc3;have hch:cs.map (·.2.2)=n.ch:=chs_eq hm.len h1 h2;refine k m3 (.nd x (cs.map fun e=>e.2.1)) ?_ rfl (by rw [HT.all_eq];exact L3.nd') (fun z hz=>by rw [HT.all_eq] at hz;exact L3.own z hz) L3.fr ?_ ha3
   ·refine R.mk ?_ ?_
    ·rw [L3.at',← hk,← ht];have:=L3.ch;simp only at this;rw [this];unfold hds;rw [List.map_map];rfl
    ·rw [← hch];exact Rs.of L3.r
   ·intro i j a b e1 e2 e3 e4 e5 e6;have hi:i < ms.length:=by rw [hm.len];exact (List.getElem?_eq_some_iff.1 e1).1
    have hmi:=hm.key i j a b e1 e2 e3 e4 e5 e6;have hlen2:cs.length=ms.length:=by have:=congrArg List.length h1;simpa [Ii] using this
    have hc:cs[i]?=some cs[i]:=List.getElem?_eq_getElem tM;have he:cs[i].1=tok ms i:=by
     have:=congrArg (fun l:List Int=>l[i]?) h1;simp only [List.getElem?_map,hc,Ii,Option.map_some] at this;rw [List.getElem?_range hi] at this;exact Option.some.inj this
    have:=((h2 cs[i] (List.getElem_mem _)) i hi he).2.2 tM;rw [hmi] at this;show ((cs.map fun e=>e.2.1)[i]?).map HT.x=(hs[j]?).map HT.x;rw [List.getElem?_map,hc];exact this.symm
end
end Go.V.D
namespace Go.V
instance:Coe D.Hd Blk:=⟨fun k=>.cells [.int .u32 k.ix,.int .u32 k.gen] 50⟩
end Go.V
