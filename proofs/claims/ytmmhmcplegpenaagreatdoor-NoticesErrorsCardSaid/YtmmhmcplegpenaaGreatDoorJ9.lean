/- Lists: what the operations hand back. · The walks, part LC. -/
import Derived.Test.YtmmhmcplegpenaaGreatDoorJ6
import Derived.Test.YtmmhmcplegpenaaGreatDoorJ8
set_option linter.unusedSimpArgs false
set_option linter.unusedVariables false
namespace Go.Proofs.YtmmhmcplegpenaaGreatDoor
open Go Go.Y
def Cq (c:RulesD) (x:ItemD):EntD:=⟨x,Iv c x,false⟩
def Bd (a n m:Int):Prop:=(0≤a∧a≤m)∧(0≤n∧n≤m - a)
instance (a n m:Int):Decidable (Bd a n m):=by unfold Bd;infer_instance
def Lu (xs:List ItemD) (k:Nat):Prop:=∃ y∈xs,y.key=k
theorem L6.has {xs:List ItemD} {k:Nat} {z:Int} (h:L6 xs k z):0≤z↔Lu xs k:=by
 rcases h with ⟨rfl,h⟩ | ⟨i,x,rfl,h1,h2,h3⟩
 ·exact ⟨fun h2=>by omega,fun ⟨y,hy,hk⟩=>absurd hk (h y hy)⟩
 exact ⟨fun _=>⟨x,List.mem_of_getElem? h1,h2⟩,fun _=>by omega⟩
noncomputable def Ny (c:RulesD) (l:List EntD) (xs:List ItemD) (i:Nat):Int:=match xs[i]? with
 | some x=>Ft c x (Dn l x.key∨Lu (xs.take i) x.key)
 | none=>0
theorem Ol {c:RulesD} {l:List EntD} {xs:List ItemD} {i:Nat} {x:ItemD} (h:xs[i]?=some x):Ny c l xs i=Ft c x (Dn l x.key∨Lu (xs.take i) x.key):=by unfold Ny;rw [h]
noncomputable def L7 (c:RulesD) (l:List EntD) (xs:List ItemD):Int:=Cc (Ny c l xs) xs.length
theorem inc_hit {c:RulesD} {l:List EntD} {xs:List ItemD} {i:Nat} {x:ItemD} {z:Int} (h:Cc (Ny c l xs) i=0) (hx:xs[i]?=some x) (hz:Ft c x (Dn l x.key∨Lu (xs.take i) x.key)=z) (h0:z≠0):L7 c l xs=z:=by
 have h1:Ny c l xs i≠0:=by rw [Ol hx,hz];exact h0
 unfold L7;rw [J8 h (Bj hx) h1,Ol hx,hz]
theorem inc_end {c:RulesD} {l:List EntD} {xs:List ItemD} {i:Nat} (h:Cc (Ny c l xs) i=0) (hi:xs.length≤i):L7 c l xs=0:=Eh.2 fun j hj=>Eh.1 h j (by omega)
theorem Wr {f:Nat→Int} (h:∀ i,0≤f i):∀ n,0≤Cc f n
 | 0=>Int.le_refl _
 | n+1=>by simp only [Cc];split;exact h n;exact Wr h n
theorem inc_nn {c:RulesD} {l:List EntD} {xs:List ItemD}:0≤L7 c l xs:=Wr (fun i=>by unfold Ny;split;exact Aam;decide) _
def Dd (l:List EntD) (p n:Nat) (fr:List EntD):List EntD:=l.take p++fr++l.drop (p+n)
open Classical in
noncomputable def E2 (c:RulesD) (l:List EntD) (a:Int) (xs:List ItemD):List EntD × Int :=
 if ¬ Bd a 0 l.length then ([],4) else if 1024 < l.length+xs.length then ([],3) else if L7 c l xs≠0 then ([],L7 c l xs)
 else if D9 (Dd l a.toNat 0 (xs.map (Cq c)))≠0 then ([],13) else (Dd l a.toNat 0 (xs.map (Cq c)),0)
section
variable {c:RulesD} {l:List EntD} {a:Int} {xs:List ItemD} {p:Nat}
theorem Wn (h:¬ Bd a 0 l.length):E2 c l a xs=([],4):=by unfold E2;rw [if_pos h]
theorem Afx (h:Bd a 0 l.length) (h2:1024 < l.length+xs.length):E2 c l a xs=([],3):=by unfold E2;rw [if_neg (not_not_intro h),if_pos h2]
theorem Afw (h:Bd a 0 l.length) (h2:¬ 1024 < l.length+xs.length) (h3:L7 c l xs≠0):E2 c l a xs=([],L7 c l xs):=by unfold E2;rw [if_neg (not_not_intro h),if_neg h2,if_pos h3]
theorem Yf (h:Bd a 0 l.length) (h2:¬ 1024 < l.length+xs.length) (h3:L7 c l xs=0) (h4:D9 (Dd l a.toNat 0 (xs.map (Cq c)))≠0):E2 c l a xs=([],13):=by
 unfold E2;rw [if_neg (not_not_intro h),if_neg h2,if_neg (not_not_intro h3),if_pos h4]
theorem Wo (h:Bd a 0 l.length) (h2:¬ 1024 < l.length+xs.length) (h3:L7 c l xs=0) (h4:D9 (Dd l a.toNat 0 (xs.map (Cq c)))=0):E2 c l a xs=(Dd l a.toNat 0 (xs.map (Cq c)),0):=by
 unfold E2;rw [if_neg (not_not_intro h),if_neg h2,if_neg (not_not_intro h3),if_neg (not_not_intro h4)]
end
def Ic (l:List EntD) (a n:Int):List EntD × Int:=if Bd a n l.length then (Dd l a.toNat n.toNat [],0) else ([],4)
theorem Aew {l:List EntD} {a n:Int} (h:¬ Bd a n l.length):Ic l a n=([],4):=by unfold Ic;rw [if_neg h]
theorem Vw {l:List EntD} {a n:Int} (h:Bd a n l.length):Ic l a n=(Dd l a.toNat n.toNat [],0):=by unfold Ic;rw [if_pos h]
def Pg (l:List EntD) (p n q:Nat):List EntD:=Dd (Dd l p n []) q 0 ((l.drop p).take n)
def Gr (l:List EntD) (a n b:Int):List EntD × Int:=if Bd a n l.length∧Bd b 0 (l.length - n) then (Pg l a.toNat n.toNat b.toNat,0) else ([],4)
theorem Afi {l:List EntD} {a n b:Int} (h:¬ (Bd a n l.length∧Bd b 0 (l.length - n))):Gr l a n b=([],4):=by unfold Gr;rw [if_neg h]
theorem Afj {l:List EntD} {a n b:Int} (h:Bd a n l.length∧Bd b 0 (l.length - n)):Gr l a n b=(Pg l a.toNat n.toNat b.toNat,0):=by unfold Gr;rw [if_pos h]
open Classical in
noncomputable def Px (c:RulesD) (x:ItemD) (other:Prop):Int:=if ¬ ItemOk (c.kinds.length:Int) x then 6 else if other then 9 else if Hv c x=0 then 0 else 14
section
variable {c:RulesD} {x:ItemD} {other:Prop}
theorem Aen (h:¬ ItemOk (c.kinds.length:Int) x):Px c x other=6:=by unfold Px;rw [if_pos h]
theorem Aem (h:ItemOk (c.kinds.length:Int) x) (h2:other):Px c x other=9:=by unfold Px;rw [if_neg (not_not_intro h),if_pos h2]
theorem Yt (h:ItemOk (c.kinds.length:Int) x) (h2:¬ other) (h3:¬ Hv c x=0):Px c x other=14:=by unfold Px;rw [if_neg (not_not_intro h),if_neg h2,if_neg h3]
theorem Apj (h:ItemOk (c.kinds.length:Int) x) (h2:¬ other) (h3:Hv c x=0):Px c x other=0:=by unfold Px;rw [if_neg (not_not_intro h),if_neg h2,if_pos h3]
theorem Ajm:Px c x other=0↔ItemOk (c.kinds.length:Int) x∧¬ other∧Hv c x=0:=by
 unfold Px
 split
 ·rename_i h;exact ⟨fun h2=>(by cases h2),fun h2=>absurd h2.1 h⟩
 rename_i h
 split
 ·rename_i h1;exact ⟨fun h2=>(by cases h2),fun h2=>absurd h1 h2.2.1⟩
 rename_i h1
 split
 ·rename_i h2;exact ⟨fun _=>⟨Classical.byContradiction h,h1,h2⟩,fun _=>rfl⟩
 rename_i h2;exact ⟨fun h3=>(by cases h3),fun h3=>absurd h3.2.2 h2⟩
end
def Oe (l:List EntD) (p:Nat) (k:Nat):Prop:=∀ y,l[p]?=some y→y.item.key≠k
noncomputable def Jh (c:RulesD) (l:List EntD) (p:Nat) (xs:List ItemD) (i:Nat):Int:=match xs[i]? with
 | some x=>Px c x (Oe l (p+i) x.key)
 | none=>0
theorem Ur {c:RulesD} {l:List EntD} {p:Nat} {xs:List ItemD} {i:Nat} {x:ItemD} (h:xs[i]?=some x):Jh c l p xs i=Px c x (Oe l (p+i) x.key):=by unfold Jh;rw [h]
open Classical in
noncomputable def Hn (c:RulesD) (l:List EntD) (a:Int) (xs:List ItemD):List EntD × Int :=
 if ¬ Bd a xs.length l.length then ([],4) else if Cc (Jh c l a.toNat xs) xs.length≠0 then ([],Cc (Jh c l a.toNat xs) xs.length)
 else if D9 (Dd l a.toNat xs.length (xs.map (Cq c)))≠0 then ([],13) else (Dd l a.toNat xs.length (xs.map (Cq c)),0)
section
variable {c:RulesD} {l:List EntD} {a:Int} {xs:List ItemD} {i:Nat} {x:ItemD}
theorem Ags (h:¬ Bd a xs.length l.length):Hn c l a xs=([],4):=by unfold Hn;rw [if_pos h]
theorem Wz {z:Int} (h:Bd a xs.length l.length) (h2:Cc (Jh c l a.toNat xs) i=0) (hx:xs[i]?=some x) (hz:Px c x (Oe l (a.toNat+i) x.key)=z) (h0:z≠0):Hn c l a xs=([],z):=by
 have h1:Jh c l a.toNat xs i≠0:=by rw [Ur hx,hz];exact h0
 have h3:=J8 h2 (Bj hx) h1;rw [Ur hx,hz] at h3;unfold Hn;rw [if_neg (not_not_intro h),if_pos (by rw [h3];exact h0),h3]
theorem Ys (h:Bd a xs.length l.length) (h2:Cc (Jh c l a.toNat xs) xs.length=0) (h4:D9 (Dd l a.toNat xs.length (xs.map (Cq c)))≠0):Hn c l a xs=([],13):=by
 unfold Hn;rw [if_neg (not_not_intro h),if_neg (not_not_intro h2),if_pos h4]
theorem Agt (h:Bd a xs.length l.length) (h2:Cc (Jh c l a.toNat xs) xs.length=0) (h4:D9 (Dd l a.toNat xs.length (xs.map (Cq c)))=0):Hn c l a xs=(Dd l a.toNat xs.length (xs.map (Cq c)),0):=by
 unfold Hn;rw [if_neg (not_not_intro h),if_neg (not_not_intro h2),if_neg (not_not_intro h4)]
theorem chg_ok {p:Nat} (h2:Cc (Jh c l p xs) i=0) (hx:xs[i]?=some x) (hz:Px c x (Oe l (p+i) x.key)=0):Cc (Jh c l p xs) (i+1)=0:=by rw [Gt h2,Ur hx,hz]
end
def Kc (l:List EntD) (p:Nat) (fr:List EntD) (i:Nat):List EntD:=(l.take i).take p++(if p < i then fr else [])++(l.take i).drop p
theorem Wp (l:List EntD) (p:Nat) (fr:List EntD):Kc l p fr 0=[]:=by simp [Kc]
theorem K2 {l:List EntD} {i:Nat} {x:EntD} (h:l[i]?=some x):l.take (i+1)=l.take i++[x]:=by rw [List.take_add_one,h];rfl
theorem Hx {l:List EntD} {fr:List EntD} {i p:Nat} {x:EntD} (h:l[i]?=some x) (hp:i=p):Kc l p fr i++fr++[x]=Kc l p fr (i+1):=by
 subst hp;have hl:(l.take i).length=i:=by rw [List.length_take];have:=Bj h;omega
 unfold Kc;rw [K2 h,if_neg (Nat.lt_irrefl i),if_pos (Nat.lt_succ_self i),List.take_append_of_le_length (by omega),List.drop_append_of_le_length (by omega)]
 simp
theorem Gm {l:List EntD} {p:Nat} {fr:List EntD} {i:Nat} {x:EntD} (h:l[i]?=some x) (hp:i≠p):Kc l p fr i++[x]=Kc l p fr (i+1):=by
 have hl:(l.take i).length=i:=by rw [List.length_take];have:=Bj h;omega
 unfold Kc;rw [K2 h]
 rcases Nat.lt_or_ge p i with h1 | h1
 ·rw [if_pos h1,if_pos (by omega),List.take_append_of_le_length (by omega),List.drop_append_of_le_length (by omega)]
  simp
 have h2:i < p:=by omega
 have e1:(l.take i).take p=l.take i:=List.take_of_length_le (by omega);have e2:(l.take i++[x]).take p=l.take i++[x]:=List.take_of_length_le (by simp;omega);have e3:(l.take i).drop p=[]:=List.drop_eq_nil_of_le (by omega);have e4:(l.take i++[x]).drop p=[]:=List.drop_eq_nil_of_le (by simp;omega);rw [if_neg (by omega),if_neg (by omega),e1,e2,e3,e4]
 simp
theorem Aao {l:List EntD} {p:Nat} {fr:List EntD} {i:Nat} (hp:p≤l.length) (hi:l.length < i):Kc l p fr i=Dd l p 0 fr:=by
 unfold Kc Dd;rw [List.take_of_length_le (show l.length≤i by omega),if_pos (by omega),Nat.add_zero]
theorem Ga {l:List EntD} {p:Nat} {fr:List EntD} {i:Nat} (hi:i=l.length) (hp:i=p):Kc l p fr i++fr=Kc l p fr (i+1):=by
 subst hp;unfold Kc;rw [List.take_of_length_le (show l.length≤i by omega),List.take_of_length_le (show l.length≤i+1 by omega),if_neg (Nat.lt_irrefl i),if_pos (Nat.lt_succ_self i),List.drop_eq_nil_of_le (by omega)]
 simp
theorem E6 {l:List EntD} {p:Nat} {fr:List EntD} {i:Nat} (hi:i=l.length) (hp:i≠p) (hpl:p≤l.length):Kc l p fr i=Kc l p fr (i+1):=by
 unfold Kc;rw [List.take_of_length_le (show l.length≤i by omega),List.take_of_length_le (show l.length≤i+1 by omega),if_pos (by omega),if_pos (by omega)]
def Tg (l:List EntD) (p n i:Nat):List EntD:=(l.take i).take p++(l.take i).drop (p+n)
theorem Aht (l:List EntD) (p n:Nat):Tg l p n 0=[]:=by simp [Tg]
theorem Aex {l:List EntD} {p n i:Nat} {x:EntD} (h:l[i]?=some x) (hi:i < p∨p+n≤i):Tg l p n i++[x]=Tg l p n (i+1):=by
 have hl:(l.take i).length=i:=by rw [List.length_take];have:=Bj h;omega
 unfold Tg;rw [K2 h]
 rcases hi with h1 | h1
 ·have e1:(l.take i).take p=l.take i:=List.take_of_length_le (by omega);have e2:(l.take i++[x]).take p=l.take i++[x]:=List.take_of_length_le (by simp;omega);have e3:(l.take i).drop (p+n)=[]:=List.drop_eq_nil_of_le (by omega);have e4:(l.take i++[x]).drop (p+n)=[]:=List.drop_eq_nil_of_le (by simp;omega);rw [e1,e2,e3,e4]
  simp
 rw [List.take_append_of_le_length (by omega),List.drop_append_of_le_length (by omega)]
 simp
theorem Aku {l:List EntD} {p n i:Nat} {x:EntD} (h:l[i]?=some x) (h1:p≤i) (h2:i < p+n):Tg l p n i=Tg l p n (i+1):=by
 have hl:(l.take i).length=i:=by rw [List.length_take];have:=Bj h;omega
 unfold Tg;rw [K2 h,List.take_append_of_le_length (by omega),List.drop_eq_nil_of_le (by omega),List.drop_eq_nil_of_le (by simp;omega)]
theorem Akv {l:List EntD} {p n i:Nat} (hi:l.length≤i):Tg l p n i=Dd l p n []:=by
 unfold Tg Dd;rw [List.take_of_length_le hi];simp
theorem Ajl {l:List EntD} {p i:Nat} {fr:List EntD} {x:EntD} (hx:fr[i]?=some x) (hp:p+fr.length≤l.length):(Dd l p i (fr.take i)).set (p+i) x=Dd l p (i+1) (fr.take (i+1)):=by
 have hi:=Bj hx;unfold Dd;rw [K2 hx];have h1:(l.take p).length=p:=by rw [List.length_take];omega
 have h2:(fr.take i).length=i:=by rw [List.length_take];omega
 rw [List.set_append_right _ _ (by simp;omega)];have h3:p+i - (l.take p++fr.take i).length=0:=by rw [List.length_append,h1,h2];omega
 have h4:l.drop (p+i)=l[p+i]'(by omega)::l.drop (p+(i+1)):=by rw [List.drop_eq_getElem_cons (by omega)];rfl
 rw [h3,h4,List.set_cons_zero]
 simp
theorem Ajk (l:List EntD) (p:Nat):Dd l p 0 []=l:=by unfold Dd;simp
theorem J4 {l:List EntD} {p n:Nat} {fr:List EntD} (h:p+n≤l.length):(Dd l p n fr).length=l.length - n+fr.length:=by
 unfold Dd;simp;omega
theorem K7 {l:List EntD} {p n:Nat} (h:p+n≤l.length):(Dd l p n []).length=l.length - n:=by rw [J4 h];simp
open Go Go.Y Go.Proofs
variable {w0 w:World} {G:A4} {L:List Res}
theorem R8 {p q:Prop} [Decidable p] [Decidable q] (h:p↔q):(if p then (1:Int) else 0)=if q then 1 else 0:=by
 by_cases hp:p
 ·rw [if_pos hp,if_pos (h.1 hp)]
 rw [if_neg hp,if_neg (fun hq=>hp (h.2 hq))]
theorem T8 {b:Bool}:(if b=true then (1:Int) else 0)=1↔b=true:=by
 split
 ·rename_i h;exact ⟨fun _=>h,fun _=>rfl⟩
 rename_i h;exact ⟨fun h2=>(by cases h2),fun h2=>absurd h2 h⟩
theorem Gx {a n m:Int}:(if Bd a n m then (1:Int) else 0)=0↔¬ Bd a n m:=by
 split
 ·rename_i h;exact ⟨fun h2=>(by cases h2),fun h2=>absurd h h2⟩
 rename_i h;exact ⟨fun _=>h,fun _=>rfl⟩
theorem Adf {c:RulesD} {x:ItemD} {sn:Prop} (h:¬ 0 < Ft c x sn):Ft c x sn=0:=by have:=Aam (c:=c) (x:=x) (seen:=sn);omega
theorem inc_ok {c:RulesD} {l:List EntD} {xs:List ItemD} (h:L7 c l xs=0) {i:Nat} {x:ItemD} (hx:xs[i]?=some x):ItemOk (c.kinds.length:Int) x:=by
 have h1:=Eh.1 h i (Bj hx);rw [Ol hx] at h1
 exact (Gj.1 h1).1
theorem Tf {c:RulesD} {G:A4} {a:Option Addr} {n:Nat} (S:Au C6 9 G (.slice a c.kinds.length n) c.kinds) {x:ItemD} {k:KindD} (h:c.kinds[x.typ]?=some k):Bb .i64 (Iv c x):=by
 rw [Hd h];obtain ⟨b,o,cs,_,_,_,_,hr⟩:=S.index h;obtain ⟨_,_,_,h3⟩:=hr
 exact h3
theorem Kp (M:Mem w0 G L w) {z n m:Int} (hm:0≤m∧m≤9223372036854775807):Calls Tryz.prog 121 #[.int .i64 z,.int .i64 n,.int .i64 m] w (Cs w0 G L fun v=>v=.int .i64 (if Bd z n m then (1:Int) else 0)):=by
 refine Ay (vs:=[_,_,_]) Tryz.func121 rfl (n:=26) rfl rfl<|Ac<|Ab rfl<|Ac<|Aa rfl<|Kv rfl rfl<|Aa rfl<|?_
 rcases bE (decide (0≤z)) with h1b | h6b
 ·skip
  have h1:=dT h1b;refine g_t rfl h1b<|Aa rfl<|g_t rfl h1b<|Aa rfl<|g_t rfl h1b<|Jk rfl rfl<|Bh rfl h1b rfl<|Aa rfl<|?_
  rcases bE (decide (z≤m)) with h2b | h5b
  ·skip
   have h2:=dT h2b;refine g_t rfl h2b<|Aa rfl<|g_t rfl h2b<|Kv rfl rfl<|Bh rfl h2b rfl<|Aa rfl<|?_
   rcases bE (decide (0≤n)) with h3b | h4b
   ·skip
    have h3:=dT h3b;refine g_t rfl h3b<|Aa rfl<|g_t rfl h3b<|Aa rfl<|g_t rfl h3b<|Aa rfl<|g_t rfl h3b<|Q4 rfl rfl<|g_t rfl h3b<|Jk rfl rfl<|Bh rfl h3b rfl<|Bs Uf rfl rfl (Lt (b:=(decide (n≤m - z))) M)<|?_;clear M;rintro _ w M rfl
    refine Ab rfl<|Ae<|Ad rfl rfl<|?_
    exact ⟨M,by rw [R8 (show ((decide (n≤m - z))=true)↔Bd z n m by unfold Bd;first | (simp only [decide_eq_true_eq];omega) | (simp only [Bool.false_eq_true,false_iff];omega))]⟩
   have h4:=dF h4b;refine g_f rfl h4b<|g_f rfl h4b<|g_f rfl h4b<|g_f rfl h4b<|g_f rfl h4b<|Be rfl h4b rfl<|Bs Uf rfl rfl (Lt (b:=false) M)<|?_;clear M;rintro _ w M rfl
   refine Ab rfl<|Ae<|Ad rfl rfl<|?_
   exact ⟨M,by rw [R8 (show (false=true)↔Bd z n m by unfold Bd;first | (simp only [decide_eq_true_eq];omega) | (simp only [Bool.false_eq_true,false_iff];omega))]⟩
  have h5:=dF h5b;refine g_f rfl h5b<|g_f rfl h5b<|Be rfl h5b rfl<|Aa rfl<|g_f rfl rfl<|g_f rfl rfl<|g_f rfl rfl<|g_f rfl rfl<|g_f rfl rfl<|Be rfl rfl rfl<|Bs Uf rfl rfl (Lt (b:=false) M)<|?_;clear M;rintro _ w M rfl
  refine Ab rfl<|Ae<|Ad rfl rfl<|?_
  exact ⟨M,by rw [R8 (show (false=true)↔Bd z n m by unfold Bd;first | (simp only [decide_eq_true_eq];omega) | (simp only [Bool.false_eq_true,false_iff];omega))]⟩
 have h6:=dF h6b;refine g_f rfl h6b<|g_f rfl h6b<|g_f rfl h6b<|Be rfl h6b rfl<|Aa rfl<|g_f rfl rfl<|g_f rfl rfl<|Be rfl rfl rfl<|Aa rfl<|g_f rfl rfl<|g_f rfl rfl<|g_f rfl rfl<|g_f rfl rfl<|g_f rfl rfl<|Be rfl rfl rfl<|Bs Uf rfl rfl (Lt (b:=false) M)<|?_;clear M;rintro _ w M rfl
 refine Ab rfl<|Ae<|Ad rfl rfl<|?_
 exact ⟨M,by rw [R8 (show (false=true)↔Bd z n m by unfold Bd;first | (simp only [decide_eq_true_eq];omega) | (simp only [Bool.false_eq_true,false_iff];omega))]⟩
theorem Q8 (M:Mem w0 G L w) {c:RulesD} {kca:Option Addr} {kcc:Nat} (SC:Au C6 9 G (.slice kca c.kinds.length kcc) c.kinds) {x:ItemD} {ma:Option Addr} {mc:Nat} (hI:(x.key < 18446744073709551616∧x.typ < 256∧x.text.length≤9223372036854775807)) (SM:Au D3 1 G (.slice ma x.marks.length mc) x.marks) {k:KindD} (hK:c.kinds[x.typ]?=some k):Calls Tryz.prog 67 #[.agg #[.slice kca c.kinds.length kcc,.int .i64 c.cap],.agg #[.int .u64 ((x.key:Nat):Int),.int .u8 ((x.typ:Nat):Int),.string (str x.text),.slice ma x.marks.length mc]] w (Cs w0 G L fun v=>v=.agg #[.int .u64 ((x.key:Nat):Int),.int .u8 ((x.typ:Nat):Int),.string (str x.text),.slice ma x.marks.length mc,.int .i64 (Iv c x),.bool false]):=by
 refine Ay (vs:=[_,_]) Tryz.func67 rfl (n:=14) rfl rfl<|Ac<|Cz M rfl rfl rfl<|?_;clear M;intro b1 w M
 refine Cz M rfl rfl rfl<|?_;clear M;intro b2 w M
 refine C9 M Bu rfl rfl<|?_;clear M;intro b3 w M
 refine Ag<|fun a F=>Fg [(.pure,0),(.free,1),(.pure,2),(.free,3),(.pure,4),(.free,5),(.free,6),(.pure,7),(.free,8),(.chg,9)] [9] (Keep G [.blk b2 [.int .u64 ((x.key:Nat):Int),.int .u8 ((x.typ:Nat):Int),.string (str x.text),.slice ma x.marks.length mc] 26,.blk b1 [.slice kca c.kinds.length kcc,.int .i64 c.cap] 51]) rfl (by kernel_rfl) (fun c a d v w h=>by cases d <;> exact h) (Bo (M.drew _)) ?_
 replace M:=M.drew (w.drawn+1);revert a;refine k_p (fun a F w M=>Af Bf rfl (F.ev rfl) (cs:=[.int .u64 ((x.key:Nat):Int),.int .u8 ((x.typ:Nat):Int),.string (str x.text),.slice ma x.marks.length mc]) rfl (M.cellsL (k:=0) rfl rfl)) rfl<|k_f (fun a F w _=>Ce Co.k rfl F rfl) rfl<|k_p (fun a F w M=>Al (agf Dr rfl) (F.ev rfl) (M.cellL (k:=1) rfl rfl)) rfl<|k_f (fun a F w _=>Ce Bf.k rfl F rfl) rfl<|k_p (fun a F w M=>Al (agf Fa rfl) (F.ev rfl) (M.cellL (k:=0) rfl rfl)) rfl<|?_
 obtain ⟨be5,oe5,_,Ie5,_,Ae5,hTe5⟩:=SC.at hK;obtain ⟨c1e5,hcse5,hPe5,hBe5⟩:=hTe5;obtain ⟨tae5,tce5,kae5,kce5,rfl,hke5,hle5,SAe5,SKe5⟩:=Di hPe5;subst hcse5;have hQe5:-9223372036854775808≤k.base∧k.base≤9223372036854775807:=hBe5;refine k_f (fun a F w _=>Bt Dr.k Fz (F.ev rfl) (F.ev rfl) (by omega) Ie5) rfl<|k_f (fun a F w _=>Ce Fz.k rfl F rfl) rfl<|k_p (fun a F w M=>Al (agf Ld rfl) (F.ev rfl) (M.cellA Ae5 6 rfl rfl)) rfl<|k_f (fun a F w _=>A3 (cs:=[.int .u64 ((x.key:Nat):Int),.int .u8 ((x.typ:Nat):Int),.string (str x.text),.slice ma x.marks.length mc,.int .i64 k.base,.bool false]) (ps:=[(0,.agg #[.int .u64 ((x.key:Nat):Int),.int .u8 ((x.typ:Nat):Int),.string (str x.text),.slice ma x.marks.length mc]),(1,.int .i64 k.base)]) Bu.k rfl Bu (F.evp rfl) rfl) rfl<|k_c rfl<|fun a F=>?_
 refine Cj F M Bu 0 ?_;clear F M a;intro w a M F;change Mem w0 G (.blk b3 [.int .u64 ((x.key:Nat):Int),.int .u8 ((x.typ:Nat):Int),.string (str x.text),.slice ma x.marks.length mc,.int .i64 k.base,.bool false] 69::_::_::L) _ at M;revert a;refine Bc<|fun a F=>⟨Keep G [.blk b3 [.int .u64 ((x.key:Nat):Int),.int .u8 ((x.typ:Nat):Int),.string (str x.text),.slice ma x.marks.length mc,.int .i64 k.base,.bool false] 69,.blk b2 [.int .u64 ((x.key:Nat):Int),.int .u8 ((x.typ:Nat):Int),.string (str x.text),.slice ma x.marks.length mc] 26,.blk b1 [.slice kca c.kinds.length kcc,.int .i64 c.cap] 51],M.keep (Gle.refl _) (by simp),?_⟩
 revert a;refine De<|Ae<|fun a F=>L5 F M (k:=0) rfl rfl Bu rfl rfl rfl ?_
 exact ⟨M.weaken dS3,by rw [Hd hK]⟩
theorem Aaq (M:Mem w0 G L w) {c:RulesD} {kca:Option Addr} {kcc:Nat} (SC:Au C6 9 G (.slice kca c.kinds.length kcc) c.kinds) (hvc:D2 c) {a1:Option Addr} {c1:Nat} {l:List EntD} (S:Au Ca 6 G (.slice a1 l.length c1) l) {ta:Option Addr} {tc:Nat} {xs:List ItemD} (T:Au Cv 4 G (.slice ta xs.length tc) xs):Calls Tryz.prog 120 #[.agg #[.slice kca c.kinds.length kcc,.int .i64 c.cap],.slice a1 l.length c1,.slice ta xs.length tc] w (Cs w0 G L fun v=>v=.int .i64 (L7 c l xs)):=by
 have bS:=S.bound;have bT:=T.bound;refine Ay (vs:=[_,_,_]) Tryz.func120 rfl (n:=51) rfl rfl<|Ac<|Cz M rfl rfl rfl<|?_;clear M;intro b1 w M
 refine Ab rfl<|Ag<|Ac<|Ab rfl<|Ax<|fun a F=>Bz (fun m a' w'=>∃ (i:Nat),m=xs.length - i∧Fits 51 a' [(1,.slice a1 l.length c1),(2,.slice ta xs.length tc),(3,.pointer (some ⟨b1,0,none⟩)),(7,.int .i64 ((i:Nat):Int))]∧Mem w0 G (.blk b1 [.slice kca c.kinds.length kcc,.int .i64 c.cap] 51::L) w'∧(i≤xs.length)∧(Cc (Ny c l xs) i=0)) _ ⟨0,rfl,F.to ⟨rfl,rfl,rfl,rfl,trivial⟩,M,Nat.zero_le _,rfl⟩ ?_
 clear F M;rintro m a w ⟨i,rfl,F,M,hi,hS⟩;revert a;refine Ag<|Ac<|Aa rfl<|Aa rfl<|B8 B9.k rfl<|C2 rfl rfl<|Ap rfl ?_ ?_
 ·intro h2b;have h2:=dT h2b;refine Aq<|Ag<|Ax<|Ag<|?_
  obtain ⟨Xi,hXi⟩:=A2 (xs:=xs) (i:=i) (by omega);intro a F;refine Mb (fun a' w'=>∃ (sn:Int),Fits 51 a' [(1,.slice a1 l.length c1),(2,.slice ta xs.length tc),(3,.pointer (some ⟨b1,0,none⟩)),(7,.int .i64 ((i:Nat):Int)),(8,.int .i64 sn)]∧Mem w0 G (.blk b1 [.slice kca c.kinds.length kcc,.int .i64 c.cap] 51::L) w'∧(sn=1↔Dn l Xi.key∨Lu (xs.take i) Xi.key)) ?_ ?_
  ·skip
   refine Fg [(.free,0),(.free,1),(.free,2),(.free,3),(.free,4),(.pure,5),(.keep,6),(.free,7),(.free,8),(.free,9),(.free,10),(.free,11),(.free,12),(.free,13),(.free,14),(.free,15),(.pure,16),(.keep,17),(.free,18),(.free,19),(.keep,20),(.free,21)] [] (Keep G [.blk b1 [.slice kca c.kinds.length kcc,.int .i64 c.cap] 51]) rfl (by kernel_rfl) (fun c a d v w h=>by cases d <;> exact h) (Bo (M.drew _)) ?_;replace M:=M.drew (w.drawn+1);revert a;refine k_f (fun a F w _=>B1 F rfl) rfl<|k_f (fun a F w _=>B1 F rfl) rfl<|k_f (fun a F w _=>B1 F rfl) rfl<|?_
   obtain ⟨be3,oe3,_,Ie3,_,Ae3,hTe3⟩:=T.at hXi;obtain ⟨mae3,mce3,rfl,hke3,hte3,hxe3,hne3,SMe3⟩:=hTe3;have hIe3:(Xi.key < 18446744073709551616∧Xi.typ < 256∧Xi.text.length≤9223372036854775807):=⟨hke3,hte3,hxe3⟩;refine k_f (fun a F w _=>Bt B9.k Bf (F.ev rfl) (F.ev rfl) (by omega) Ie3) rfl<|k_f (fun a F w _=>Ce Bf.k rfl F rfl) rfl<|k_p (fun a F w M=>Al (agf El rfl) (F.ev rfl) (M.cellA Ae3 0 rfl rfl)) rfl<|k_k rfl<|Bs ent79 rfl rfl (Q9 (l:=l) (k:=Xi.key) M S)<|?_;clear M;rintro _ w M ⟨z4,rfl,hz4⟩
   refine eQ (Bo M)<|k_f (fun a F w _=>Ry (F.ev rfl) (F.ev rfl)) rfl<|k_f (fun a F w _=>B1 F rfl) rfl<|?_
   rcases bE (decide (0≤z4)) with h5b | h6b
   ·skip
    have h5:=dT h5b;refine k_s rfl h5b<|k_s rfl h5b<|k_s rfl h5b<|k_s rfl h5b<|k_s rfl h5b<|k_s rfl h5b<|k_s rfl h5b<|k_s rfl h5b<|k_s rfl h5b<|k_s rfl h5b<|k_f (fun a F w _=>F5 F rfl h5b rfl) rfl<|k_k rfl<|Bs Uf rfl rfl (Lt (b:=true) M)<|?_;clear M;rintro _ w M rfl
    refine eQ (Bo M)<|k_f (fun a F w _=>G8 F rfl) rfl<|De<|fun a F=>?_
    exact ⟨(if true=true then (1:Int) else 0),F.to ⟨rfl,rfl,rfl,rfl,rfl,trivial⟩,M,by clear F M;rw [← hz4.has];first | (simp only [T8,decide_eq_true_eq];omega) | (simp only [T8,true_iff];omega) | simp_all⟩
   have h6:=dF h6b;refine Cb rfl h6b (fun a F w _=>B1 F rfl)<|Cb rfl h6b (fun a F w _=>B1 F rfl)<|?_
   obtain ⟨as7,cs7,Is7,hms7,hcs7,Ss7⟩:=T.partT (i) (by omega);refine Cb rfl h6b (fun a F w _=>Ip B9.k Bf Is7 (F.ev rfl) (h:=i) (kl:=.i64) (zl:=0) rfl ⟨(F.ev rfl),by omega⟩ (by omega) (by omega))<|Cb rfl h6b (fun a F w _=>B1 F rfl)<|Cb rfl h6b (fun a F w _=>B1 F rfl)<|?_
   obtain ⟨be8,oe8,_,Ie8,_,Ae8,hTe8⟩:=T.at hXi;obtain ⟨mae8,mce8,rfl,hke8,hte8,hxe8,hne8,SMe8⟩:=hTe8;have hIe8:(Xi.key < 18446744073709551616∧Xi.typ < 256∧Xi.text.length≤9223372036854775807):=⟨hke8,hte8,hxe8⟩;refine Cb rfl h6b (fun a F w _=>Bt B9.k Bf (F.ev rfl) (F.ev rfl) (by omega) Ie8)<|Cb rfl h6b (fun a F w _=>Ce Bf.k rfl F rfl)<|Gk rfl h6b (fun a F w M=>Al (agf El rfl) (F.ev rfl) (M.cellA Ae8 0 rfl rfl))<|fun a F=>G3 F rfl rfl h6b ?_
   revert a;refine g_t rfl h6b<|?_
   have hl9:i - 0=(xs.take (i)).length:=by rw [List.length_take];omega
   intro a F;rw [hl9] at F Ss7;revert a;refine Bs ent61 rfl rfl (Acy (xs:=xs.take (i)) (k:=Xi.key) M Ss7)<|?_;clear M;rintro _ w M ⟨z10,rfl,hz10⟩
   refine eQ (Bo M)<|Cb rfl h6b (fun a F w _=>Ry (F.ev rfl) (F.ev rfl))<|k_f (fun a F w _=>Fx F rfl h6b rfl) rfl<|k_k rfl<|Bs Uf rfl rfl (Lt (b:=(decide (0≤z10))) M)<|?_;clear M;rintro _ w M rfl
   refine eQ (Bo M)<|k_f (fun a F w _=>G8 F rfl) rfl<|De<|fun a F=>?_
   exact ⟨(if (decide (0≤z10))=true then (1:Int) else 0),F.to ⟨rfl,rfl,rfl,rfl,rfl,trivial⟩,M,by clear F M;rw [← hz4.has];rw [← hz10.has];first | (simp only [T8,decide_eq_true_eq];omega) | (simp only [T8,true_iff];omega) | simp_all⟩
  clear F M;rintro a w ⟨sn,F,M,hsn⟩;revert a;refine Ag<|fun a F=>Gh [(true,0),(true,1),(true,2),(true,3),(true,4),(true,5),(false,6),(true,7)] (Keep G [.blk b1 [.slice kca c.kinds.length kcc,.int .i64 c.cap] 51]) rfl (by kernel_rfl) (fun c a d v w h=>by cases d <;> exact h) (Bo (M.drew _)) ?_
  replace M:=M.drew (w.drawn+1);revert a;refine l_r (fun a F w M=>Af Co rfl (F.ev rfl) (cs:=[.slice kca c.kinds.length kcc,.int .i64 c.cap]) rfl (M.cellsL (k:=0) rfl rfl)) rfl<|l_r (fun a F w M=>B1 F rfl) rfl<|l_r (fun a F w M=>B1 F rfl) rfl<|?_
  obtain ⟨be11,oe11,_,Ie11,_,Ae11,hTe11⟩:=T.at hXi;obtain ⟨mae11,mce11,rfl,hke11,hte11,hxe11,hne11,SMe11⟩:=hTe11;have hIe11:(Xi.key < 18446744073709551616∧Xi.typ < 256∧Xi.text.length≤9223372036854775807):=⟨hke11,hte11,hxe11⟩;refine l_r (fun a F w M=>Bt B9.k Bf (F.ev rfl) (F.ev rfl) (by omega) Ie11) rfl<|l_r (fun a F w M=>Af Bf rfl (F.ev rfl) (cs:=[.int .u64 ((Xi.key:Nat):Int),.int .u8 ((Xi.typ:Nat):Int),.string (str Xi.text),.slice mae11 Xi.marks.length mce11]) rfl (M.cellsA Ae11 0 (by omega) rfl)) rfl<|l_r (fun a F w M=>B1 F rfl) rfl<|l_a rfl<|Bs Agm rfl rfl (Lj (c:=c) (x:=Xi) (sn:=sn) M SC hvc hIe11 SMe11)<|?_;clear M;rintro _ w M rfl
  refine eQ (Bo M)<|l_r (fun a F w M=>Hw (F.ev rfl) (F.ev rfl)) rfl<|Hq<|Ap rfl ?_ ?_
  ·intro h12b;have h12:=dT h12b;refine Ag<|fun a F=>Gh [(true,0),(true,1),(true,2),(true,3),(true,4),(true,5),(false,6),(true,7)] (Keep G [.blk b1 [.slice kca c.kinds.length kcc,.int .i64 c.cap] 51]) rfl (by kernel_rfl) (fun c a d v w h=>by cases d <;> exact h) (Bo (M.drew _)) ?_
   replace M:=M.drew (w.drawn+1);revert a;refine l_r (fun a F w M=>Af Co rfl (F.ev rfl) (cs:=[.slice kca c.kinds.length kcc,.int .i64 c.cap]) rfl (M.cellsL (k:=0) rfl rfl)) rfl<|l_r (fun a F w M=>B1 F rfl) rfl<|l_r (fun a F w M=>B1 F rfl) rfl<|?_
   obtain ⟨be13,oe13,_,Ie13,_,Ae13,hTe13⟩:=T.at hXi;obtain ⟨mae13,mce13,rfl,hke13,hte13,hxe13,hne13,SMe13⟩:=hTe13;have hIe13:(Xi.key < 18446744073709551616∧Xi.typ < 256∧Xi.text.length≤9223372036854775807):=⟨hke13,hte13,hxe13⟩;refine l_r (fun a F w M=>Bt B9.k Bf (F.ev rfl) (F.ev rfl) (by omega) Ie13) rfl<|l_r (fun a F w M=>Af Bf rfl (F.ev rfl) (cs:=[.int .u64 ((Xi.key:Nat):Int),.int .u8 ((Xi.typ:Nat):Int),.string (str Xi.text),.slice mae13 Xi.marks.length mce13]) rfl (M.cellsA Ae13 0 (by omega) rfl)) rfl<|l_r (fun a F w M=>B1 F rfl) rfl<|l_a rfl<|Bs Agm rfl rfl (Lj (c:=c) (x:=Xi) (sn:=sn) M SC hvc hIe13 SMe13)<|?_;clear M;rintro _ w M rfl
   refine eQ (Bo M)<|l_r (fun a F w M=>G8 F rfl) rfl<|Hq<|Ae<|Ad rfl rfl<|?_
   exact ⟨M.weaken dS1,by rw [inc_hit hS hXi (Ms hsn).symm (by omega)]⟩
  intro h14b;have h14:=dF h14b;refine Aq<|Az<|Aa rfl<|Bx rfl rfl<|Ab rfl<|Bc<|Cm<|fun a F=>?_
  exact ⟨_,by omega,i+1,rfl,F.to ⟨rfl,rfl,rfl,rfl,trivial⟩,M,by omega,by rw [Gt hS,Ol hXi,← Ms hsn];exact Adf (by assumption)⟩
 intro h15b;have h15:=dF h15b;refine B5<|Bw<|Bw<|Dj<|Ac<|Ab rfl<|Ae<|Ad rfl rfl<|?_
 exact ⟨M.weaken dS1,by rw [inc_end hS (by omega)]⟩
theorem fr_snoc {c:RulesD} {xs:List ItemD} {k:Nat} {x:ItemD} (h:xs[k]?=some x):(xs.map (Cq c)).take k++[Cq c x]=(xs.map (Cq c)).take (k+1):=by
 rw [List.take_add_one,List.getElem?_map,h];rfl
theorem Aan (M:Mem w0 G L w) {c:RulesD} {kca:Option Addr} {kcc:Nat} (SC:Au C6 9 G (.slice kca c.kinds.length kcc) c.kinds) (hvc:D2 c) {a1:Option Addr} {c1:Nat} {l:List EntD} (S:Au Ca 6 G (.slice a1 l.length c1) l) {z:Int} {ta:Option Addr} {tc:Nat} {xs:List ItemD} (T:Au Cv 4 G (.slice ta xs.length tc) xs) (hl2:l.length≤1024) (hx2:xs.length≤4000000):Calls Tryz.prog 70 #[.agg #[.slice kca c.kinds.length kcc,.int .i64 c.cap],.slice a1 l.length c1,.int .i64 z,.slice ta xs.length tc] w (Ret w0 G L fun G' v=>∃ (a:Option Addr) (cc:Nat),v=.tuple #[.slice a (E2 c l z xs).1.length cc,.int .i64 (E2 c l z xs).2]∧Au Ca 6 G' (.slice a (E2 c l z xs).1.length cc) (E2 c l z xs).1):=by
 have bS:=S.bound;have bT:=T.bound;refine Ay (vs:=[_,_,_,_]) Tryz.func70 rfl (n:=75) rfl rfl<|Ac<|Cz M rfl rfl rfl<|?_;clear M;intro b1 w M
 refine Ab rfl<|Ab rfl<|Ag<|Ac<|Aa rfl<|C2 rfl rfl<|Aa rfl<|?_
 rcases bE (decide (z < 0)) with h2b | h3b
 ·skip
  have h2:=dT h2b;refine g_f rfl h2b<|g_f rfl h2b<|g_f rfl h2b<|g_f rfl h2b<|Bh rfl h2b rfl<|Bl rfl rfl<|Ac<|Ab rfl<|Ab rfl<|Ae<|D6 rfl rfl rfl<|?_
  exact ⟨_,(Gle.refl _),M.weaken dS1,none,0,by rw [Wn (fun h_=>by unfold Bd at h_;omega)];rfl,by rw [Wn (fun h_=>by unfold Bd at h_;omega)];exact Au.nil⟩
 have h3:=dF h3b;refine g_t rfl h3b<|Aa rfl<|g_t rfl h3b<|Aa rfl<|g_t rfl h3b<|B8 Br.k rfl<|g_t rfl h3b<|Da rfl rfl<|Be rfl h3b rfl<|Ap rfl ?_ ?_
 ·intro h4b;have h4:=dT h4b;refine Ac<|Ab rfl<|Ab rfl<|Ae<|D6 rfl rfl rfl<|?_
  exact ⟨_,(Gle.refl _),M.weaken dS1,none,0,by rw [Wn (fun h_=>by unfold Bd at h_;omega)];rfl,by rw [Wn (fun h_=>by unfold Bd at h_;omega)];exact Au.nil⟩
 intro h5b;have h5:=dF h5b;refine Aq<|Ag<|Ac<|Aa rfl<|B8 Br.k rfl<|Aa rfl<|B8 B9.k rfl<|Bx rfl rfl<|Da rfl rfl<|Ap rfl ?_ ?_
 ·intro h6b;have h6:=dT h6b;refine Ac<|Ab rfl<|Ab rfl<|Ae<|D6 rfl rfl rfl<|?_
  exact ⟨_,(Gle.refl _),M.weaken dS1,none,0,by rw [Afx (by unfold Bd;omega) (by omega)];rfl,by rw [Afx (by unfold Bd;omega) (by omega)];exact Au.nil⟩
 intro h7b;have h7:=dF h7b;refine Aq<|Ag<|Ac<|Ar (fun a F=>Af Co rfl (F.ev rfl) (cs:=[.slice kca c.kinds.length kcc,.int .i64 c.cap]) rfl (M.cellsL (k:=0) rfl rfl)) rfl<|Aa rfl<|Aa rfl<|Bs Aop rfl rfl (Aaq (c:=c) (l:=l) (xs:=xs) M SC hvc S T)<|?_;clear M;rintro _ w M rfl
 refine Da rfl rfl<|Ap rfl ?_ ?_
 ·intro h8b;have h8:=dT h8b;refine Ac<|Ar (fun a F=>Af Co rfl (F.ev rfl) (cs:=[.slice kca c.kinds.length kcc,.int .i64 c.cap]) rfl (M.cellsL (k:=0) rfl rfl)) rfl<|Aa rfl<|Aa rfl<|Bs Aop rfl rfl (Aaq (c:=c) (l:=l) (xs:=xs) M SC hvc S T)<|?_;clear M;rintro _ w M rfl
  refine Ab rfl<|Ab rfl<|Ae<|D6 rfl rfl rfl<|?_
  exact ⟨_,(Gle.refl _),M.weaken dS1,none,0,by rw [Afw (by unfold Bd;omega) (by omega) (by omega)];rfl,by rw [Afw (by unfold Bd;omega) (by omega) (by omega)];exact Au.nil⟩
 intro h9b;have h9:=dF h9b;refine Aq<|Ag<|?_
 obtain ⟨p,rfl⟩:=Int.eq_ofNat_of_zero_le (show 0≤z by omega);have hinc:L7 c l xs=0:=by have:=inc_nn (c:=c) (l:=l) (xs:=xs);omega
 have hin:Bd ((p:Nat):Int) 0 ((l.length:Nat):Int):=by unfold Bd;omega
 refine Az<|Ab rfl<|Ag<|Ac<|Ab rfl<|Ax<|?_
 have M:=M.nilrow 69 6;change Mem w0 G (.row (.slice none 0 0) 0 ([]) 69 6::.blk b1 [.slice kca c.kinds.length kcc,.int .i64 c.cap] 51::L) _ at M;intro a F;refine Bz (fun m a' w'=>∃ (i:Nat),∃ (ar:Option Addr),∃ (nr:Nat),∃ (cr:Nat),∃ (csr:List Value),m=l.length+1 - i∧Fits 75 a' [(1,.slice a1 l.length c1),(2,.int .i64 ((p:Nat):Int)),(3,.slice ta xs.length tc),(4,.pointer (some ⟨b1,0,none⟩)),(10,.slice ar nr cr),(11,.int .i64 ((i:Nat):Int))]∧Mem w0 G (.row (.slice ar nr cr) (nr) (csr) 69 6::.blk b1 [.slice kca c.kinds.length kcc,.int .i64 c.cap] 51::L) w'∧(i≤l.length+1)∧(Els Ca 6 G csr (Kc l p (xs.map (Cq c)) i))∧((i≤p∧nr≤i)∨(p < i∧nr≤i+xs.length))) _ ⟨0,none,0,0,[],rfl,F.to ⟨rfl,rfl,rfl,rfl,rfl,rfl,trivial⟩,M,by omega,by rw [Wp];exact Els.nil,by omega⟩ ?_;clear F M;rintro m a w ⟨i,ar,nr,cr,csr,rfl,F,M,hi,Er,hnr⟩;revert a;refine Ag<|Ac<|Aa rfl<|Aa rfl<|B8 Br.k rfl<|Jk rfl rfl<|Ap rfl ?_ ?_
 ·intro h10b;have h10:=dT h10b;refine Aq<|Ag<|Ax<|Ag<|Ac<|Aa rfl<|Aa rfl<|C3 rfl rfl<|Ap rfl ?_ ?_
  ·intro h11b;have h11:=dT h11b;refine Ac<|Ab rfl<|Ax<|?_
   have Ek0:Els Ca 6 G csr (Kc l p (xs.map (Cq c)) i++(xs.map (Cq c)).take 0):=by rw [List.take_zero,List.append_nil];exact Er
   intro a F;refine Bz (fun m a' w'=>∃ (k:Nat),∃ (ak:Option Addr),∃ (nk:Nat),∃ (ck:Nat),∃ (csk:List Value),m=xs.length - k∧Fits 75 a' [(1,.slice a1 l.length c1),(2,.int .i64 ((p:Nat):Int)),(3,.slice ta xs.length tc),(4,.pointer (some ⟨b1,0,none⟩)),(11,.int .i64 ((i:Nat):Int)),(10,.slice ak nk ck),(12,.int .i64 ((k:Nat):Int))]∧Mem w0 G (.row (.slice ak nk ck) (nk) (csk) 69 6::.blk b1 [.slice kca c.kinds.length kcc,.int .i64 c.cap] 51::L) w'∧(k≤xs.length)∧(Els Ca 6 G csk (Kc l p (xs.map (Cq c)) i++(xs.map (Cq c)).take k))∧(nk≤nr+k)) _ ⟨0,ar,nr,cr,csr,rfl,F.to ⟨rfl,rfl,rfl,rfl,rfl,rfl,rfl,trivial⟩,M,by omega,Ek0,by omega⟩ ?_;clear F M;rintro m a w ⟨k,ak,nk,ck,csk,rfl,F,M,hk,Ek,hnk⟩;revert a;refine Ag<|Ac<|Aa rfl<|Aa rfl<|B8 B9.k rfl<|C2 rfl rfl<|Ap rfl ?_ ?_
   ·intro h12b;have h12:=dT h12b;refine Aq<|Ag<|Ax<|?_
    obtain ⟨Xk,hXk⟩:=A2 (xs:=xs) (i:=k) (by omega);obtain ⟨kd,hK⟩:=Jm (inc_ok hinc hXk);intro a F;refine Gh [(true,0),(true,1),(true,2),(true,3),(true,4),(true,5),(false,6),(false,7),(false,8),(true,9)] (Keep G [.blk b1 [.slice kca c.kinds.length kcc,.int .i64 c.cap] 51]) rfl (by kernel_rfl) (fun c a d v w h=>by cases d <;> exact h) (Bo (M.drew _)) ?_;replace M:=M.drew (w.drawn+1);revert a;refine l_r (fun a F w M=>B1 F rfl) rfl<|l_r (fun a F w M=>Af Co rfl (F.ev rfl) (cs:=[.slice kca c.kinds.length kcc,.int .i64 c.cap]) rfl (M.cellsL (k:=0) rfl rfl)) rfl<|l_r (fun a F w M=>B1 F rfl) rfl<|l_r (fun a F w M=>B1 F rfl) rfl<|?_
    obtain ⟨be13,oe13,_,Ie13,_,Ae13,hTe13⟩:=T.at hXk;obtain ⟨mae13,mce13,rfl,hke13,hte13,hxe13,hne13,SMe13⟩:=hTe13;have hIe13:(Xk.key < 18446744073709551616∧Xk.typ < 256∧Xk.text.length≤9223372036854775807):=⟨hke13,hte13,hxe13⟩;refine l_r (fun a F w M=>Bt B9.k Bf (F.ev rfl) (F.ev rfl) (by omega) Ie13) rfl<|l_r (fun a F w M=>Af Bf rfl (F.ev rfl) (cs:=[.int .u64 ((Xk.key:Nat):Int),.int .u8 ((Xk.typ:Nat):Int),.string (str Xk.text),.slice mae13 Xk.marks.length mce13]) rfl (M.cellsA Ae13 0 (by omega) rfl)) rfl<|l_a rfl<|Bs ent67 rfl rfl (Q8 (c:=c) (x:=Xk) M SC hIe13 SMe13 hK)<|?_;clear M;rintro _ w M rfl
    refine eQ (Bo M)<|l_a rfl<|fun a F=>?_
    refine Bk F M Br.k Bu rfl rfl (cs:=[.int .u64 ((Xk.key:Nat):Int),.int .u8 ((Xk.typ:Nat):Int),.string (str Xk.text),.slice mae13 Xk.marks.length mce13,.int .i64 (Iv c Xk),.bool false]) rfl rfl (by simp [Value.oneCell']) (by decide) rfl ?_;clear F M a;intro v14 w a M F;obtain ⟨av14,cv14,rfl,hlev14,hcmv14,hlv14⟩:=M.row_shape (k:=0) rfl;revert a;refine eQ (Bo M)<|?_
    have Eb15:Els Ca 6 G [.int .u64 ((Xk.key:Nat):Int),.int .u8 ((Xk.typ:Nat):Int),.string (str Xk.text),.slice mae13 Xk.marks.length mce13,.int .i64 (Iv c Xk),.bool false] [(Cq c Xk)]:=⟨[.int .u64 ((Xk.key:Nat):Int),.int .u8 ((Xk.typ:Nat):Int),.string (str Xk.text),.slice mae13 Xk.marks.length mce13,.int .i64 (Iv c Xk),.bool false],[],rfl,rfl,⟨[.int .u64 ((Xk.key:Nat):Int),.int .u8 ((Xk.typ:Nat):Int),.string (str Xk.text),.slice mae13 Xk.marks.length mce13],rfl,⟨mae13,mce13,rfl,hIe13.1,hIe13.2.1,hIe13.2.2,(by have h_:=SMe13.bound;show Xk.marks.length≤_;omega),SMe13⟩,Tf SC hK⟩,rfl⟩;refine l_a rfl<|fun a F=>?_
    refine Ci F M (k:=1) (k2:=0) rfl rfl Br.k Bu rfl rfl (by decide) rfl rfl (by show _ * 72≤_;(try simp only [List.length_drop,List.length_take,List.length_append,List.length_cons,List.length_nil]);omega) (by (try simp only [List.length_drop,List.length_take,List.length_append,List.length_cons,List.length_nil]);omega) rfl ?_;clear F M a;intro v16 w a M F;have Ev16:=Els.append Ek Eb15;obtain ⟨av16,cv16,rfl,hlev16,hcmv16,hlv16⟩:=M.row_shape (k:=1) rfl;revert a;refine eQ (Bo M)<|l_r (fun a F w M=>G8 F rfl) rfl<|Hq<|Az<|Aa rfl<|Bx rfl rfl<|Ab rfl<|Bc<|Cm<|fun a F=>?_
    exact ⟨_,by omega,k+1,(av16),(nk+1),(cv16),csk++([.int .u64 ((Xk.key:Nat):Int),.int .u8 ((Xk.typ:Nat):Int),.string (str Xk.text),.slice mae13 Xk.marks.length mce13,.int .i64 (Iv c Xk),.bool false]),rfl,F.to ⟨rfl,rfl,rfl,rfl,rfl,rfl,rfl,trivial⟩,(M.weaken (cN (cC (.cons_cons _ (sR _))))),by omega,by have h_:=Ev16;rwa [List.append_assoc,fr_snoc hXk] at h_,by omega⟩
   intro h17b;have h17:=dF h17b;refine B5<|Bw<|Bw<|Dj<|Ag<|?_
   have hkk:(xs.map (Cq c)).take k=xs.map (Cq c):=List.take_of_length_le (by rw [List.length_map];omega);intro a F;rw [hkk] at Ek;revert a;refine Az<|Aa rfl<|Aa rfl<|B8 Br.k rfl<|C2 rfl rfl<|Ap rfl ?_ ?_
   ·intro h18b;have h18:=dT h18b;refine Az<|Aa rfl<|Aa rfl<|Aa rfl<|?_
    obtain ⟨Xe19,hXe19⟩:=A2 (xs:=l) (i:=i) (by omega);obtain ⟨be19,oe19,_,Ie19,_,Ae19,hTe19⟩:=S.at hXe19;obtain ⟨c1e19,hcse19,hPe19,hBe19⟩:=hTe19;obtain ⟨mae19,mce19,rfl,hke19,hte19,hxe19,hne19,SMe19⟩:=hPe19;subst hcse19;have hIe19:(Xe19.item.key < 18446744073709551616∧Xe19.item.typ < 256∧Xe19.item.text.length≤9223372036854775807):=⟨hke19,hte19,hxe19⟩;have hQe19:-9223372036854775808≤Xe19.size∧Xe19.size≤9223372036854775807:=hBe19;refine D0 Br.k Bu Ie19 rfl rfl<|Ar (fun a F=>Af Bu rfl (F.ev rfl) (cs:=[.int .u64 ((Xe19.item.key:Nat):Int),.int .u8 ((Xe19.item.typ:Nat):Int),.string (str Xe19.item.text),.slice mae19 Xe19.item.marks.length mce19,.int .i64 Xe19.size,.bool Xe19.known]) rfl (M.cellsA Ae19 0 (by omega) rfl)) rfl<|fun a F=>?_
    refine Bk F M Br.k Bu rfl rfl (cs:=[.int .u64 ((Xe19.item.key:Nat):Int),.int .u8 ((Xe19.item.typ:Nat):Int),.string (str Xe19.item.text),.slice mae19 Xe19.item.marks.length mce19,.int .i64 Xe19.size,.bool Xe19.known]) rfl rfl (by simp [Value.oneCell']) (by decide) rfl ?_;clear F M a;intro v20 w a M F;obtain ⟨av20,cv20,rfl,hlev20,hcmv20,hlv20⟩:=M.row_shape (k:=0) rfl;have Eb21:Els Ca 6 G [.int .u64 ((Xe19.item.key:Nat):Int),.int .u8 ((Xe19.item.typ:Nat):Int),.string (str Xe19.item.text),.slice mae19 Xe19.item.marks.length mce19,.int .i64 Xe19.size,.bool Xe19.known] [Xe19]:=⟨[.int .u64 ((Xe19.item.key:Nat):Int),.int .u8 ((Xe19.item.typ:Nat):Int),.string (str Xe19.item.text),.slice mae19 Xe19.item.marks.length mce19,.int .i64 Xe19.size,.bool Xe19.known],[],rfl,rfl,⟨[.int .u64 ((Xe19.item.key:Nat):Int),.int .u8 ((Xe19.item.typ:Nat):Int),.string (str Xe19.item.text),.slice mae19 Xe19.item.marks.length mce19],rfl,⟨mae19,mce19,rfl,hke19,hte19,hxe19,hne19,SMe19⟩,hBe19⟩,rfl⟩;refine Ci F M (k:=1) (k2:=0) rfl rfl Br.k Bu rfl rfl (by decide) rfl rfl (by show _ * 72≤_;(try simp only [List.length_drop,List.length_take,List.length_append,List.length_cons,List.length_nil]);omega) (by (try simp only [List.length_drop,List.length_take,List.length_append,List.length_cons,List.length_nil]);omega) rfl ?_;clear F M a;intro v22 w a M F;have Ev22:=Els.append Ek Eb21;obtain ⟨av22,cv22,rfl,hlev22,hcmv22,hlv22⟩:=M.row_shape (k:=1) rfl;revert a;refine Ab rfl<|Az<|Aa rfl<|Bx rfl rfl<|Ab rfl<|Bc<|Cm<|fun a F=>?_
    exact ⟨_,by omega,i+1,(av22),(nk+1),(cv22),csk++([.int .u64 ((Xe19.item.key:Nat):Int),.int .u8 ((Xe19.item.typ:Nat):Int),.string (str Xe19.item.text),.slice mae19 Xe19.item.marks.length mce19,.int .i64 Xe19.size,.bool Xe19.known]),rfl,F.to ⟨rfl,rfl,rfl,rfl,rfl,rfl,trivial⟩,(M.weaken (cN (cC (.cons_cons _ (sR _))))),by omega,by have h_:=Ev22;first | rwa [Hx hXe19 (by omega)] at h_ | rwa [List.append_nil,Gm hXe19 (by omega)] at h_ | rwa [Gm hXe19 (by omega)] at h_ | rwa [Ga (by omega) (by omega)] at h_ | rwa [E6 (by omega) (by omega) (by omega)] at h_,by omega⟩
   intro h23b;have h23:=dF h23b;refine Aq<|Az<|Aa rfl<|Bx rfl rfl<|Ab rfl<|Bc<|Cm<|fun a F=>?_
   exact ⟨_,by omega,i+1,(ak),(nk),(ck),csk,rfl,F.to ⟨rfl,rfl,rfl,rfl,rfl,rfl,trivial⟩,M,by omega,by have h_:=Ek;first | rwa [Hx hX0 (by omega)] at h_ | rwa [List.append_nil,Gm hX0 (by omega)] at h_ | rwa [Gm hX0 (by omega)] at h_ | rwa [Ga (by omega) (by omega)] at h_ | rwa [E6 (by omega) (by omega) (by omega)] at h_,by omega⟩
  intro h24b;have h24:=dF h24b;refine Aq<|Ac<|Aa rfl<|Aa rfl<|B8 Br.k rfl<|C2 rfl rfl<|Ap rfl ?_ ?_
  ·intro h25b;have h25:=dT h25b;refine Az<|Aa rfl<|Aa rfl<|Aa rfl<|?_
   obtain ⟨Xe26,hXe26⟩:=A2 (xs:=l) (i:=i) (by omega);obtain ⟨be26,oe26,_,Ie26,_,Ae26,hTe26⟩:=S.at hXe26;obtain ⟨c1e26,hcse26,hPe26,hBe26⟩:=hTe26;obtain ⟨mae26,mce26,rfl,hke26,hte26,hxe26,hne26,SMe26⟩:=hPe26;subst hcse26;have hIe26:(Xe26.item.key < 18446744073709551616∧Xe26.item.typ < 256∧Xe26.item.text.length≤9223372036854775807):=⟨hke26,hte26,hxe26⟩;have hQe26:-9223372036854775808≤Xe26.size∧Xe26.size≤9223372036854775807:=hBe26;refine D0 Br.k Bu Ie26 rfl rfl<|Ar (fun a F=>Af Bu rfl (F.ev rfl) (cs:=[.int .u64 ((Xe26.item.key:Nat):Int),.int .u8 ((Xe26.item.typ:Nat):Int),.string (str Xe26.item.text),.slice mae26 Xe26.item.marks.length mce26,.int .i64 Xe26.size,.bool Xe26.known]) rfl (M.cellsA Ae26 0 (by omega) rfl)) rfl<|fun a F=>?_
   refine Bk F M Br.k Bu rfl rfl (cs:=[.int .u64 ((Xe26.item.key:Nat):Int),.int .u8 ((Xe26.item.typ:Nat):Int),.string (str Xe26.item.text),.slice mae26 Xe26.item.marks.length mce26,.int .i64 Xe26.size,.bool Xe26.known]) rfl rfl (by simp [Value.oneCell']) (by decide) rfl ?_;clear F M a;intro v27 w a M F;obtain ⟨av27,cv27,rfl,hlev27,hcmv27,hlv27⟩:=M.row_shape (k:=0) rfl;have Eb28:Els Ca 6 G [.int .u64 ((Xe26.item.key:Nat):Int),.int .u8 ((Xe26.item.typ:Nat):Int),.string (str Xe26.item.text),.slice mae26 Xe26.item.marks.length mce26,.int .i64 Xe26.size,.bool Xe26.known] [Xe26]:=⟨[.int .u64 ((Xe26.item.key:Nat):Int),.int .u8 ((Xe26.item.typ:Nat):Int),.string (str Xe26.item.text),.slice mae26 Xe26.item.marks.length mce26,.int .i64 Xe26.size,.bool Xe26.known],[],rfl,rfl,⟨[.int .u64 ((Xe26.item.key:Nat):Int),.int .u8 ((Xe26.item.typ:Nat):Int),.string (str Xe26.item.text),.slice mae26 Xe26.item.marks.length mce26],rfl,⟨mae26,mce26,rfl,hke26,hte26,hxe26,hne26,SMe26⟩,hBe26⟩,rfl⟩;refine Ci F M (k:=1) (k2:=0) rfl rfl Br.k Bu rfl rfl (by decide) rfl rfl (by show _ * 72≤_;(try simp only [List.length_drop,List.length_take,List.length_append,List.length_cons,List.length_nil]);omega) (by (try simp only [List.length_drop,List.length_take,List.length_append,List.length_cons,List.length_nil]);omega) rfl ?_;clear F M a;intro v29 w a M F;have Ev29:=Els.append Er Eb28;obtain ⟨av29,cv29,rfl,hlev29,hcmv29,hlv29⟩:=M.row_shape (k:=1) rfl;revert a;refine Ab rfl<|Az<|Aa rfl<|Bx rfl rfl<|Ab rfl<|Bc<|Cm<|fun a F=>?_
   exact ⟨_,by omega,i+1,(av29),(nr+1),(cv29),csr++([.int .u64 ((Xe26.item.key:Nat):Int),.int .u8 ((Xe26.item.typ:Nat):Int),.string (str Xe26.item.text),.slice mae26 Xe26.item.marks.length mce26,.int .i64 Xe26.size,.bool Xe26.known]),rfl,F.to ⟨rfl,rfl,rfl,rfl,rfl,rfl,trivial⟩,(M.weaken (cN (cC (.cons_cons _ (sR _))))),by omega,by have h_:=Ev29;first | rwa [Hx hXe26 (by omega)] at h_ | rwa [List.append_nil,Gm hXe26 (by omega)] at h_ | rwa [Gm hXe26 (by omega)] at h_ | rwa [Ga (by omega) (by omega)] at h_ | rwa [E6 (by omega) (by omega) (by omega)] at h_,by omega⟩
  intro h30b;have h30:=dF h30b;refine Aq<|Az<|Aa rfl<|Bx rfl rfl<|Ab rfl<|Bc<|Cm<|fun a F=>?_
  exact ⟨_,by omega,i+1,(ar),(nr),(cr),csr,rfl,F.to ⟨rfl,rfl,rfl,rfl,rfl,rfl,trivial⟩,M,by omega,by have h_:=Er;first | rwa [Hx hX0 (by omega)] at h_ | rwa [List.append_nil,Gm hX0 (by omega)] at h_ | rwa [Gm hX0 (by omega)] at h_ | rwa [Ga (by omega) (by omega)] at h_ | rwa [E6 (by omega) (by omega) (by omega)] at h_,by omega⟩
 intro h31b;have h31:=dF h31b;refine B5<|Bw<|Bw<|Dj<|Ag<|Ag<|fun a F=>?_
 rw [Aao (by omega) (by omega)] at Er;obtain ⟨hnz32,Gz32,az32,cz32,hGz32,hez32,Sz32,M⟩:=M.freeze_row Am (k:=0) rfl Er (by decide);clear hez32 az32 cz32;replace SC:=SC.mono A1 hGz32;replace S:=S.mono Am hGz32;replace T:=T.mono Aw hGz32;rw [hnz32] at F Sz32;revert a;refine Az<|Aa rfl<|Bs Amt rfl rfl (N8 (l:=(Dd l p 0 (xs.map (Cq c)))) M Sz32)<|?_;clear M;rintro _ w M rfl
 refine Da rfl rfl<|Ap rfl ?_ ?_
 ·intro h33b;have h33:=dT h33b;refine Ac<|Ab rfl<|Ab rfl<|Ae<|D6 rfl rfl rfl<|?_
  exact ⟨_,hGz32,M.weaken dS1,none,0,by rw [Yf hin (by omega) hinc (by rw [Int.toNat_natCast];omega)];rfl,by rw [Yf hin (by omega) hinc (by rw [Int.toNat_natCast];omega)];exact Au.nil⟩
 intro h34b;have h34:=dF h34b;refine Aq<|Ac<|Aa rfl<|Ab rfl<|Ab rfl<|Ae<|D6 rfl rfl rfl<|?_
 exact ⟨_,hGz32,M.weaken dS1,ar,cr,by rw [Wo hin (by omega) hinc (by rw [Int.toNat_natCast];unfold D9 at *;split at * <;> omega),Int.toNat_natCast],by rw [Wo hin (by omega) hinc (by rw [Int.toNat_natCast];unfold D9 at *;split at * <;> omega),Int.toNat_natCast];exact Sz32⟩
end Go.Proofs.YtmmhmcplegpenaaGreatDoor
