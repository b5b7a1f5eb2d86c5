/- The walks, part LI. · The walks, part LJ. · Notices: what they are, what they do; lists stay valid. · The kinds of notices; a call of a function that a value holds. · The types and functions of the notices that the walks name. -/
import Derived.Test.YtmmhmcplegpenaaGreatDoorJ11
import Derived.Test.YtmmhmcplegpenaaGreatDoorJ8
set_option linter.unusedSimpArgs false
set_option linter.unusedVariables false
namespace Go.Proofs.YtmmhmcplegpenaaGreatDoor
open Go Go.Y Go.Proofs
open Classical in
noncomputable def Sr (l:List EntD) (xs:List ItemD) (i:Nat):Int:=match xs[i]? with
 | some x=>if Dn l x.key∨Lu (xs.take i) x.key then 8 else 0
 | none=>0
theorem Xn {l:List EntD} {xs:List ItemD} {i:Nat} {x:ItemD} (h:xs[i]?=some x) [Decidable (Dn l x.key∨Lu (xs.take i) x.key)]:Sr l xs i=if Dn l x.key∨Lu (xs.take i) x.key then 8 else 0:=by
 unfold Sr;rw [h]
 by_cases hp:Dn l x.key∨Lu (xs.take i) x.key
 ·simp only [hp,if_true]
 simp only [hp,if_false]
theorem in_inc {c:RulesD} {l:List EntD} {xs:List ItemD} (hc:D2 c) (i:Nat):Kx c xs (Sr l xs) i=Ny c l xs i:=by
 classical
 cases hx:xs[i]? with
 | none=>unfold Kx Ny;rw [hx]
 | some x =>
  rw [T9 hx,Ol hx,Xn hx]
  by_cases h1:ItemOk (c.kinds.length:Int) x
  ·by_cases h2:Dn l x.key∨Lu (xs.take i) x.key
   ·rw [if_pos h2,R7 h1 h2,Ami h1 (by decide)]
   ·rw [if_neg h2,Afz h1 rfl]
    rcases Acz hc h1 with h3 | h3
    ·rw [Ko h1 h2 h3,h3]
    ·rw [J6 h1 h2 (by omega),h3]
  ·rw [Aga h1,Po h1]
theorem R1 (l:List EntD):D9 l=0∨D9 l=13:=by unfold D9;split <;> simp
theorem Amf {c:RulesD} {l:List EntD} {z:Int} {xs:List ItemD} (h:Bv c l=0) :
  doR (Bv c l) (decide (Bd z 0 l.length)) (((l.length+xs.length:Nat)):Int) (Kx c xs (Sr l xs)) xs.length (Dd l z.toNat 0 (xs.map (Cq c)))=E2 c l z xs:=by
 have hf:Cc (Kx c xs (Sr l xs)) xs.length=L7 c l xs:=Lx fun i _=>in_inc (E9 h).1 i
 by_cases h1:Bd z 0 l.length
 ·have d1:decide (Bd z 0 l.length)=true:=decide_eq_true h1
  by_cases h2:1024 < l.length+xs.length
  ·rw [Afx h1 h2,do_3 h d1 (by omega)]
  by_cases h3:L7 c l xs=0
  ·rcases R1 (Dd l z.toNat 0 (xs.map (Cq c))) with h4 | h4
   ·rw [Wo h1 h2 h3 h4,Np h d1 (by omega) (by rw [hf,h3]) h4]
   rw [Yf h1 h2 h3 (by omega),Ajf h d1 (by omega) (by rw [hf,h3]) (by omega),h4]
  rw [Afw h1 h2 h3];unfold doR;rw [if_neg (not_not_intro h),if_neg (by rw [d1];decide),if_neg (by omega),if_pos (by rw [hf];exact h3),hf]
 rw [Wn h1,Aoz h (decide_eq_false h1)]
theorem Sn (l:List EntD) (p n:Nat) (fr:List EntD):Hs (Dd l p n fr)=Hs (l.take p)+Hs fr+Hs (l.drop (p+n)):=by unfold Dd;rw [I3,I3]
theorem Y7 (l:List EntD) (p n:Nat):Hs l=Hs (l.take p)+Hs ((l.drop p).take n)+Hs (l.drop (p+n)):=by
 have h1:=I3 (l.take p) (l.drop p);have h2:=I3 ((l.drop p).take n) ((l.drop p).drop n);rw [List.take_append_drop] at h1 h2;rw [List.drop_drop] at h2
 omega
theorem Zw {l:List EntD} {p n:Nat} (h:D9 l=0):D9 (Dd l p n [])=0:=by
 rw [V0] at h ⊢;have h1:=Sn l p n [];have h2:=Y7 l p n;have h3:=M6 ((l.drop p).take n);have h4:Hs []=0:=rfl
 omega
theorem Zx {l:List EntD} {p n q:Nat} (h:D9 l=0):D9 (Pg l p n q)=0:=by
 rw [V0] at h ⊢;unfold Pg;have h1:=Sn l p n [];have h2:=Y7 l p n;have h3:=Sn (Dd l p n []) q 0 ((l.drop p).take n);have h4:=I3 ((Dd l p n []).take q) ((Dd l p n []).drop q);rw [List.take_append_drop] at h4;have h5:Hs []=0:=rfl;rw [Nat.add_zero] at h3
 omega
theorem rem_do {c:RulesD} {l:List EntD} {z n:Int} {fK:Nat→Int} (h:Bv c l=0):doR (Bv c l) (decide (Bd z n l.length)) 0 (Kx c [] fK) 0 (Dd l z.toNat n.toNat [])=Ic l z n:=by
 by_cases h1:Bd z n l.length
 ·rw [Vw h1,Np h (decide_eq_true h1) (by decide) rfl (Zw (E9 h).2.2.2)]
 rw [Aew h1,Aoz h (decide_eq_false h1)]
theorem mov_do {c:RulesD} {l:List EntD} {z n b:Int} {fK:Nat→Int} {ins:Bool} (h:Bv c l=0) (hi:ins=true↔Bd z n l.length∧Bd b 0 (l.length - n)):doR (Bv c l) ins 0 (Kx c [] fK) 0 (Pg l z.toNat n.toNat b.toNat)=Gr l z n b:=by
 by_cases h1:Bd z n l.length∧Bd b 0 (l.length - n)
 ·rw [Afj h1,Np h (hi.2 h1) (by decide) rfl (Zx (E9 h).2.2.2)]
 rw [Afi h1,Aoz h (by cases ins with | true=>exact absurd (hi.1 rfl) h1 | false=>rfl)]
def Tm (l:List EntD) (p:Nat) (xs:List ItemD) (i:Nat):Int:=match xs[i]?,l[p+i]? with
 | some x,some y=>if y.item.key=x.key then 0 else 9
 | _,_=>0
theorem V2 {l:List EntD} {p:Nat} {xs:List ItemD} {i:Nat} {x:ItemD} {y:EntD} (hx:xs[i]?=some x) (hy:l[p+i]?=some y):Tm l p xs i=if y.item.key=x.key then 0 else 9:=by unfold Tm;rw [hx,hy]
theorem in_chg {c:RulesD} {l:List EntD} {p:Nat} {xs:List ItemD} (hc:D2 c) (hp:p+xs.length≤l.length) (i:Nat):Kx c xs (Tm l p xs) i=Jh c l p xs i:=by
 cases hx:xs[i]? with
 | none=>unfold Kx Jh;rw [hx]
 | some x =>
  have hi:=Bj hx;obtain ⟨y,hy⟩:=A2 (xs:=l) (i:=p+i) (by omega);rw [T9 hx,Ur hx,V2 hx hy]
  by_cases h1:ItemOk (c.kinds.length:Int) x
  ·by_cases h2:y.item.key=x.key
   ·rw [if_pos h2,Afz h1 rfl];have h5:¬ Oe l (p+i) x.key:=fun h=>(I6 hy).1 h h2
    rcases Acz hc h1 with h3 | h3
    ·rw [Apj h1 h5 h3,h3]
    ·rw [Yt h1 h5 (by omega),h3]
   ·rw [if_neg h2,Ami h1 (by decide),Aem h1 ((I6 hy).2 h2)]
  ·rw [Aga h1,Aen h1]
theorem chg_do {c:RulesD} {l:List EntD} {z:Int} {xs:List ItemD} (h:Bv c l=0) :
  doR (Bv c l) (decide (Bd z xs.length l.length)) 0 (Kx c xs (Tm l z.toNat xs)) xs.length (Dd l z.toNat xs.length (xs.map (Cq c)))=Hn c l z xs:=by
 by_cases h1:Bd z xs.length l.length
 ·have d1:decide (Bd z xs.length l.length)=true:=decide_eq_true h1;have h1':=h1;unfold Bd at h1';have hf:Cc (Kx c xs (Tm l z.toNat xs)) xs.length=Cc (Jh c l z.toNat xs) xs.length:=Lx fun i _=>in_chg (E9 h).1 (by omega) i
  by_cases h3:Cc (Jh c l z.toNat xs) xs.length=0
  ·rcases R1 (Dd l z.toNat xs.length (xs.map (Cq c))) with h4 | h4
   ·rw [Agt h1 h3 h4,Np h d1 (by decide) (by rw [hf,h3]) h4]
   rw [Ys h1 h3 (by omega),Ajf h d1 (by decide) (by rw [hf,h3]) (by omega),h4]
  unfold doR Hn;rw [if_neg (not_not_intro h),if_neg (by rw [d1];decide),if_neg (by decide),if_pos (by rw [hf];exact h3),hf,if_neg (not_not_intro h1),if_pos h3]
 rw [Ags h1,Aoz h (decide_eq_false h1)]
theorem Aaa {c:RulesD} {x:ItemD} (h:ItemOk (c.kinds.length:Int) x):x.marks.length≤1000000:=by have:=h.2.2.2.1;omega
theorem R4 {l:List EntD} {p n:Nat} {fr:List EntD} {x:EntD} (h:x∈Dd l p n fr):x∈l∨x∈fr:=by
 unfold Dd at h
 rcases List.mem_append.1 h with h | h
 ·rcases List.mem_append.1 h with h | h
  ·exact Or.inl (List.mem_of_mem_take h)
  exact Or.inr h
 exact Or.inl (List.mem_of_mem_drop h)
theorem Alq {c:RulesD} {l:List EntD} {p n:Nat} {xs:List ItemD} (h:Bv c l=0) (hx:∀ x∈xs,ItemOk (c.kinds.length:Int) x):∀ x∈Dd l p n (xs.map (Cq c)),x.item.marks.length≤1000000:=by
 intro x hm
 rcases R4 hm with hm | hm
 ·exact Aaa (Ou h x hm)
 obtain ⟨y,hy,rfl⟩:=List.mem_map.1 hm
 exact Aaa (hx y hy)
theorem Alp {c:RulesD} {l:List EntD} {p n:Nat} (h:Bv c l=0):∀ x∈Dd l p n [],x.item.marks.length≤1000000:=by
 intro x hm
 rcases R4 hm with hm | hm
 ·exact Aaa (Ou h x hm)
 simp at hm
theorem mk_mov {c:RulesD} {l:List EntD} {p n q:Nat} (h:Bv c l=0):∀ x∈Pg l p n q,x.item.marks.length≤1000000:=by
 intro x hm;unfold Pg at hm
 rcases R4 hm with hm | hm
 ·exact Alp h x hm
 exact Aaa (Ou h x (List.mem_of_mem_drop (List.mem_of_mem_take hm)))
def Aet (l:List EntD) (xs:List ItemD) (b mb:Nat) (i:Nat) (R:List Res):Prop:=∃ (es:Array MapEntry) (cl:Nat) (ks:List Nat),R=[.blk b [.map (some mb)] 185,.obj mb (.map es cl)]∧Ji es ks∧∀ q,q∈ks↔Dn l q∨Lu (xs.take i) q
theorem Zc {w0:World} {G0:A4} {l:List EntD} {xs:List ItemD} {b mb:Nat}:KeyC w0 G0 168 [.pointer (some ⟨b,0,none⟩)] xs (Sr l xs) (Aet l xs b mb):=by
 classical
 intro G L R w i x ma mc hG hx hR M hI SM;obtain ⟨es,cl,ks,rfl,Es,hks⟩:=hR;refine (Xc M Es hI SM (i:=(i:Int))).mono ?_;rintro e w' h
 cases e with
 | returned v =>
  obtain ⟨L',M',es',cl',rfl,rfl,h3⟩:=h;refine ⟨_,M',[.blk b [.map (some mb)] 185,.obj mb (.map es' cl')],by rw [Xn hx];by_cases h4:x.key∈ks;(rw [if_pos h4,if_pos ((hks _).1 h4)]);(rw [if_neg h4,if_neg (fun h5=>h4 ((hks _).2 h5))]),rfl,fun h4=>?_⟩;have h5:¬ x.key∈ks:=fun h6=>by rw [Xn hx,if_pos ((hks _).1 h6)] at h4;cases h4
  refine ⟨es',cl',x.key::ks,rfl,h3 h5,fun q=>?_⟩;rw [List.mem_cons,hks q,List.take_add_one,hx]
  constructor
  ·rintro (rfl | h6 | ⟨y,h6,h7⟩)
   ·exact Or.inr ⟨x,by simp,rfl⟩
   ·exact Or.inl h6
   ·exact Or.inr ⟨y,by simp [h6],h7⟩
  ·rintro (h6 | ⟨y,h6,h7⟩)
   ·exact Or.inr (Or.inl h6)
   ·simp only [Option.toList_some,List.mem_append,List.mem_singleton] at h6
    rcases h6 with h6 | rfl
    ·exact Or.inr (Or.inr ⟨y,h6,h7⟩)
    ·exact Or.inl h7.symm
 | panicked c=>exact h.elim
 | outgrown=>exact h.elim
theorem Sq {l:List EntD} {xs:List ItemD} {b mb:Nat} {es:Array MapEntry} {cl:Nat} {ks:List Nat} (Es:Ji es ks) (hks:∀ q,q∈ks↔Dn l q):Aet l xs b mb 0 [.blk b [.map (some mb)] 185,.obj mb (.map es cl)] :=
 ⟨es,cl,ks,rfl,Es,fun q=>by rw [hks q];exact ⟨Or.inl,fun h=>by rcases h with h | ⟨y,hy,_⟩;exact h;simp at hy⟩⟩
theorem Amg {w0 w:World} {G:A4} {L:List Res} {c:RulesD} {kca:Option Addr} {kcc:Nat} (SC:Au C6 9 G (.slice kca c.kinds.length kcc) c.kinds) {a1:Option Addr} {c1:Nat} {l:List EntD} (S:Au Ca 6 G (.slice a1 l.length c1) l) (hck:Bv c l=0) {ta:Option Addr} {tc:Nat} {xs:List ItemD} (T:Au Cv 4 G (.slice ta xs.length tc) xs) {z:Int} {b mb b5 b6:Nat} {es:Array MapEntry} {cl:Nat} {ks:List Nat} (M:Mem w0 G (.blk b [.map (some mb)] 185::.obj mb (.map es cl)::L) w) (Es:Ji es ks) (hks:∀ q,q∈ks↔Dn l q)
  (A5:At G b5 0 [.slice a1 l.length c1]) (A6:At G b6 0 [.int .i64 z]) (hN:xs.length≤900000) :
  Calls Tryz.prog 116 #[.agg #[.slice kca c.kinds.length kcc,.int .i64 c.cap],.agg #[.slice a1 l.length c1],.agg #[.bool (decide (Bd z 0 l.length)),.int .i64 ((l.length+xs.length:Nat):Int),.slice ta xs.length tc,.func (.func 168) #[] #[.pointer (some ⟨b,0,none⟩)],.func (.func 161) #[] #[.pointer (some ⟨b5,0,none⟩),.pointer (some ⟨b6,0,none⟩)]]] w (Iz w0 G (Kd L (E2 c l z xs))):=by
 have hl2:=(E9 hck).2.1;rw [← Amf hck];refine Ps (R:=[.blk b [.map (some mb)] 185,.obj mb (.map es cl)]) (Rk:=Aet l xs b mb) M SC S T hck (Sq Es hks) (by omega) (fun _=>Or.inr ⟨168,[.pointer (some ⟨b,0,none⟩)],rfl,Aog,Zc⟩) (fun hi _=>⟨161,[.pointer (some ⟨b5,0,none⟩),.pointer (some ⟨b6,0,none⟩)],rfl,ent161,?_⟩) (fun hi=>?_) (fun hi hx=>Alq hck (Afy hx (Nat.le_refl _)))
 ·have hin:=dT hi;unfold Bd at hin;obtain ⟨p,rfl⟩:=Int.eq_ofNat_of_zero_le hin.1.1;intro G2 L2 w2 a2 c2 hG M2 R2
  exact Aix M2 (S.mono Am hG) (A5.mono hG) (A6.mono hG) R2 (by omega) (by omega) (by rw [List.length_map];omega)
 have hin:=dT hi;unfold Bd at hin;rw [J4 (by omega),List.length_map];omega
theorem Akt {w0 w:World} {G:A4} {L:List Res} {c:RulesD} {kca:Option Addr} {kcc:Nat} (SC:Au C6 9 G (.slice kca c.kinds.length kcc) c.kinds) {a1:Option Addr} {c1:Nat} {l:List EntD} (S:Au Ca 6 G (.slice a1 l.length c1) l) (hck:Bv c l=0) {z n:Int} {b5 b6 b7:Nat} (M:Mem w0 G L w) (A5:At G b5 0 [.slice a1 l.length c1]) (A6:At G b6 0 [.int .i64 z]) (A7:At G b7 0 [.int .i64 n]) :
  Calls Tryz.prog 116 #[.agg #[.slice kca c.kinds.length kcc,.int .i64 c.cap],.agg #[.slice a1 l.length c1],.agg #[.bool (decide (Bd z n l.length)),.int .i64 0,.slice none 0 0,.nilFunc,.func (.func 118) #[] #[.pointer (some ⟨b5,0,none⟩),.pointer (some ⟨b6,0,none⟩),.pointer (some ⟨b7,0,none⟩)]]] w (Iz w0 G (Kd L (Ic l z n))):=by
 have hl2:=(E9 hck).2.1;rw [← rem_do (fK:=fun _=>0) hck];refine Ps (xs:=[]) (R:=[]) (Rk:=fun _ _=>True) M SC S Au.nil hck trivial (by decide) (fun _=>Or.inl rfl) (fun hi _=>⟨118,[.pointer (some ⟨b5,0,none⟩),.pointer (some ⟨b6,0,none⟩),.pointer (some ⟨b7,0,none⟩)],rfl,ent118,?_⟩) (fun hi=>?_) (fun hi hx=>Alp hck)
 ·have hin:=dT hi;unfold Bd at hin;obtain ⟨p,rfl⟩:=Int.eq_ofNat_of_zero_le hin.1.1;obtain ⟨m,rfl⟩:=Int.eq_ofNat_of_zero_le hin.2.1;intro G2 L2 w2 a2 c2 hG M2 R2
  exact Ahu M2 (S.mono Am hG) (A5.mono hG) (A6.mono hG) (A7.mono hG) R2 (by omega) (by omega)
 have hin:=dT hi;unfold Bd at hin;rw [K7 (by omega)];omega
theorem Z7 {w0 w:World} {G:A4} {L:List Res} {c:RulesD} {kca:Option Addr} {kcc:Nat} (SC:Au C6 9 G (.slice kca c.kinds.length kcc) c.kinds) {a1:Option Addr} {c1:Nat} {l:List EntD} (S:Au Ca 6 G (.slice a1 l.length c1) l) (hck:Bv c l=0) {z n q:Int} {b5 b6 b7 b8:Nat} {ins:Bool} (hi:ins=true↔Bd z n l.length∧Bd q 0 (l.length - n)) (M:Mem w0 G L w) (A5:At G b5 0 [.slice a1 l.length c1]) (A6:At G b6 0 [.int .i64 z]) (A7:At G b7 0 [.int .i64 n]) (A8:At G b8 0 [.int .i64 q]) :
  Calls Tryz.prog 116 #[.agg #[.slice kca c.kinds.length kcc,.int .i64 c.cap],.agg #[.slice a1 l.length c1],.agg #[.bool ins,.int .i64 0,.slice none 0 0,.nilFunc,.func (.func 162) #[] #[.pointer (some ⟨b5,0,none⟩),.pointer (some ⟨b6,0,none⟩),.pointer (some ⟨b7,0,none⟩),.pointer (some ⟨b8,0,none⟩)]]] w (Iz w0 G (Kd L (Gr l z n q))):=by
 have hl2:=(E9 hck).2.1;rw [← mov_do (fK:=fun _=>0) hck hi];refine Ps (xs:=[]) (R:=[]) (Rk:=fun _ _=>True) M SC S Au.nil hck trivial (by decide) (fun _=>Or.inl rfl) (fun h _=>⟨162,[.pointer (some ⟨b5,0,none⟩),.pointer (some ⟨b6,0,none⟩),.pointer (some ⟨b7,0,none⟩),.pointer (some ⟨b8,0,none⟩)],rfl,ent162,?_⟩) (fun h=>?_) (fun _ hx=>mk_mov hck)
 ·have hin:=hi.1 h;unfold Bd at hin;obtain ⟨p,rfl⟩:=Int.eq_ofNat_of_zero_le hin.1.1.1;obtain ⟨m,rfl⟩:=Int.eq_ofNat_of_zero_le hin.1.2.1;obtain ⟨k,rfl⟩:=Int.eq_ofNat_of_zero_le hin.2.1.1;intro G2 L2 w2 a2 c2 hG M2 R2
  exact Aik M2 (S.mono Am hG) (A5.mono hG) (A6.mono hG) (A7.mono hG) (A8.mono hG) R2 (by omega) (by omega) (by omega)
 have hin:=hi.1 h;unfold Bd at hin;unfold Pg;have h5:=K7 (l:=l) (p:=z.toNat) (n:=n.toNat) (by omega);rw [J4 (by omega),h5,List.length_take,List.length_drop];omega
theorem Api {w0 w:World} {G:A4} {L:List Res} {c:RulesD} {kca:Option Addr} {kcc:Nat} (SC:Au C6 9 G (.slice kca c.kinds.length kcc) c.kinds) {a1:Option Addr} {c1:Nat} {l:List EntD} (S:Au Ca 6 G (.slice a1 l.length c1) l) (hck:Bv c l=0) {ta:Option Addr} {tc:Nat} {xs:List ItemD} (T:Au Cv 4 G (.slice ta xs.length tc) xs) {z:Int} {b5 b6 b9:Nat} (M:Mem w0 G L w) (A5:At G b5 0 [.slice a1 l.length c1]) (A6:At G b6 0 [.int .i64 z]) (A9:At G b9 0 [.slice ta xs.length tc]) (hN:xs.length≤900000) :
  Calls Tryz.prog 116 #[.agg #[.slice kca c.kinds.length kcc,.int .i64 c.cap],.agg #[.slice a1 l.length c1],.agg #[.bool (decide (Bd z xs.length l.length)),.int .i64 0,.slice ta xs.length tc,.func (.func 163) #[] #[.pointer (some ⟨b5,0,none⟩),.pointer (some ⟨b6,0,none⟩)],.func (.func 164) #[] #[.pointer (some ⟨b5,0,none⟩),.pointer (some ⟨b6,0,none⟩),.pointer (some ⟨b9,0,none⟩)]]] w (Iz w0 G (Kd L (Hn c l z xs))):=by
 have hl2:=(E9 hck).2.1;rw [← chg_do hck];refine Ps (R:=[]) (Rk:=fun _ R=>R=[]) M SC S T hck rfl (by omega) (fun hi=>Or.inr ⟨163,[.pointer (some ⟨b5,0,none⟩),.pointer (some ⟨b6,0,none⟩)],rfl,ent163,?_⟩) (fun hi _=>⟨164,[.pointer (some ⟨b5,0,none⟩),.pointer (some ⟨b6,0,none⟩),.pointer (some ⟨b9,0,none⟩)],rfl,ent164,?_⟩) (fun hi=>?_) (fun hi hx=>Alq hck (Afy hx (Nat.le_refl _)))
 ·have hin:=dT hi;unfold Bd at hin;obtain ⟨p,rfl⟩:=Int.eq_ofNat_of_zero_le hin.1.1;intro G2 L2 R2 w2 i x ma mc hG hx hR M2 hI SM;subst hR;obtain ⟨y,hy⟩:=A2 (xs:=l) (i:=p+i) (by have:=Bj hx;omega);refine (Ajo M2 (S.mono Am hG) (A5.mono hG) (A6.mono hG) hI SM hy (by omega)).mono ?_;rintro e w' h
  cases e with
  | returned v=>exact ⟨_,h.1,[],by rw [h.2,Int.toNat_natCast,V2 hx hy],rfl,fun _=>rfl⟩
  | panicked c=>exact h.elim
  | outgrown=>exact h.elim
 ·have hin:=dT hi;unfold Bd at hin;obtain ⟨p,rfl⟩:=Int.eq_ofNat_of_zero_le hin.1.1;intro G2 L2 w2 a2 c2 hG M2 R2
  exact Ajn M2 (S.mono Am hG) (A5.mono hG) (A6.mono hG) (T.mono Aw hG) (A9.mono hG) R2 (by omega) (by omega) (by rw [List.length_map];omega)
 ·have hin:=dT hi;unfold Bd at hin;rw [J4 (by omega),List.length_map];omega
theorem res_eq {c:RulesD} {xs:List ItemD} (l:List EntD) (h:Bv c l=0):doR (Bv c l) true ((xs.length:Nat):Int) (Kx c xs (Sr [] xs)) xs.length (xs.map (Cq c))=E2 c [] 0 xs:=by
 have hc:=(E9 h).1;have h9:Bv c []=0:=by rw [Iu hc (by decide) (i:=0) rfl (Nat.le_refl _)];rfl
 rw [← Amf h9,h,h9,decide_eq_true (show Bd 0 0 ([]:List EntD).length by decide)];have h1:Dd [] (0:Int).toNat 0 (xs.map (Cq c))=xs.map (Cq c):=by simp [Dd]
 rw [h1,show ([]:List EntD).length+xs.length=xs.length from Nat.zero_add _]
theorem Akr {w0 w:World} {G:A4} {L:List Res} {c:RulesD} {kca:Option Addr} {kcc:Nat} (SC:Au C6 9 G (.slice kca c.kinds.length kcc) c.kinds) {a1:Option Addr} {c1:Nat} {l:List EntD} (S:Au Ca 6 G (.slice a1 l.length c1) l) (hck:Bv c l=0) {ta:Option Addr} {tc:Nat} {xs:List ItemD} (T:Au Cv 4 G (.slice ta xs.length tc) xs) {b mb:Nat} {es:Array MapEntry} {cl:Nat} {ks:List Nat} (M:Mem w0 G (.blk b [.map (some mb)] 185::.obj mb (.map es cl)::L) w) (Es:Ji es ks) (hks:∀ q,q∈ks↔Dn [] q) (hN:xs.length≤900000) :
  Calls Tryz.prog 116 #[.agg #[.slice kca c.kinds.length kcc,.int .i64 c.cap],.agg #[.slice a1 l.length c1],.agg #[.bool true,.int .i64 ((xs.length:Nat):Int),.slice ta xs.length tc,.func (.func 168) #[] #[.pointer (some ⟨b,0,none⟩)],.func (.func 140) #[] #[]]] w (Iz w0 G (Kd L (E2 c [] 0 xs))):=by
 rw [← res_eq l hck];refine Ps (R:=[.blk b [.map (some mb)] 185,.obj mb (.map es cl)]) (Rk:=Aet [] xs b mb) M SC S T hck (Sq Es hks) (by omega) (fun _=>Or.inr ⟨168,[.pointer (some ⟨b,0,none⟩)],rfl,Aog,Zc⟩) (fun hi _=>⟨140,[],rfl,ent140,?_⟩) (fun hi=>?_) (fun hi hx=>?_)
 ·intro G2 L2 w2 a2 c2 hG M2 R2
  exact Ahr M2 R2
 ·rw [List.length_map];omega
 intro x hm;obtain ⟨y,hy,rfl⟩:=List.mem_map.1 hm
 exact Aaa (Afy hx (Nat.le_refl _) y hy)
variable {w0 w:World} {G:A4} {L:List Res}
theorem W3 {c:RulesD} (h:D2 c):Bv c []=0:=by
 rw [Iu h (by decide) (i:=0) rfl (Nat.le_refl _)];rfl
theorem Ya (M:Mem w0 G L w) {c:RulesD} {kca:Option Addr} {kcc:Nat} (SC:Au C6 9 G (.slice kca c.kinds.length kcc) c.kinds) {a1:Option Addr} {c1:Nat} {l:List EntD} (S:Au Ca 6 G (.slice a1 l.length c1) l) (hck:Bv c l=0) {z:Int} {ta:Option Addr} {tc:Nat} {xs:List ItemD} (T:Au Cv 4 G (.slice ta xs.length tc) xs) (hN:xs.length≤900000):Calls Tryz.prog 123 #[.agg #[.slice kca c.kinds.length kcc,.int .i64 c.cap],.agg #[.slice a1 l.length c1],.int .i64 z,.slice ta xs.length tc] w (Iz w0 G (Kd L (E2 c l z xs))):=by
 have bS:=S.bound;have bT:=T.bound;refine Ay (vs:=[_,_,_,_]) Tryz.func123 rfl (n:=32) rfl rfl<|Ac<|Cz M rfl rfl rfl<|?_;clear M;intro b1 w M
 refine Cz M rfl rfl rfl<|?_;clear M;intro b2 w M
 refine Cz M rfl rfl rfl<|?_;clear M;intro b3 w M
 refine C9 M Ba rfl rfl<|?_;clear M;intro b4 w M
 refine Ab rfl<|Ag<|?_
 obtain ⟨Gq6,hGq6,hbq6,M⟩:=M.freeze (k:=2) rfl;have Aq6:At Gq6 b2 0 [.slice a1 l.length c1]:=At.of_cells hbq6;clear hbq6;replace SC:=SC.mono A1 hGq6;replace S:=S.mono Am hGq6;replace T:=T.mono Aw hGq6;change Mem w0 Gq6 (.blk b4 [.slice none 0 0] 54::.blk b3 [.int .i64 z] 3::.blk b1 [.slice kca c.kinds.length kcc,.int .i64 c.cap] 51::L) _ at M;obtain ⟨Gq7,hGq7,hbq7,M⟩:=M.freeze (k:=1) rfl;have Aq7:At Gq7 b3 0 [.int .i64 z]:=At.of_cells hbq7;clear hbq7;replace SC:=SC.mono A1 hGq7;replace S:=S.mono Am hGq7;replace T:=T.mono Aw hGq7;replace Aq6:=Aq6.mono hGq7;change Mem w0 Gq7 (.blk b4 [.slice none 0 0] 54::.blk b1 [.slice kca c.kinds.length kcc,.int .i64 c.cap] 51::L) _ at M;intro a F;refine Gh [(true,0),(true,1),(true,2),(true,3),(true,4),(true,5),(true,7),(true,8),(true,9),(true,10),(true,11),(true,12),(true,13),(true,14),(true,15),(true,17),(false,6),(false,16),(true,18),(false,19),(true,20),(true,21),(false,22),(true,23)] (Keep Gq7 [.blk b1 [.slice kca c.kinds.length kcc,.int .i64 c.cap] 51]) rfl (by kernel_rfl) (fun c a d v w h=>by cases d <;> exact h) (Bo (M.drew _)) ?_;replace M:=M.drew (w.drawn+1);revert a;refine l_r (fun a F w M=>Af Co rfl (F.ev rfl) (cs:=[.slice kca c.kinds.length kcc,.int .i64 c.cap]) rfl (M.cellsL (k:=0) rfl rfl)) rfl<|l_r (fun a F w M=>Af Ba rfl (F.ev rfl) (cs:=[.slice a1 l.length c1]) rfl (M.cellsA Aq6 0 (by omega) rfl)) rfl<|l_r (fun a F w M=>Al (agf Cg rfl) (F.ev rfl) (M.cellA Aq7 0 (by omega) rfl)) rfl<|l_r (fun a F w M=>Ce Ba.k rfl F rfl) rfl<|l_r (fun a F w M=>Al (agf Br rfl) (F.ev rfl) (M.cellA Aq6 0 rfl rfl)) rfl<|l_r (fun a F w M=>D8 Br.k (F.ev rfl)) rfl<|l_r (fun a F w M=>Ce Ba.k rfl F rfl) rfl<|l_r (fun a F w M=>Al (agf Br rfl) (F.ev rfl) (M.cellA Aq6 0 rfl rfl)) rfl<|l_r (fun a F w M=>D8 Br.k (F.ev rfl)) rfl<|l_r (fun a F w M=>B1 F rfl) rfl<|l_r (fun a F w M=>D8 B9.k (F.ev rfl)) rfl<|l_r (fun a F w M=>Gf (F.ev rfl) (F.ev rfl) (C0 (by (have h9_:=(E9 hck).2.1;omega)) (by (have h9_:=(E9 hck).2.1;omega)))) rfl<|l_r (fun a F w M=>B1 F rfl) rfl<|l_r (fun a F w M=>Ce Ba.k rfl F rfl) rfl<|l_r (fun a F w M=>Al (agf Br rfl) (F.ev rfl) (M.cellA Aq6 0 rfl rfl)) rfl<|l_r (fun a F w M=>Ds (vs:=#[.pointer (some ⟨b2,0,none⟩),.pointer (some ⟨b3,0,none⟩)]) (by simp only [List.map_toArray,List.map_cons,List.map_nil,F.ev (x:=.tmp 5) rfl,F.ev (x:=.tmp 6) rfl])) rfl<|l_a rfl<|Bs Uk rfl rfl (I1 (z:=z) (n:=0) (m:=((l.length:Nat):Int)) M (by omega))<|?_;clear M;rintro _ w M rfl
 refine eQ (Bo M)<|l_a rfl<|P6 Aon rfl rfl (Qz (c:=c) (l:=l) M S hck)<|?_;clear M;rintro _ _ w M ⟨buu8,mbu8,esu8,clu8,ksu8,rfl,rfl,Esu8,hksu8⟩
 refine eQ (Bo M)<|l_r (fun a F w M=>A3 (cs:=[.bool (decide (Bd z 0 ((l.length:Nat):Int))),.int .i64 (((l.length:Nat):Int)+((xs.length:Nat):Int)),.slice ta xs.length tc,.func (.func 168) #[] #[.pointer (some ⟨buu8,0,none⟩)],.func (.func 161) #[] #[.pointer (some ⟨b2,0,none⟩),.pointer (some ⟨b3,0,none⟩)]]) (ps:=[(0,.bool (decide (Bd z 0 ((l.length:Nat):Int)))),(1,.int .i64 (((l.length:Nat):Int)+((xs.length:Nat):Int))),(2,.slice ta xs.length tc),(3,.func (.func 168) #[] #[.pointer (some ⟨buu8,0,none⟩)]),(4,.func (.func 161) #[] #[.pointer (some ⟨b2,0,none⟩),.pointer (some ⟨b3,0,none⟩)])]) Ha.k rfl Ha (F.evp rfl) rfl) rfl<|l_a rfl<|?_
 replace M:=M.perm (Ao _ 1 _ rfl);replace M:=M.perm (Ao _ 1 _ rfl);change Mem w0 Gq7 (_::_::_::_::L) _ at M;intro a F;refine Dy F Qq rfl rfl (Amg SC S hck T M Esu8 hksu8 Aq6 Aq7 hN) ?_;clear F M a;rintro _ Gq9 _ w a hGq9 M ⟨aoq9,csq9,Loq9,rfl,rfl,Eoq9⟩ F;replace SC:=SC.mono A1 hGq9;replace S:=S.mono Am hGq9;replace T:=T.mono Aw hGq9;replace Aq6:=Aq6.mono hGq9;replace Aq7:=Aq7.mono hGq9;have M:=M.perm (Cp (Cy aoq9 (E2 c l z xs).1.length csq9::Loq9) [.blk b4 [.slice none 0 0] 54,.blk b1 [.slice kca c.kinds.length kcc,.int .i64 c.cap] 51] L);change Mem w0 Gq9 (.blk b4 [.slice none 0 0] 54::.blk b1 [.slice kca c.kinds.length kcc,.int .i64 c.cap] 51::((Cy aoq9 (E2 c l z xs).1.length csq9::Loq9)++L)) _ at M;revert a;refine eK (C':=Keep Gq9 [.blk b1 [.slice kca c.kinds.length kcc,.int .i64 c.cap] 51]) (Bo M) (fun w h=>h.mono hGq9 (by simp))<|l_r (fun a F w M=>Cr (v:=.agg #[.slice aoq9 ((E2 c l z xs).1.length) ((E2 c l z xs).1.length)]) (F.ev rfl) rfl) rfl<|l_r (fun a F w M=>Cr (v:=.int .i64 ((E2 c l z xs).2)) (F.ev rfl) rfl) rfl<|l_a rfl<|fun a F=>?_
 refine Cj F M Ba 0 ?_;clear F M a;intro w a M F;change Mem w0 Gq9 (.blk b4 [.slice aoq9 ((E2 c l z xs).1.length) ((E2 c l z xs).1.length)] 54::_::((Cy aoq9 (E2 c l z xs).1.length csq9::Loq9)++L)) _ at M;revert a;refine eK (C':=Keep Gq9 [.blk b1 [.slice kca c.kinds.length kcc,.int .i64 c.cap] 51]) (Bo M) (fun w h=>h.mono (Gle.refl _) (by simp))<|l_r (fun a F w M=>G8 F rfl) rfl<|Hq<|Ae<|fun a F=>Cn F M (k:=0) rfl rfl Ba rfl rfl rfl rfl ?_
 exact ⟨_,_,((hGq6.trans hGq7).trans hGq9),M.weaken dS2,aoq9,csq9,Loq9,rfl,rfl,Eoq9⟩
theorem Pi (M:Mem w0 G L w) {c:RulesD} {kca:Option Addr} {kcc:Nat} (SC:Au C6 9 G (.slice kca c.kinds.length kcc) c.kinds) {a1:Option Addr} {c1:Nat} {l:List EntD} (S:Au Ca 6 G (.slice a1 l.length c1) l) (hck:Bv c l=0) {z n:Int}:Calls Tryz.prog 69 #[.agg #[.slice kca c.kinds.length kcc,.int .i64 c.cap],.agg #[.slice a1 l.length c1],.int .i64 z,.int .i64 n] w (Iz w0 G (Kd L (Ic l z n))):=by
 have bS:=S.bound;refine Ay (vs:=[_,_,_,_]) Tryz.func69 rfl (n:=23) rfl rfl<|Ac<|Cz M rfl rfl rfl<|?_;clear M;intro b1 w M
 refine Cz M rfl rfl rfl<|?_;clear M;intro b2 w M
 refine Cz M rfl rfl rfl<|?_;clear M;intro b3 w M
 refine Cz M rfl rfl rfl<|?_;clear M;intro b4 w M
 refine C9 M Ba rfl rfl<|?_;clear M;intro b5 w M
 refine Ab rfl<|Ag<|?_
 obtain ⟨Gq7,hGq7,hbq7,M⟩:=M.freeze (k:=3) rfl;have Aq7:At Gq7 b2 0 [.slice a1 l.length c1]:=At.of_cells hbq7;clear hbq7;replace SC:=SC.mono A1 hGq7;replace S:=S.mono Am hGq7;change Mem w0 Gq7 (.blk b5 [.slice none 0 0] 54::.blk b4 [.int .i64 n] 3::.blk b3 [.int .i64 z] 3::.blk b1 [.slice kca c.kinds.length kcc,.int .i64 c.cap] 51::L) _ at M;obtain ⟨Gq8,hGq8,hbq8,M⟩:=M.freeze (k:=2) rfl;have Aq8:At Gq8 b3 0 [.int .i64 z]:=At.of_cells hbq8;clear hbq8;replace SC:=SC.mono A1 hGq8;replace S:=S.mono Am hGq8;replace Aq7:=Aq7.mono hGq8;change Mem w0 Gq8 (.blk b5 [.slice none 0 0] 54::.blk b4 [.int .i64 n] 3::.blk b1 [.slice kca c.kinds.length kcc,.int .i64 c.cap] 51::L) _ at M;obtain ⟨Gq9,hGq9,hbq9,M⟩:=M.freeze (k:=1) rfl;have Aq9:At Gq9 b4 0 [.int .i64 n]:=At.of_cells hbq9;clear hbq9;replace SC:=SC.mono A1 hGq9;replace S:=S.mono Am hGq9;replace Aq7:=Aq7.mono hGq9;replace Aq8:=Aq8.mono hGq9;change Mem w0 Gq9 (.blk b5 [.slice none 0 0] 54::.blk b1 [.slice kca c.kinds.length kcc,.int .i64 c.cap] 51::L) _ at M;intro a F;refine Gh [(true,0),(true,1),(true,2),(true,3),(true,4),(true,5),(true,6),(true,8),(false,7),(true,9),(false,10),(true,11),(true,12),(false,13),(true,14)] (Keep Gq9 [.blk b1 [.slice kca c.kinds.length kcc,.int .i64 c.cap] 51]) rfl (by kernel_rfl) (fun c a d v w h=>by cases d <;> exact h) (Bo (M.drew _)) ?_;replace M:=M.drew (w.drawn+1);revert a;refine l_r (fun a F w M=>Af Co rfl (F.ev rfl) (cs:=[.slice kca c.kinds.length kcc,.int .i64 c.cap]) rfl (M.cellsL (k:=0) rfl rfl)) rfl<|l_r (fun a F w M=>Af Ba rfl (F.ev rfl) (cs:=[.slice a1 l.length c1]) rfl (M.cellsA Aq7 0 (by omega) rfl)) rfl<|l_r (fun a F w M=>Al (agf Cg rfl) (F.ev rfl) (M.cellA Aq8 0 (by omega) rfl)) rfl<|l_r (fun a F w M=>Al (agf Cg rfl) (F.ev rfl) (M.cellA Aq9 0 (by omega) rfl)) rfl<|l_r (fun a F w M=>Ce Ba.k rfl F rfl) rfl<|l_r (fun a F w M=>Al (agf Br rfl) (F.ev rfl) (M.cellA Aq7 0 rfl rfl)) rfl<|l_r (fun a F w M=>D8 Br.k (F.ev rfl)) rfl<|l_r (fun a F w M=>Ds (vs:=#[.pointer (some ⟨b2,0,none⟩),.pointer (some ⟨b3,0,none⟩),.pointer (some ⟨b4,0,none⟩)]) (by simp only [List.map_toArray,List.map_cons,List.map_nil,F.ev (x:=.tmp 5) rfl,F.ev (x:=.tmp 6) rfl,F.ev (x:=.tmp 7) rfl])) rfl<|l_a rfl<|Bs Uk rfl rfl (I1 (z:=z) (n:=n) (m:=((l.length:Nat):Int)) M (by omega))<|?_;clear M;rintro _ w M rfl
 refine eQ (Bo M)<|l_r (fun a F w M=>A3 (cs:=[.bool (decide (Bd z n ((l.length:Nat):Int))),.int .i64 0,.slice none 0 0,.nilFunc,.func (.func 118) #[] #[.pointer (some ⟨b2,0,none⟩),.pointer (some ⟨b3,0,none⟩),.pointer (some ⟨b4,0,none⟩)]]) (ps:=[(0,.bool (decide (Bd z n ((l.length:Nat):Int)))),(4,.func (.func 118) #[] #[.pointer (some ⟨b2,0,none⟩),.pointer (some ⟨b3,0,none⟩),.pointer (some ⟨b4,0,none⟩)])]) Ha.k rfl Ha (F.evp rfl) rfl) rfl<|l_a rfl<|fun a F=>?_
 refine Dy F Qq rfl rfl (Akt SC S hck M Aq7 Aq8 Aq9) ?_;clear F M a;rintro _ Gq10 _ w a hGq10 M ⟨aoq10,csq10,Loq10,rfl,rfl,Eoq10⟩ F;replace SC:=SC.mono A1 hGq10;replace S:=S.mono Am hGq10;replace Aq7:=Aq7.mono hGq10;replace Aq8:=Aq8.mono hGq10;replace Aq9:=Aq9.mono hGq10;have M:=M.perm (Cp (Cy aoq10 (Ic l z n).1.length csq10::Loq10) [.blk b5 [.slice none 0 0] 54,.blk b1 [.slice kca c.kinds.length kcc,.int .i64 c.cap] 51] L);change Mem w0 Gq10 (.blk b5 [.slice none 0 0] 54::.blk b1 [.slice kca c.kinds.length kcc,.int .i64 c.cap] 51::((Cy aoq10 (Ic l z n).1.length csq10::Loq10)++L)) _ at M;revert a;refine eK (C':=Keep Gq10 [.blk b1 [.slice kca c.kinds.length kcc,.int .i64 c.cap] 51]) (Bo M) (fun w h=>h.mono hGq10 (by simp))<|l_r (fun a F w M=>Cr (v:=.agg #[.slice aoq10 ((Ic l z n).1.length) ((Ic l z n).1.length)]) (F.ev rfl) rfl) rfl<|l_r (fun a F w M=>Cr (v:=.int .i64 ((Ic l z n).2)) (F.ev rfl) rfl) rfl<|l_a rfl<|fun a F=>?_
 refine Cj F M Ba 0 ?_;clear F M a;intro w a M F;change Mem w0 Gq10 (.blk b5 [.slice aoq10 ((Ic l z n).1.length) ((Ic l z n).1.length)] 54::_::((Cy aoq10 (Ic l z n).1.length csq10::Loq10)++L)) _ at M;revert a;refine eK (C':=Keep Gq10 [.blk b1 [.slice kca c.kinds.length kcc,.int .i64 c.cap] 51]) (Bo M) (fun w h=>h.mono (Gle.refl _) (by simp))<|l_r (fun a F w M=>G8 F rfl) rfl<|Hq<|Ae<|fun a F=>Cn F M (k:=0) rfl rfl Ba rfl rfl rfl rfl ?_
 exact ⟨_,_,(((hGq7.trans hGq8).trans hGq9).trans hGq10),M.weaken dS2,aoq10,csq10,Loq10,rfl,rfl,Eoq10⟩
theorem Adp (M:Mem w0 G L w) {c:RulesD} {kca:Option Addr} {kcc:Nat} (SC:Au C6 9 G (.slice kca c.kinds.length kcc) c.kinds) {a1:Option Addr} {c1:Nat} {l:List EntD} (S:Au Ca 6 G (.slice a1 l.length c1) l) (hck:Bv c l=0) {z n q:Int}:Calls Tryz.prog 126 #[.agg #[.slice kca c.kinds.length kcc,.int .i64 c.cap],.agg #[.slice a1 l.length c1],.int .i64 z,.int .i64 n,.int .i64 q] w (Iz w0 G (Kd L (Gr l z n q))):=by
 have bS:=S.bound;refine Ay (vs:=[_,_,_,_,_]) Tryz.func126 rfl (n:=36) rfl rfl<|Ac<|Cz M rfl rfl rfl<|?_;clear M;intro b1 w M
 refine Cz M rfl rfl rfl<|?_;clear M;intro b2 w M
 refine Cz M rfl rfl rfl<|?_;clear M;intro b3 w M
 refine Cz M rfl rfl rfl<|?_;clear M;intro b4 w M
 refine Cz M rfl rfl rfl<|?_;clear M;intro b5 w M
 refine C9 M Ba rfl rfl<|?_;clear M;intro b6 w M
 refine Ab rfl<|Ag<|?_
 obtain ⟨Gq8,hGq8,hbq8,M⟩:=M.freeze (k:=4) rfl;have Aq8:At Gq8 b2 0 [.slice a1 l.length c1]:=At.of_cells hbq8;clear hbq8;replace SC:=SC.mono A1 hGq8;replace S:=S.mono Am hGq8;change Mem w0 Gq8 (.blk b6 [.slice none 0 0] 54::.blk b5 [.int .i64 q] 3::.blk b4 [.int .i64 n] 3::.blk b3 [.int .i64 z] 3::.blk b1 [.slice kca c.kinds.length kcc,.int .i64 c.cap] 51::L) _ at M;obtain ⟨Gq9,hGq9,hbq9,M⟩:=M.freeze (k:=3) rfl;have Aq9:At Gq9 b3 0 [.int .i64 z]:=At.of_cells hbq9;clear hbq9;replace SC:=SC.mono A1 hGq9;replace S:=S.mono Am hGq9;replace Aq8:=Aq8.mono hGq9;change Mem w0 Gq9 (.blk b6 [.slice none 0 0] 54::.blk b5 [.int .i64 q] 3::.blk b4 [.int .i64 n] 3::.blk b1 [.slice kca c.kinds.length kcc,.int .i64 c.cap] 51::L) _ at M;obtain ⟨Gq10,hGq10,hbq10,M⟩:=M.freeze (k:=2) rfl;have Aq10:At Gq10 b4 0 [.int .i64 n]:=At.of_cells hbq10;clear hbq10;replace SC:=SC.mono A1 hGq10;replace S:=S.mono Am hGq10;replace Aq8:=Aq8.mono hGq10;replace Aq9:=Aq9.mono hGq10;change Mem w0 Gq10 (.blk b6 [.slice none 0 0] 54::.blk b5 [.int .i64 q] 3::.blk b1 [.slice kca c.kinds.length kcc,.int .i64 c.cap] 51::L) _ at M;obtain ⟨Gq11,hGq11,hbq11,M⟩:=M.freeze (k:=1) rfl;have Aq11:At Gq11 b5 0 [.int .i64 q]:=At.of_cells hbq11;clear hbq11;replace SC:=SC.mono A1 hGq11;replace S:=S.mono Am hGq11;replace Aq8:=Aq8.mono hGq11;replace Aq9:=Aq9.mono hGq11;replace Aq10:=Aq10.mono hGq11;change Mem w0 Gq11 (.blk b6 [.slice none 0 0] 54::.blk b1 [.slice kca c.kinds.length kcc,.int .i64 c.cap] 51::L) _ at M;refine Az<|Dq Cg M Aq9 0 rfl rfl (by omega) rfl<|Dq Cg M Aq10 0 rfl rfl (by omega) rfl<|A0 Ba.k rfl rfl<|Dq Br M Aq8 0 rfl rfl rfl rfl<|B8 Br.k rfl<|Bs Uk rfl rfl (I1 (z:=z) (n:=n) (m:=((l.length:Nat):Int)) M (by omega))<|?_;clear M;rintro _ w M rfl
 refine Ab rfl<|Ag<|fun a F=>Fg [(.pure,0),(.pure,1),(.free,2),(.free,3),(.pure,4),(.free,5),(.pure,6),(.pure,7),(.pure,8),(.free,9),(.free,12),(.keep,10),(.free,11),(.free,13),(.keep,14),(.free,15),(.free,16),(.chg,17),(.free,18)] [17] (Keep Gq11 [.blk b1 [.slice kca c.kinds.length kcc,.int .i64 c.cap] 51]) rfl (by kernel_rfl) (fun c a d v w h=>by cases d <;> exact h) (Bo (M.drew _)) ?_
 replace M:=M.drew (w.drawn+1);revert a;refine k_p (fun a F w M=>Af Co rfl (F.ev rfl) (cs:=[.slice kca c.kinds.length kcc,.int .i64 c.cap]) rfl (M.cellsL (k:=0) rfl rfl)) rfl<|k_p (fun a F w M=>Af Ba rfl (F.ev rfl) (cs:=[.slice a1 l.length c1]) rfl (M.cellsA Aq8 0 (by omega) rfl)) rfl<|k_f (fun a F w _=>B1 F rfl) rfl<|k_f (fun a F w _=>B1 F rfl) rfl<|?_
 rcases bE (decide (Bd z n ((l.length:Nat):Int))) with h12b | h14b
 ·skip
  have h12:=dT h12b;have hin1:=h12;unfold Bd at hin1;refine Gk rfl h12b (fun a F w M=>Al (agf Cg rfl) (F.ev rfl) (M.cellA Aq11 0 (by omega) rfl))<|Cb rfl h12b (fun a F w _=>Ce Ba.k rfl F rfl)<|Gk rfl h12b (fun a F w M=>Al (agf Br rfl) (F.ev rfl) (M.cellA Aq8 0 rfl rfl))<|Gk rfl h12b (fun a F w M=>D8 Br.k (F.ev rfl))<|Gk rfl h12b (fun a F w M=>Al (agf Cg rfl) (F.ev rfl) (M.cellA Aq10 0 (by omega) rfl))<|Cb rfl h12b (fun a F w _=>J1 (F.ev rfl) (F.ev rfl) (C0 (by omega) (by omega)))<|k_f (fun a F w _=>Ds (vs:=#[.pointer (some ⟨b2,0,none⟩),.pointer (some ⟨b3,0,none⟩),.pointer (some ⟨b4,0,none⟩),.pointer (some ⟨b5,0,none⟩)]) (by simp only [List.map_toArray,List.map_cons,List.map_nil,F.ev (x:=.tmp 6) rfl,F.ev (x:=.tmp 7) rfl,F.ev (x:=.tmp 8) rfl,F.ev (x:=.tmp 9) rfl])) rfl<|fun a F=>G3 F rfl rfl h12b ?_
  revert a;refine g_t rfl h12b<|Bs Uk rfl rfl (I1 (z:=q) (n:=0) (m:=((l.length:Nat):Int) - n) M (by omega))<|?_;clear M;rintro _ w M rfl
  refine eQ (Bo M)<|k_f (fun a F w _=>F5 F rfl h12b rfl) rfl<|k_f (fun a F w _=>A3 (cs:=[.bool (decide (Bd q 0 (((l.length:Nat):Int) - n))),.int .i64 0,.slice none 0 0,.nilFunc,.func (.func 162) #[] #[.pointer (some ⟨b2,0,none⟩),.pointer (some ⟨b3,0,none⟩),.pointer (some ⟨b4,0,none⟩),.pointer (some ⟨b5,0,none⟩)]]) (ps:=[(0,.bool (decide (Bd q 0 (((l.length:Nat):Int) - n)))),(4,.func (.func 162) #[] #[.pointer (some ⟨b2,0,none⟩),.pointer (some ⟨b3,0,none⟩),.pointer (some ⟨b4,0,none⟩),.pointer (some ⟨b5,0,none⟩)])]) Ha.k rfl Ha (F.evp rfl) rfl) rfl<|k_k rfl<|fun a F=>?_
  refine Dy F Qq rfl rfl (Z7 SC S hck ⟨fun h_=>⟨h12,dT h_⟩,fun h_=>decide_eq_true h_.2⟩ M Aq8 Aq9 Aq10 Aq11) ?_;clear F M a;rintro _ Gq13 _ w a hGq13 M ⟨aoq13,csq13,Loq13,rfl,rfl,Eoq13⟩ F;replace SC:=SC.mono A1 hGq13;replace S:=S.mono Am hGq13;replace Aq8:=Aq8.mono hGq13;replace Aq9:=Aq9.mono hGq13;replace Aq10:=Aq10.mono hGq13;replace Aq11:=Aq11.mono hGq13;have M:=M.perm (Cp (Cy aoq13 (Gr l z n q).1.length csq13::Loq13) [.blk b6 [.slice none 0 0] 54,.blk b1 [.slice kca c.kinds.length kcc,.int .i64 c.cap] 51] L);change Mem w0 Gq13 (.blk b6 [.slice none 0 0] 54::.blk b1 [.slice kca c.kinds.length kcc,.int .i64 c.cap] 51::((Cy aoq13 (Gr l z n q).1.length csq13::Loq13)++L)) _ at M;revert a;refine eK (C':=Keep Gq13 [.blk b1 [.slice kca c.kinds.length kcc,.int .i64 c.cap] 51]) (Bo M) (fun w h=>h.mono hGq13 (by simp))<|k_f (fun a F w _=>Cr (v:=.agg #[.slice aoq13 ((Gr l z n q).1.length) ((Gr l z n q).1.length)]) (F.ev rfl) rfl) rfl<|k_f (fun a F w _=>Cr (v:=.int .i64 ((Gr l z n q).2)) (F.ev rfl) rfl) rfl<|k_c rfl<|fun a F=>?_
  refine Cj F M Ba 0 ?_;clear F M a;intro w a M F;change Mem w0 Gq13 (.blk b6 [.slice aoq13 ((Gr l z n q).1.length) ((Gr l z n q).1.length)] 54::_::((Cy aoq13 (Gr l z n q).1.length csq13::Loq13)++L)) _ at M;revert a;refine Bc<|fun a F=>⟨Keep Gq13 [.blk b6 [.slice aoq13 ((Gr l z n q).1.length) ((Gr l z n q).1.length)] 54,.blk b1 [.slice kca c.kinds.length kcc,.int .i64 c.cap] 51],M.keep (Gle.refl _) (by simp),?_⟩
  revert a;refine k_f (fun a F w _=>G8 F rfl) rfl<|De<|Ae<|fun a F=>Cn F M (k:=0) rfl rfl Ba rfl rfl rfl rfl ?_
  exact ⟨_,_,((((hGq8.trans hGq9).trans hGq10).trans hGq11).trans hGq13),M.weaken dS2,aoq13,csq13,Loq13,rfl,rfl,Eoq13⟩
 have h14:=dF h14b;refine k_s rfl h14b<|k_s rfl h14b<|k_s rfl h14b<|k_s rfl h14b<|k_s rfl h14b<|k_s rfl h14b<|k_f (fun a F w _=>Ds (vs:=#[.pointer (some ⟨b2,0,none⟩),.pointer (some ⟨b3,0,none⟩),.pointer (some ⟨b4,0,none⟩),.pointer (some ⟨b5,0,none⟩)]) (by simp only [List.map_toArray,List.map_cons,List.map_nil,F.ev (x:=.tmp 6) rfl,F.ev (x:=.tmp 7) rfl,F.ev (x:=.tmp 8) rfl,F.ev (x:=.tmp 9) rfl])) rfl<|k_s rfl h14b<|k_f (fun a F w _=>Fx F rfl h14b rfl) rfl<|k_f (fun a F w _=>A3 (cs:=[.bool false,.int .i64 0,.slice none 0 0,.nilFunc,.func (.func 162) #[] #[.pointer (some ⟨b2,0,none⟩),.pointer (some ⟨b3,0,none⟩),.pointer (some ⟨b4,0,none⟩),.pointer (some ⟨b5,0,none⟩)]]) (ps:=[(0,.bool false),(4,.func (.func 162) #[] #[.pointer (some ⟨b2,0,none⟩),.pointer (some ⟨b3,0,none⟩),.pointer (some ⟨b4,0,none⟩),.pointer (some ⟨b5,0,none⟩)])]) Ha.k rfl Ha (F.evp rfl) rfl) rfl<|k_k rfl<|fun a F=>?_
 refine Dy F Qq rfl rfl (Z7 SC S hck ⟨fun h_=>(by cases h_),fun h_=>absurd h_.1 h14⟩ M Aq8 Aq9 Aq10 Aq11) ?_;clear F M a;rintro _ Gq15 _ w a hGq15 M ⟨aoq15,csq15,Loq15,rfl,rfl,Eoq15⟩ F;replace SC:=SC.mono A1 hGq15;replace S:=S.mono Am hGq15;replace Aq8:=Aq8.mono hGq15;replace Aq9:=Aq9.mono hGq15;replace Aq10:=Aq10.mono hGq15;replace Aq11:=Aq11.mono hGq15;have M:=M.perm (Cp (Cy aoq15 (Gr l z n q).1.length csq15::Loq15) [.blk b6 [.slice none 0 0] 54,.blk b1 [.slice kca c.kinds.length kcc,.int .i64 c.cap] 51] L);change Mem w0 Gq15 (.blk b6 [.slice none 0 0] 54::.blk b1 [.slice kca c.kinds.length kcc,.int .i64 c.cap] 51::((Cy aoq15 (Gr l z n q).1.length csq15::Loq15)++L)) _ at M;revert a;refine eK (C':=Keep Gq15 [.blk b1 [.slice kca c.kinds.length kcc,.int .i64 c.cap] 51]) (Bo M) (fun w h=>h.mono hGq15 (by simp))<|k_f (fun a F w _=>Cr (v:=.agg #[.slice aoq15 ((Gr l z n q).1.length) ((Gr l z n q).1.length)]) (F.ev rfl) rfl) rfl<|k_f (fun a F w _=>Cr (v:=.int .i64 ((Gr l z n q).2)) (F.ev rfl) rfl) rfl<|k_c rfl<|fun a F=>?_
 refine Cj F M Ba 0 ?_;clear F M a;intro w a M F;change Mem w0 Gq15 (.blk b6 [.slice aoq15 ((Gr l z n q).1.length) ((Gr l z n q).1.length)] 54::_::((Cy aoq15 (Gr l z n q).1.length csq15::Loq15)++L)) _ at M;revert a;refine Bc<|fun a F=>⟨Keep Gq15 [.blk b6 [.slice aoq15 ((Gr l z n q).1.length) ((Gr l z n q).1.length)] 54,.blk b1 [.slice kca c.kinds.length kcc,.int .i64 c.cap] 51],M.keep (Gle.refl _) (by simp),?_⟩
 revert a;refine k_f (fun a F w _=>G8 F rfl) rfl<|De<|Ae<|fun a F=>Cn F M (k:=0) rfl rfl Ba rfl rfl rfl rfl ?_
 exact ⟨_,_,((((hGq8.trans hGq9).trans hGq10).trans hGq11).trans hGq15),M.weaken dS2,aoq15,csq15,Loq15,rfl,rfl,Eoq15⟩
theorem Yb (M:Mem w0 G L w) {c:RulesD} {kca:Option Addr} {kcc:Nat} (SC:Au C6 9 G (.slice kca c.kinds.length kcc) c.kinds) {a1:Option Addr} {c1:Nat} {l:List EntD} (S:Au Ca 6 G (.slice a1 l.length c1) l) (hck:Bv c l=0) {z:Int} {ta:Option Addr} {tc:Nat} {xs:List ItemD} (T:Au Cv 4 G (.slice ta xs.length tc) xs) (hN:xs.length≤900000):Calls Tryz.prog 128 #[.agg #[.slice kca c.kinds.length kcc,.int .i64 c.cap],.agg #[.slice a1 l.length c1],.int .i64 z,.slice ta xs.length tc] w (Iz w0 G (Kd L (Hn c l z xs))):=by
 have bS:=S.bound;have bT:=T.bound;refine Ay (vs:=[_,_,_,_]) Tryz.func128 rfl (n:=28) rfl rfl<|Ac<|Cz M rfl rfl rfl<|?_;clear M;intro b1 w M
 refine Cz M rfl rfl rfl<|?_;clear M;intro b2 w M
 refine Cz M rfl rfl rfl<|?_;clear M;intro b3 w M
 refine Cz M rfl rfl rfl<|?_;clear M;intro b4 w M
 refine C9 M Ba rfl rfl<|?_;clear M;intro b5 w M
 refine Ab rfl<|Ag<|?_
 obtain ⟨Gq7,hGq7,hbq7,M⟩:=M.freeze (k:=3) rfl;have Aq7:At Gq7 b2 0 [.slice a1 l.length c1]:=At.of_cells hbq7;clear hbq7;replace SC:=SC.mono A1 hGq7;replace S:=S.mono Am hGq7;replace T:=T.mono Aw hGq7;change Mem w0 Gq7 (.blk b5 [.slice none 0 0] 54::.blk b4 [.slice ta xs.length tc] 22::.blk b3 [.int .i64 z] 3::.blk b1 [.slice kca c.kinds.length kcc,.int .i64 c.cap] 51::L) _ at M;obtain ⟨Gq8,hGq8,hbq8,M⟩:=M.freeze (k:=2) rfl;have Aq8:At Gq8 b3 0 [.int .i64 z]:=At.of_cells hbq8;clear hbq8;replace SC:=SC.mono A1 hGq8;replace S:=S.mono Am hGq8;replace T:=T.mono Aw hGq8;replace Aq7:=Aq7.mono hGq8;change Mem w0 Gq8 (.blk b5 [.slice none 0 0] 54::.blk b4 [.slice ta xs.length tc] 22::.blk b1 [.slice kca c.kinds.length kcc,.int .i64 c.cap] 51::L) _ at M;obtain ⟨Gq9,hGq9,hbq9,M⟩:=M.freeze (k:=1) rfl;have Aq9:At Gq9 b4 0 [.slice ta xs.length tc]:=At.of_cells hbq9;clear hbq9;replace SC:=SC.mono A1 hGq9;replace S:=S.mono Am hGq9;replace T:=T.mono Aw hGq9;replace Aq7:=Aq7.mono hGq9;replace Aq8:=Aq8.mono hGq9;change Mem w0 Gq9 (.blk b5 [.slice none 0 0] 54::.blk b1 [.slice kca c.kinds.length kcc,.int .i64 c.cap] 51::L) _ at M;refine Az<|Ar (fun a F=>Ds (vs:=#[.pointer (some ⟨b2,0,none⟩),.pointer (some ⟨b3,0,none⟩)]) (by simp only [List.map_toArray,List.map_cons,List.map_nil,F.ev (x:=.tmp 5) rfl,F.ev (x:=.tmp 6) rfl])) rfl<|Ab rfl<|Ag<|fun a F=>Gh [(true,0),(true,1),(true,2),(true,3),(true,4),(true,5),(true,6),(true,7),(true,9),(true,10),(true,11),(false,8),(true,12),(false,13),(true,14),(true,15),(false,16),(true,17)] (Keep Gq9 [.blk b1 [.slice kca c.kinds.length kcc,.int .i64 c.cap] 51]) rfl (by kernel_rfl) (fun c a d v w h=>by cases d <;> exact h) (Bo (M.drew _)) ?_
 replace M:=M.drew (w.drawn+1);revert a;refine l_r (fun a F w M=>Af Co rfl (F.ev rfl) (cs:=[.slice kca c.kinds.length kcc,.int .i64 c.cap]) rfl (M.cellsL (k:=0) rfl rfl)) rfl<|l_r (fun a F w M=>Af Ba rfl (F.ev rfl) (cs:=[.slice a1 l.length c1]) rfl (M.cellsA Aq7 0 (by omega) rfl)) rfl<|l_r (fun a F w M=>Al (agf Cg rfl) (F.ev rfl) (M.cellA Aq8 0 (by omega) rfl)) rfl<|l_r (fun a F w M=>Al (agf B9 rfl) (F.ev rfl) (M.cellA Aq9 0 (by omega) rfl)) rfl<|l_r (fun a F w M=>D8 B9.k (F.ev rfl)) rfl<|l_r (fun a F w M=>Ce Ba.k rfl F rfl) rfl<|l_r (fun a F w M=>Al (agf Br rfl) (F.ev rfl) (M.cellA Aq7 0 rfl rfl)) rfl<|l_r (fun a F w M=>D8 Br.k (F.ev rfl)) rfl<|l_r (fun a F w M=>Al (agf B9 rfl) (F.ev rfl) (M.cellA Aq9 0 (by omega) rfl)) rfl<|l_r (fun a F w M=>B1 F rfl) rfl<|l_r (fun a F w M=>Ds (vs:=#[.pointer (some ⟨b2,0,none⟩),.pointer (some ⟨b3,0,none⟩),.pointer (some ⟨b4,0,none⟩)]) (by simp only [List.map_toArray,List.map_cons,List.map_nil,F.ev (x:=.tmp 5) rfl,F.ev (x:=.tmp 6) rfl,F.ev (x:=.tmp 7) rfl])) rfl<|l_a rfl<|Bs Uk rfl rfl (I1 (z:=z) (n:=((xs.length:Nat):Int)) (m:=((l.length:Nat):Int)) M (by omega))<|?_;clear M;rintro _ w M rfl
 refine eQ (Bo M)<|l_r (fun a F w M=>A3 (cs:=[.bool (decide (Bd z ((xs.length:Nat):Int) ((l.length:Nat):Int))),.int .i64 0,.slice ta xs.length tc,.func (.func 163) #[] #[.pointer (some ⟨b2,0,none⟩),.pointer (some ⟨b3,0,none⟩)],.func (.func 164) #[] #[.pointer (some ⟨b2,0,none⟩),.pointer (some ⟨b3,0,none⟩),.pointer (some ⟨b4,0,none⟩)]]) (ps:=[(0,.bool (decide (Bd z ((xs.length:Nat):Int) ((l.length:Nat):Int)))),(1,.int .i64 0),(2,.slice ta xs.length tc),(3,.func (.func 163) #[] #[.pointer (some ⟨b2,0,none⟩),.pointer (some ⟨b3,0,none⟩)]),(4,.func (.func 164) #[] #[.pointer (some ⟨b2,0,none⟩),.pointer (some ⟨b3,0,none⟩),.pointer (some ⟨b4,0,none⟩)])]) Ha.k rfl Ha (F.evp rfl) rfl) rfl<|l_a rfl<|fun a F=>?_
 refine Dy F Qq rfl rfl (Api SC S hck T M Aq7 Aq8 Aq9 hN) ?_;clear F M a;rintro _ Gq10 _ w a hGq10 M ⟨aoq10,csq10,Loq10,rfl,rfl,Eoq10⟩ F;replace SC:=SC.mono A1 hGq10;replace S:=S.mono Am hGq10;replace T:=T.mono Aw hGq10;replace Aq7:=Aq7.mono hGq10;replace Aq8:=Aq8.mono hGq10;replace Aq9:=Aq9.mono hGq10;have M:=M.perm (Cp (Cy aoq10 (Hn c l z xs).1.length csq10::Loq10) [.blk b5 [.slice none 0 0] 54,.blk b1 [.slice kca c.kinds.length kcc,.int .i64 c.cap] 51] L);change Mem w0 Gq10 (.blk b5 [.slice none 0 0] 54::.blk b1 [.slice kca c.kinds.length kcc,.int .i64 c.cap] 51::((Cy aoq10 (Hn c l z xs).1.length csq10::Loq10)++L)) _ at M;revert a;refine eK (C':=Keep Gq10 [.blk b1 [.slice kca c.kinds.length kcc,.int .i64 c.cap] 51]) (Bo M) (fun w h=>h.mono hGq10 (by simp))<|l_r (fun a F w M=>Cr (v:=.agg #[.slice aoq10 ((Hn c l z xs).1.length) ((Hn c l z xs).1.length)]) (F.ev rfl) rfl) rfl<|l_r (fun a F w M=>Cr (v:=.int .i64 ((Hn c l z xs).2)) (F.ev rfl) rfl) rfl<|l_a rfl<|fun a F=>?_
 refine Cj F M Ba 0 ?_;clear F M a;intro w a M F;change Mem w0 Gq10 (.blk b5 [.slice aoq10 ((Hn c l z xs).1.length) ((Hn c l z xs).1.length)] 54::_::((Cy aoq10 (Hn c l z xs).1.length csq10::Loq10)++L)) _ at M;revert a;refine eK (C':=Keep Gq10 [.blk b1 [.slice kca c.kinds.length kcc,.int .i64 c.cap] 51]) (Bo M) (fun w h=>h.mono (Gle.refl _) (by simp))<|l_r (fun a F w M=>G8 F rfl) rfl<|Hq<|Ae<|fun a F=>Cn F M (k:=0) rfl rfl Ba rfl rfl rfl rfl ?_
 exact ⟨_,_,(((hGq7.trans hGq8).trans hGq9).trans hGq10),M.weaken dS2,aoq10,csq10,Loq10,rfl,rfl,Eoq10⟩
theorem Rj (M:Mem w0 G L w) {c:RulesD} {kca:Option Addr} {kcc:Nat} (SC:Au C6 9 G (.slice kca c.kinds.length kcc) c.kinds) {a1:Option Addr} {c1:Nat} {l:List EntD} (S:Au Ca 6 G (.slice a1 l.length c1) l) (hck:Bv c l=0) {ta:Option Addr} {tc:Nat} {xs:List ItemD} (T:Au Cv 4 G (.slice ta xs.length tc) xs) (hN:xs.length≤900000):Calls Tryz.prog 92 #[.agg #[.slice kca c.kinds.length kcc,.int .i64 c.cap],.agg #[.slice a1 l.length c1],.slice ta xs.length tc] w (Iz w0 G (Kd L (E2 c [] 0 xs))):=by
 have bS:=S.bound;have bT:=T.bound;refine Ay (vs:=[_,_,_]) Tryz.func92 rfl (n:=18) rfl rfl<|Ac<|Cz M rfl rfl rfl<|?_;clear M;intro b1 w M
 refine Cz M rfl rfl rfl<|?_;clear M;intro b2 w M
 refine C9 M Ba rfl rfl<|?_;clear M;intro b3 w M
 refine Ab rfl<|Ag<|fun a F=>Gh [(true,0),(true,1),(true,2),(true,3),(true,4),(false,5),(true,6),(false,7),(true,8),(true,9),(false,10),(true,11)] (Keep G [.blk b2 [.slice a1 l.length c1] 54,.blk b1 [.slice kca c.kinds.length kcc,.int .i64 c.cap] 51]) rfl (by kernel_rfl) (fun c a d v w h=>by cases d <;> exact h) (Bo (M.drew _)) ?_
 replace M:=M.drew (w.drawn+1);revert a;refine l_r (fun a F w M=>Af Co rfl (F.ev rfl) (cs:=[.slice kca c.kinds.length kcc,.int .i64 c.cap]) rfl (M.cellsL (k:=1) rfl rfl)) rfl<|l_r (fun a F w M=>Af Ba rfl (F.ev rfl) (cs:=[.slice a1 l.length c1]) rfl (M.cellsL (k:=0) rfl rfl)) rfl<|l_r (fun a F w M=>B1 F rfl) rfl<|l_r (fun a F w M=>D8 B9.k (F.ev rfl)) rfl<|l_r (fun a F w M=>B1 F rfl) rfl<|l_a rfl<|P6 Aon rfl rfl (Qz (c:=c) (l:=([]:List EntD)) M Au.nil (W3 (E9 hck).1))<|?_;clear M;rintro _ _ w M ⟨buu5,mbu5,esu5,clu5,ksu5,rfl,rfl,Esu5,hksu5⟩
 refine eQ (Bo M)<|l_r (fun a F w M=>A3 (cs:=[.bool true,.int .i64 ((xs.length:Nat):Int),.slice ta xs.length tc,.func (.func 168) #[] #[.pointer (some ⟨buu5,0,none⟩)],.func (.func 140) #[] #[]]) (ps:=[(0,.bool true),(1,.int .i64 ((xs.length:Nat):Int)),(2,.slice ta xs.length tc),(3,.func (.func 168) #[] #[.pointer (some ⟨buu5,0,none⟩)]),(4,.func (.func 140) #[] #[])]) Ha.k rfl Ha (F.evp rfl) rfl) rfl<|l_a rfl<|?_
 replace M:=M.perm (Ao _ 1 _ rfl);replace M:=M.perm (Ao _ 1 _ rfl);change Mem w0 G (_::_::_::_::_::L) _ at M;intro a F;refine Dy F Qq rfl rfl (Akr SC S hck T M Esu5 hksu5 hN) ?_;clear F M a;rintro _ Gq6 _ w a hGq6 M ⟨aoq6,csq6,Loq6,rfl,rfl,Eoq6⟩ F;replace SC:=SC.mono A1 hGq6;replace S:=S.mono Am hGq6;replace T:=T.mono Aw hGq6;have M:=M.perm (Cp (Cy aoq6 (E2 c [] 0 xs).1.length csq6::Loq6) [.blk b3 [.slice none 0 0] 54,.blk b2 [.slice a1 l.length c1] 54,.blk b1 [.slice kca c.kinds.length kcc,.int .i64 c.cap] 51] L);change Mem w0 Gq6 (.blk b3 [.slice none 0 0] 54::.blk b2 [.slice a1 l.length c1] 54::.blk b1 [.slice kca c.kinds.length kcc,.int .i64 c.cap] 51::((Cy aoq6 (E2 c [] 0 xs).1.length csq6::Loq6)++L)) _ at M;revert a;refine eK (C':=Keep Gq6 [.blk b2 [.slice a1 l.length c1] 54,.blk b1 [.slice kca c.kinds.length kcc,.int .i64 c.cap] 51]) (Bo M) (fun w h=>h.mono hGq6 (by simp))<|l_r (fun a F w M=>Cr (v:=.agg #[.slice aoq6 ((E2 c [] 0 xs).1.length) ((E2 c [] 0 xs).1.length)]) (F.ev rfl) rfl) rfl<|l_r (fun a F w M=>Cr (v:=.int .i64 ((E2 c [] 0 xs).2)) (F.ev rfl) rfl) rfl<|l_a rfl<|fun a F=>?_
 refine Cj F M Ba 0 ?_;clear F M a;intro w a M F;change Mem w0 Gq6 (.blk b3 [.slice aoq6 ((E2 c [] 0 xs).1.length) ((E2 c [] 0 xs).1.length)] 54::_::_::((Cy aoq6 (E2 c [] 0 xs).1.length csq6::Loq6)++L)) _ at M;revert a;refine eK (C':=Keep Gq6 [.blk b2 [.slice a1 l.length c1] 54,.blk b1 [.slice kca c.kinds.length kcc,.int .i64 c.cap] 51]) (Bo M) (fun w h=>h.mono (Gle.refl _) (by simp))<|l_r (fun a F w M=>G8 F rfl) rfl<|Hq<|Ae<|fun a F=>Cn F M (k:=0) rfl rfl Ba rfl rfl rfl rfl ?_
 exact ⟨_,_,hGq6,M.weaken dS3,aoq6,csq6,Loq6,rfl,rfl,Eoq6⟩
open Go Go.Y
def Uy (c:RulesD) (x:EntD):Prop:=(ItemOk (c.kinds.length:Int) x.item∧Hv c x.item=0)∧Hh c x
def Dm (l:List EntD):List Nat:=l.map fun x=>x.item.key
theorem Tt {l:List Nat}:l.Nodup↔∀ i x,l[i]?=some x→¬ x∈l.take i:=by
 constructor
 ·intro h i x hx hm;obtain ⟨j,hj⟩:=List.mem_iff_getElem?.1 hm;rw [List.getElem?_take] at hj
  split at hj
  ·rename_i hji
   have h1:=List.pairwise_iff_getElem.1 h j i (Bj hj) (Bj hx) hji;rw [List.getElem?_eq_getElem (Bj hj)] at hj;rw [List.getElem?_eq_getElem (Bj hx)] at hx;simp only [Option.some.injEq] at hj hx
   exact h1 (hj.trans hx.symm)
  cases hj
 intro h;refine List.pairwise_iff_getElem.2 fun i j hi hj hij he=>?_;refine h j l[j] (List.getElem?_eq_getElem hj) (List.mem_iff_getElem?.2 ⟨i,?_⟩);rw [List.getElem?_take,if_pos hij,List.getElem?_eq_getElem hi,he]
theorem Ub {l:List EntD} {k:Nat}:Dn l k↔k∈Dm l:=by
 unfold Dn Dm;rw [List.mem_map]
theorem Wi (l:List EntD) (i:Nat):Dm (l.take i)=(Dm l).take i:=by unfold Dm;rw [List.map_take]
theorem Ho {c:RulesD} {l:List EntD}:Bv c l=0↔D2 c∧l.length≤1024∧(∀ x∈l,Uy c x)∧(Dm l).Nodup∧D9 l=0:=by
 constructor
 ·intro h;obtain ⟨h1,h2,h3,h4⟩:=E9 h;refine ⟨h1,h2,fun x hx=>?_,Tt.2 fun i k hk=>?_,h4⟩
  ·obtain ⟨i,hi⟩:=List.mem_iff_getElem?.1 hx;have:=Ni.1 (h3 i x hi);have h5:=Gj.1 this.1
   exact ⟨⟨h5.1,h5.2.2⟩,this.2⟩
  ·unfold Dm at hk;rw [List.getElem?_map] at hk
   cases hx:l[i]? with
   | none=>rw [hx] at hk;cases hk
   | some x =>
    rw [hx] at hk;simp only [Option.map_some,Option.some.injEq] at hk;have:=W4 h hx;rw [Ub,Wi,hk] at this
    exact this
 ·rintro ⟨h1,h2,h3,h4,h5⟩;have h6:Cc (Ht c l) l.length=0:=Eh.2 fun i hi=>by
   obtain ⟨x,hx⟩:=A2 hi;obtain ⟨⟨a,b⟩,d⟩:=h3 x (List.mem_of_getElem? hx);rw [O6 hx,Ni,Gj];refine ⟨⟨a,?_,b⟩,d⟩;rw [Ub,Wi]
   exact Tt.1 h4 i _ (by unfold Dm;rw [List.getElem?_map,hx];rfl)
  rw [Iu h1 (by omega) h6 (Nat.le_refl _),h5]
theorem Aau {c:RulesD} {x:ItemD} (hc:D2 c) (h:ItemOk (c.kinds.length:Int) x) (hr:Hv c x=0):Uy c (Cq c x):=by
 obtain ⟨k,hk⟩:=Jm h;have h1:=(hc.2 k (List.mem_of_getElem? hk)).1;have h2:(Cq c x).size=k.base:=Hd hk
 exact ⟨⟨h,hr⟩,by rw [h2];exact h1,Or.inr rfl⟩
theorem T0 (l:List EntD) (p n:Nat) (fr:List EntD):Dm (Dd l p n fr)=(Dm l).take p++Dm fr++(Dm l).drop (p+n):=by
 unfold Dd Dm;simp [List.map_take,List.map_drop]
theorem Ts {a b:List Nat} (h:a.Perm b) (hb:b.Nodup):a.Nodup:=h.symm.nodup hb
theorem Ado {c:RulesD} {l fr:List EntD} {p n:Nat} (h:∀ x∈l,Uy c x) (hf:∀ x∈fr,Uy c x):∀ x∈Dd l p n fr,Uy c x:=fun x hx=>by
 rcases R4 hx with hx | hx
 ·exact h x hx
 exact hf x hx
theorem T1 (c:RulesD) (xs:List ItemD):Dm (xs.map (Cq c))=xs.map ItemD.key:=by unfold Dm;rw [List.map_map];rfl
theorem Aja {xs:List ItemD} {k:Nat}:Lu xs k↔k∈xs.map ItemD.key:=by unfold Lu;rw [List.mem_map]
theorem Amh {c:RulesD} {l:List EntD} {xs:List ItemD} (hc:D2 c) (h:L7 c l xs=0):(∀ x∈xs.map (Cq c),Uy c x)∧(xs.map ItemD.key).Nodup∧∀ k∈xs.map ItemD.key,¬ k∈Dm l:=by
 have h1:∀ i x,xs[i]?=some x→Ft c x (Dn l x.key∨Lu (xs.take i) x.key)=0:=fun i x hx=>by
  have:=Eh.1 h i (Bj hx)
  rwa [Ol hx] at this
 refine ⟨fun y hy=>?_,Tt.2 fun i k hk=>?_,fun k hk=>?_⟩
 ·obtain ⟨x,hx,rfl⟩:=List.mem_map.1 hy;obtain ⟨i,hi⟩:=List.mem_iff_getElem?.1 hx;have:=Gj.1 (h1 i x hi)
  exact Aau hc this.1 this.2.2
 ·rw [List.getElem?_map] at hk
  cases hx:xs[i]? with
  | none=>rw [hx] at hk;cases hk
  | some x =>
   rw [hx] at hk;simp only [Option.map_some,Option.some.injEq] at hk;subst hk;intro hm;rw [← List.map_take,← Aja] at hm
   exact (Gj.1 (h1 i x hx)).2.1 (Or.inr hm)
 ·obtain ⟨x,hx,rfl⟩:=List.mem_map.1 hk;obtain ⟨i,hi⟩:=List.mem_iff_getElem?.1 hx;intro hm
  exact (Gj.1 (h1 i x hi)).2.1 (Or.inl (Ub.2 hm))
theorem Wm {c:RulesD} {l:List EntD} {a:Int} {xs:List ItemD} (h:Bv c l=0) (hr:(E2 c l a xs).2=0):Bv c (E2 c l a xs).1=0:=by
 obtain ⟨h1,h2,h3,h4,h5⟩:=Ho.1 h
 by_cases b1:Bd a 0 l.length
 ·by_cases b2:1024 < l.length+xs.length
  ·rw [Afx b1 b2] at hr;cases hr
  ·by_cases b3:L7 c l xs=0
   ·rcases R1 (Dd l a.toNat 0 (xs.map (Cq c))) with b4 | b4
    ·rw [Wo b1 b2 b3 b4];obtain ⟨g1,g2,g3⟩:=Amh h1 b3;unfold Bd at b1;refine Ho.2 ⟨h1,by rw [J4 (by omega),List.length_map];omega,Ado h3 g1,?_,b4⟩;rw [T0,T1,Nat.add_zero];refine Ts (b:=xs.map ItemD.key++Dm l) ?_ (List.nodup_append.2 ⟨g2,h4,fun x hx y hy e=>g3 x hx (e ▸ hy)⟩);have e:=List.take_append_drop a.toNat (Dm l)
     calc (Dm l).take a.toNat++xs.map ItemD.key++(Dm l).drop a.toNat
      _=(Dm l).take a.toNat++(xs.map ItemD.key++(Dm l).drop a.toNat):=List.append_assoc _ _ _
      _ |>.Perm ((xs.map ItemD.key++(Dm l).drop a.toNat)++(Dm l).take a.toNat):=List.perm_append_comm
      _ |>.Perm (xs.map ItemD.key++((Dm l).drop a.toNat++(Dm l).take a.toNat)):=by rw [List.append_assoc]
      _ |>.Perm (xs.map ItemD.key++((Dm l).take a.toNat++(Dm l).drop a.toNat)):=List.Perm.append_left _ List.perm_append_comm
      _ |>.Perm (xs.map ItemD.key++Dm l):=by rw [e]
    ·rw [Yf b1 b2 b3 (by omega)] at hr;cases hr
   ·rw [Afw b1 b2 b3] at hr;exact absurd hr b3
 ·rw [Wn b1] at hr;cases hr
theorem Ahs {c:RulesD} {l:List EntD} {a n:Int} (h:Bv c l=0) (hr:(Ic l a n).2=0):Bv c (Ic l a n).1=0:=by
 obtain ⟨h1,h2,h3,h4,h5⟩:=Ho.1 h
 by_cases b1:Bd a n l.length
 ·rw [Vw b1];unfold Bd at b1;refine Ho.2 ⟨h1,by rw [K7 (by omega)];omega,Ado h3 (by simp),?_,Zw h5⟩;rw [T0];refine List.Nodup.sublist ?_ h4;have e:=List.take_append_drop a.toNat (Dm l);rw [show Dm []=[] from rfl,List.append_nil]
  conv=>rhs;rw [← e]
  refine (sR _).append ?_;rw [← List.drop_drop]
  exact List.drop_sublist _ _
 rw [Aew b1] at hr;cases hr
theorem Alr (l:List EntD) (p n q:Nat):(Pg l p n q).Perm l:=by
 unfold Pg
 generalize hX:Dd l p n []=X
 have h1:(Dd X q 0 ((l.drop p).take n)).Perm ((l.drop p).take n++X):=by
  unfold Dd;rw [Nat.add_zero,List.append_assoc];refine List.perm_append_comm.trans ?_;rw [List.append_assoc];refine List.Perm.append_left _ (List.perm_append_comm.trans ?_);rw [List.take_append_drop]
 refine h1.trans ?_;subst hX;unfold Dd;rw [List.append_nil];refine List.perm_append_comm.trans ?_;rw [List.append_assoc]
 conv=>rhs;rw [← List.take_append_drop p l]
 refine List.Perm.append_left _ (List.perm_append_comm.trans ?_);rw [← List.drop_drop,List.take_append_drop]
theorem Aij {c:RulesD} {l:List EntD} {a n b:Int} (h:Bv c l=0) (hr:(Gr l a n b).2=0):Bv c (Gr l a n b).1=0:=by
 obtain ⟨h1,h2,h3,h4,h5⟩:=Ho.1 h
 by_cases b1:Bd a n l.length∧Bd b 0 (l.length - n)
 ·rw [Afj b1];have hp:=Alr l a.toNat n.toNat b.toNat
  exact Ho.2 ⟨h1,by rw [hp.length_eq];exact h2,fun x hx=>h3 x (hp.subset hx),Ts (hp.map _) h4,Zx h5⟩
 rw [Afi b1] at hr;cases hr
theorem Ait {c:RulesD} {l:List EntD} {p:Nat} {xs:List ItemD} (hp:p+xs.length≤l.length) (h:∀ i x,xs[i]?=some x→∃ y,l[p+i]?=some y∧y.item.key=x.key):Dm (Dd l p xs.length (xs.map (Cq c)))=Dm l:=by
 rw [T0,T1]
 apply List.ext_getElem?
 intro i;have e0:(Dm l).length=l.length:=by unfold Dm;simp
 have e1:((Dm l).take p).length=p:=by unfold Dm;simp;omega
 rcases Nat.lt_or_ge i p with h1 | h1
 ·rw [List.append_assoc,List.getElem?_append_left (by omega),List.getElem?_take,if_pos h1]
 rcases Nat.lt_or_ge i (p+xs.length) with h2 | h2
 ·rw [List.getElem?_append_left (by simp;omega),List.getElem?_append_right (by omega),e1];obtain ⟨x,hx⟩:=A2 (xs:=xs) (i:=i - p) (by omega);obtain ⟨y,hy,he⟩:=h (i - p) x hx;rw [show p+(i - p)=i by omega] at hy;unfold Dm;rw [List.getElem?_map,List.getElem?_map,hx,hy]
  simp [he]
 rw [List.getElem?_append_right (by simp;omega),List.getElem?_drop]
 congr 1
 simp;omega
theorem Ajj {c:RulesD} {l:List EntD} {a:Int} {xs:List ItemD} (h:Bv c l=0) (hr:(Hn c l a xs).2=0):Bv c (Hn c l a xs).1=0:=by
 obtain ⟨h1,h2,h3,h4,h5⟩:=Ho.1 h
 by_cases b1:Bd a xs.length l.length
 ·by_cases b2:Cc (Jh c l a.toNat xs) xs.length=0
  ·rcases R1 (Dd l a.toNat xs.length (xs.map (Cq c))) with b4 | b4
   ·rw [Agt b1 b2 b4];unfold Bd at b1;have hz:∀ i x,xs[i]?=some x→ItemOk (c.kinds.length:Int) x∧¬ Oe l (a.toNat+i) x.key∧Hv c x=0:=fun i x hx=>by
     have:=Eh.1 b2 i (Bj hx);rw [Ur hx] at this
     exact Ajm.1 this
    refine Ho.2 ⟨h1,by rw [J4 (by omega),List.length_map];omega,Ado h3 (fun y hy=>?_),?_,b4⟩
    ·obtain ⟨x,hx,rfl⟩:=List.mem_map.1 hy;obtain ⟨i,hi⟩:=List.mem_iff_getElem?.1 hx
     exact Aau h1 (hz i x hi).1 (hz i x hi).2.2
    rw [Ait (by omega) (fun i x hx=>?_)]
    ·exact h4
    obtain ⟨y,hy⟩:=A2 (xs:=l) (i:=a.toNat+i) (by have:=Bj hx;omega)
    exact ⟨y,hy,Classical.byContradiction fun hn=>(hz i x hx).2.1 ((I6 hy).2 hn)⟩
   rw [Ys b1 b2 (by omega)] at hr;cases hr
  unfold Hn at hr;rw [if_neg (not_not_intro b1),if_pos b2] at hr;exact absurd hr b2
 rw [Ags b1] at hr;cases hr
structure NotD where
 kind:Nat
 at_:Int
 count:Int
 to:Int
 items:List ItemD
def Gi:Rd NotD:=fun G cs x=>∃ (a:Option Addr) (c:Nat),cs=[.int .u8 ((x.kind:Nat):Int),.int .i64 x.at_,.int .i64 x.count,.int .i64 x.to,.slice a x.items.length c] ∧
 x.kind < 256∧Bb .i64 x.at_∧Bb .i64 x.count∧Bb .i64 x.to∧x.items.length≤9223372036854775807∧Au Cv 4 G (.slice a x.items.length c) x.items
theorem Bp:Jo Gi:=by
 rintro G G' cs x h ⟨a,c,h1,h2,h3,h4,h5,h6,h7⟩
 exact ⟨a,c,h1,h2,h3,h4,h5,h6,h7.mono Aw h⟩
def uAt (k:Nat):Prop:=k=1∨k=2∨k=3∨k=4
def uCo (k:Nat):Prop:=k=2∨k=3
def uTo (k:Nat):Prop:=k=3
def uIt (k:Nat):Prop:=k=1∨k=4∨k=5
instance (k:Nat):Decidable (uAt k):=by unfold uAt;infer_instance
instance (k:Nat):Decidable (uCo k):=by unfold uCo;infer_instance
instance (k:Nat):Decidable (uTo k):=by unfold uTo;infer_instance
instance (k:Nat):Decidable (uIt k):=by unfold uIt;infer_instance
def Fu (n:NotD):Prop:=(uAt n.kind∨n.at_=0)∧(uCo n.kind∨n.count=0)∧(uTo n.kind∨n.to=0)∧(uIt n.kind∨n.items.length=0)
instance (n:NotD):Decidable (Fu n):=by unfold Fu;infer_instance
def E4 (n:NotD):Int:=if n.kind < 1∨5 < n.kind then 1 else if Fu n then 0 else 5
theorem X8 {n:NotD} (h:n.kind < 1∨5 < n.kind):E4 n=1:=by unfold E4;rw [if_pos h]
theorem Alj {n:NotD} (h:¬ (n.kind < 1∨5 < n.kind)) (h2:¬ Fu n):E4 n=5:=by unfold E4;rw [if_neg h,if_neg h2]
theorem Alk {n:NotD} (h:¬ (n.kind < 1∨5 < n.kind)) (h2:Fu n):E4 n=0:=by unfold E4;rw [if_neg h,if_pos h2]
theorem Jv {n:NotD}:E4 n=0↔(1≤n.kind∧n.kind≤5)∧Fu n:=by
 unfold E4
 split
 ·rename_i h;exact ⟨fun h2=>(by cases h2),fun h2=>by omega⟩
 rename_i h
 split
 ·rename_i h2;exact ⟨fun _=>⟨by omega,h2⟩,fun _=>rfl⟩
 rename_i h2;exact ⟨fun h3=>(by cases h3),fun h3=>absurd h3.2 h2⟩
theorem note_nn (n:NotD):0≤E4 n:=by unfold E4;split;decide;split <;> decide
noncomputable def F6 (c:RulesD) (l:List EntD) (n:NotD):List EntD × Int :=
 if E4 n≠0 then ([],E4 n) else if n.kind=1 then E2 c l n.at_ n.items else if n.kind=2 then Ic l n.at_ n.count else if n.kind=3 then Gr l n.at_ n.count n.to
 else if n.kind=4 then Hn c l n.at_ n.items else E2 c [] 0 n.items
section
variable {c:RulesD} {l:List EntD} {n:NotD}
theorem Agv (h:E4 n≠0):F6 c l n=([],E4 n):=by unfold F6;rw [if_pos h]
theorem Abn (h:E4 n=0) (hk:n.kind=1):F6 c l n=E2 c l n.at_ n.items:=by unfold F6;rw [if_neg (not_not_intro h),if_pos hk]
theorem W7 (h:E4 n=0) (hk:n.kind=2):F6 c l n=Ic l n.at_ n.count:=by unfold F6;rw [if_neg (not_not_intro h),if_neg (by omega),if_pos hk]
theorem Abm (h:E4 n=0) (hk:n.kind=3):F6 c l n=Gr l n.at_ n.count n.to:=by unfold F6;rw [if_neg (not_not_intro h),if_neg (by omega),if_neg (by omega),if_pos hk]
theorem Agx (h:E4 n=0) (hk:n.kind=4):F6 c l n=Hn c l n.at_ n.items:=by unfold F6;rw [if_neg (not_not_intro h),if_neg (by omega),if_neg (by omega),if_neg (by omega),if_pos hk]
theorem Agw (h:E4 n=0) (hk:n.kind=5):F6 c l n=E2 c [] 0 n.items:=by unfold F6;rw [if_neg (not_not_intro h),if_neg (by omega),if_neg (by omega),if_neg (by omega),if_neg (by omega)]
theorem Ajv (h:Bv c l=0) (hr:(F6 c l n).2=0):Bv c (F6 c l n).1=0:=by
 by_cases h0:E4 n=0
 ·have hk:=(Jv.1 h0).1
  rcases (show n.kind=1∨n.kind=2∨n.kind=3∨n.kind=4∨n.kind=5 by omega) with e | e | e | e | e
  ·rw [Abn h0 e] at hr ⊢;exact Wm h hr
  ·rw [W7 h0 e] at hr ⊢;exact Ahs h hr
  ·rw [Abm h0 e] at hr ⊢;exact Aij h hr
  ·rw [Agx h0 e] at hr ⊢;exact Ajj h hr
  have hc:=(E9 h).1;rw [Agw h0 e] at hr ⊢
  exact Wm (by rw [Iu hc (by decide) (i:=0) rfl (Nat.le_refl _)];rfl) hr
 rw [Agv h0] at hr;exact absurd hr h0
end
noncomputable def Dp (c:RulesD) (l:List EntD) (ns:List NotD):Nat→List EntD × Int
 | 0=>(l,0)
 | i+1=>if (Dp c l ns i).2=0 then (match ns[i]? with
  | some n=>F6 c (Dp c l ns i).1 n
  | none=>Dp c l ns i) else Dp c l ns i
theorem Ia {c:RulesD} {l:List EntD} {ns:List NotD} {i:Nat} {n:NotD} (h:(Dp c l ns i).2=0) (hn:ns[i]?=some n):Dp c l ns (i+1)=F6 c (Dp c l ns i).1 n:=by
 simp only [Dp,h,if_true,hn]
theorem Sv {c:RulesD} {l:List EntD} {ns:List NotD} {i:Nat} (h:(Dp c l ns i).2≠0):∀ j,i≤j→Dp c l ns j=Dp c l ns i:=by
  intro j hj
  induction j with
  | zero => have : i = 0 := by omega
            subst this;rfl
  | succ j ih =>
    rcases Nat.eq_or_lt_of_le hj with e | e
    · rw [e]
    · have:=ih (by omega)
      simp only [Dp,this,h,if_false]
theorem Vp {c:RulesD} {l:List EntD} {ns:List NotD} (h:Bv c l=0):∀ {i:Nat},(Dp c l ns i).2=0→Bv c (Dp c l ns i).1=0
 | 0,_=>h
 | i+1,hr=>by
  by_cases h0:(Dp c l ns i).2=0
  ·have ih:=Vp h h0
   cases hn:ns[i]? with
   | none=>simp only [Dp,h0,if_true,hn];exact ih
   | some n=>rw [Ia h0 hn] at hr ⊢;exact Ajv ih hr
  ·rw [Sv h0 _ (Nat.le_succ i)] at hr;exact absurd hr h0
noncomputable def Acs (c:RulesD) (l:List EntD) (ns:List NotD):Nat→Nat
 | 0=>0
 | i+1=>if (Dp c l ns (i+1)).2=0 then i+1 else Acs c l ns i
theorem runN_ok {c:RulesD} {l:List EntD} {ns:List NotD}:∀ {i:Nat},(Dp c l ns i).2=0→Acs c l ns i=i
 | 0,_=>rfl
 | i+1,h=>by simp only [Acs,h,if_true]
theorem Akn {c:RulesD} {l:List EntD} {ns:List NotD} {i:Nat} (h0:(Dp c l ns i).2=0) (h:(Dp c l ns (i+1)).2≠0):∀ j,i < j→Acs c l ns j=i:=by
 intro j hj
 induction j with
 | zero=>omega
 | succ j ih =>
  have hs:=Sv h (j+1) (by omega)
  rcases Nat.eq_or_lt_of_le (show i≤j by omega) with e | e
  ·subst e;simp only [Acs,h,if_false];exact runN_ok h0
  ·simp only [Acs,hs,h,if_false];exact ih e
noncomputable def Yw (c:RulesD) (l:List EntD) (ns:List NotD):List EntD × Nat × Int :=
 if 32 < ns.length then ([],0,3) else if (Dp c l ns ns.length).2=0 then ((Dp c l ns ns.length).1,ns.length,0) else ([],Acs c l ns ns.length,(Dp c l ns ns.length).2)
section
variable {c:RulesD} {l:List EntD} {ns:List NotD}
theorem all_3 (h:32 < ns.length):Yw c l ns=([],0,3):=by unfold Yw;rw [if_pos h]
theorem Apr {i:Nat} (h:¬ 32 < ns.length) (h2:(Dp c l ns i).2=0) (hi:i=ns.length):Yw c l ns=((Dp c l ns i).1,ns.length,0):=by subst hi;unfold Yw;rw [if_neg h,if_pos h2]
theorem all_e {i:Nat} {n:NotD} {e:Int} (h:¬ 32 < ns.length) (h2:(Dp c l ns i).2=0) (hn:ns[i]?=some n) (he:(F6 c (Dp c l ns i).1 n).2=e) (h0:e≠0):Yw c l ns=([],i,e):=by
 have h3:=Ia h2 hn;have h4:(Dp c l ns (i+1)).2≠0:=by rw [h3,he];exact h0
 have h5:=Sv h4 ns.length (by have:=Bj hn;omega);unfold Yw;rw [if_neg h,if_neg (by rw [h5];exact h4),h5,h3,he,Akn h2 h4 ns.length (Bj hn)]
end
open Go Go.Y Go.RowKit
section
variable {P:Program} {ops:Array Oper} {Q:Exit→Act→World→Prop} {n:Nat} {a:Act} {e:Env} {w0 w:World} {G:A4} {L:List Res} {r:List Oper} {d:Nat} {t:TypeId} {p:String} {af:Array Edge}
variable {ρ:Operand→Value} {dd:Option Tmp} {g:Option (Nat × Bool)}
theorem Gs {ta et:TypeId} {i:TI} {x y:Operand} {m:Nat} {cs:Array Value} {us:List Value} {k:IntKind} {z:Int} {j:Nat} (ha:tk P ta=.array m et) (ht:TOK P et i) (hag:i.k.agg=some true)
  (hx:ρ x=.agg cs) (hy:ρ y=.int k z) (hz:z=(j:Int)) (hj:j < m) (hv:cs.extract (j * i.size) (j * i.size+i.size)=us.toArray) :
  (execOp ρ ⟨dd,.index ta x y,t,p,af,g⟩).run P w=.ok (.value (.agg us.toArray)) w:=by
 subst hz;have c1:(0:Int)≤(j:Int):=by omega
 have c2:(j:Int) < (m:Int):=by omega
 have h1:(isAgg et).run P w=.ok true w:=Q5 (by rw [ht.k];exact hag)
 simp [execOp,Instr.index,hx,hy,asIntOf,Cu (Gb ha),hj,ht.sizeOf,part,h1,hv]
theorem Acq {s ft:TypeId} {x:Operand} {f off sz:Nat} {fs:List (Nat × Nat × Nat)} {i:TI} {cs:Array Value} {v:Value} (hs:tk P s=.struct fs) (hf:fs[f]?=some (off,sz,ft)) (ht:TOK P ft i) (hag:i.k.agg=some false)
  (hx:ρ x=.agg cs) (hv:cs[off]?=some v):(execOp ρ ⟨dd,.field s x f,t,p,af,g⟩).run P w=.ok (.value v) w:=by
 obtain ⟨ff,hu,hff⟩:=Hi hs;subst hff;simp only [List.getElem?_map,Option.map_eq_some_iff] at hf;obtain ⟨fd,hfd,he⟩:=hf;simp only [Prod.mk.injEq] at he;obtain ⟨rfl,h1,rfl⟩:=he;have hfd':ff[f]?=some fd:=by simpa using hfd
 simp [execOp,Instr.field,hx,Cu hu,hfd',asAgg,Vq (w:=w) (by rw [ht.k];exact hag) hv]
theorem Ahp {f:FuncId} {cal:Operand} {args:List Operand} {ats:Array TypeId} {vs:List Value} {Φ:A4→List Res→Value→Prop}
  (F:Fits n a e) (hE:Ent P f) (hc:ev e cal=some (.func (.func f) #[] #[])) (hv:evs e args=some vs) (hd:Nat.ble (d+1) n=true)
  (hs:Calls P f vs.toArray w (Iz w0 G Φ))
  (k:∀ v G' L' w' a',Gle G G'→Mem w0 G' L' w'→Φ G' L' v→Fits n a' ((d,v)::e)→rl P ops Q r a' w') :
  rl P ops Q (⟨some d,.call ⟨.value cal,args.toArray,ats⟩,t,p,af,none⟩::r) a w:=by
 refine I5 (caps:=[]) F hE hc hv hd (by rw [List.append_nil];exact hs) fun x w' hx=>?_
 cases x with
 | returned v=>obtain ⟨G',L',h1,h2,h3⟩:=hx;exact ⟨v,rfl,fun a' F'=>k v G' L' w' a' h1 h2 h3 F'⟩
 | panicked c=>exact hx.elim
 | outgrown=>exact hx.elim
end
def C1:Nat→List UInt8
 | 1=>[105,110,115,101,114,116]
 | 2=>[114,101,109,111,118,101]
 | 3=>[109,111,118,101]
 | 4=>[99,104,97,110,103,101]
 | 5=>[114,101,115,101,116]
 | _=>[]
def Ff:Nat→Nat
 | 1=>122
 | 2=>124
 | 3=>125
 | 4=>127
 | _=>129
def Il:List Value:=[
 .string (str []),.bool false,.bool false,.bool false,.bool false,.nilFunc,
 .string (str [105,110,115,101,114,116]),.bool true,.bool false,.bool false,.bool true,.func (.func 122) #[] #[],
 .string (str [114,101,109,111,118,101]),.bool true,.bool true,.bool false,.bool false,.func (.func 124) #[] #[],
 .string (str [109,111,118,101]),.bool true,.bool true,.bool true,.bool false,.func (.func 125) #[] #[],
 .string (str [99,104,97,110,103,101]),.bool true,.bool false,.bool false,.bool true,.func (.func 127) #[] #[],
 .string (str [114,101,115,101,116]),.bool false,.bool false,.bool false,.bool true,.func (.func 129) #[] #[]]
theorem I7 {k:Nat} (h:1≤k∧k≤5):Il.toArray.extract (k * 6) (k * 6+6) =
  [.string (str (C1 k)),.bool (decide (uAt k)),.bool (decide (uCo k)),.bool (decide (uTo k)),.bool (decide (uIt k)),.func (.func (Ff k)) #[] #[]].toArray:=by
 rcases (show k=1∨k=2∨k=3∨k=4∨k=5 by omega) with rfl | rfl | rfl | rfl | rfl <;> rfl
def uG (k i:Nat):Int:=match i with
 | 0=>if uAt k then 1 else 0
 | 1=>if uCo k then 1 else 0
 | 2=>if uTo k then 1 else 0
 | _=>if uIt k then 1 else 0
def nG (x:NotD) (i:Nat):Int:=match i with
 | 0=>x.at_
 | 1=>x.count
 | 2=>x.to
 | _=>((x.items.length:Nat):Int)
theorem u_cell {k i:Nat} (h:i < 4):([.int .i64 (uG k 0),.int .i64 (uG k 1),.int .i64 (uG k 2),.int .i64 (uG k 3)]:List Value)[0+i]?=some (.int .i64 (uG k i)):=by
 rcases (show i=0∨i=1∨i=2∨i=3 by omega) with rfl | rfl | rfl | rfl <;> rfl
theorem n_cell {x:NotD} {i:Nat} (h:i < 4):([nG x 0,nG x 1,nG x 2,nG x 3]:List Int)[i]?=some (nG x i):=by
 rcases (show i=0∨i=1∨i=2∨i=3 by omega) with rfl | rfl | rfl | rfl <;> rfl
def rdZ:Rd Int:=fun _ cs x=>cs=[.int .i64 x]
theorem els_z {G:A4}:∀ {zs:List Int},Els rdZ 1 G (zs.map fun z=>.int .i64 z) zs
 | []=>rfl
 | z::zs=>⟨[.int .i64 z],zs.map fun z=>.int .i64 z,rfl,rfl,rfl,els_z⟩
theorem ite_z {p:Prop} [Decidable p]:(if p then (1:Int) else 0)=0↔¬ p:=by split <;> simp_all
theorem form_of {x:NotD} (h:∀ j,j < 4→uG x.kind j=0→nG x j=0):Fu x:=by
 have h0:=h 0 (by omega);have h1:=h 1 (by omega);have h2:=h 2 (by omega);have h3:=h 3 (by omega);simp only [uG,nG,ite_z] at h0 h1 h2 h3;refine ⟨Classical.or_iff_not_imp_left.2 h0,Classical.or_iff_not_imp_left.2 h1,Classical.or_iff_not_imp_left.2 h2,Classical.or_iff_not_imp_left.2 fun h4=>by have:=h3 h4;omega⟩
theorem Alm {x:NotD} {j:Nat} (hj:j < 4) (h1:uG x.kind j=0) (h2:nG x j≠0):¬ Fu x:=by
 rintro ⟨f0,f1,f2,f3⟩
 rcases (show j=0∨j=1∨j=2∨j=3 by omega) with rfl | rfl | rfl | rfl <;> simp only [uG,nG,ite_z] at h1 h2
 ·exact h2 (f0.resolve_left h1)
 ·exact h2 (f1.resolve_left h1)
 ·exact h2 (f2.resolve_left h1)
 exact h2 (by have:=f3.resolve_left h1;omega)
noncomputable def Iy (c:RulesD) (l:List EntD) (n:NotD):List EntD × Int:=if Bv c l≠0 then ([],Bv c l) else F6 c l n
theorem Agy {c:RulesD} {l:List EntD} {n:NotD} (h:Bv c l≠0):Iy c l n=([],Bv c l):=by unfold Iy;rw [if_pos h]
theorem Sf {c:RulesD} {l:List EntD} {n:NotD} (h:Bv c l=0):Iy c l n=F6 c l n:=by unfold Iy;rw [if_neg (not_not_intro h)]
theorem Akm {c:RulesD} {l:List EntD} {ns:List NotD}:Dp c l ns 0=(l,0):=rfl
theorem rem_00 {l:List EntD}:Ic l 0 0=(l,0):=by
 rw [Vw (by unfold Bd;omega)];unfold Dd
 simp
theorem Apq {c:RulesD} {l:List EntD} {ns:List NotD} {i:Nat} (h:¬ 32 < ns.length) (h2:(Dp c l ns i).2=0) (hn:i < ns.length) (he:(Dp c l ns (i+1)).2≠0):Yw c l ns=([],i,(Dp c l ns (i+1)).2):=by
 obtain ⟨x,hx⟩:=A2 hn;rw [Ia h2 hx] at he ⊢
 exact all_e h h2 hx rfl he
noncomputable def Jf (c:RulesD) (l:List EntD) (ns:List NotD):List EntD × Nat × Int:=if Bv c l≠0 then ([],0,Bv c l) else Yw c l ns
theorem Agz {c:RulesD} {l:List EntD} {ns:List NotD} (h:Bv c l≠0):Jf c l ns=([],0,Bv c l):=by unfold Jf;rw [if_pos h]
theorem Nm {c:RulesD} {l:List EntD} {ns:List NotD} (h:Bv c l=0):Jf c l ns=Yw c l ns:=by unfold Jf;rw [if_neg (not_not_intro h)]
theorem Sb {P:Program} {fn:Func} {n:Nat} {a:Act} {e:Env} {w0 w:World} {G:A4} {L:List Res} (F:Fits n a e) {t u u2 ty k b:Nat} {i:TI} {cs:List Value} {x y:Value} {R:Ending→World→Prop} (M:Mem w0 G L w) (hk:L[k]?=some (.blk b cs ty)) (hf:fn.results = #[.cell t ty,.tmp u,.tmp u2])
  (hty:TOK P ty i) (hag:i.k.agg=some true) (hl:cs.length=i.size) (hv:Y.look e t=some (.pointer (some ⟨b,0,none⟩))) (hx:Y.look e u=some x) (hy:Y.look e u2=some y) (h:R (.returned (.tuple #[.agg cs.toArray,x,y])) w):bodyPost P fn R .ret a w:=by
 refine Ly F (v:=.tuple #[.agg cs.toArray,x,y]) ?_ h;have h1:(loadVar ty ⟨b,0,none⟩).run P w=.ok (.agg cs.toArray) w:=Hj hty hag hl (M.cellsL hk (by rw [List.drop_zero,← hl,List.take_length]))
 simp [results,hf,F.slot _ _ hv,F.slot _ _ hx,F.slot _ _ hy,asAddr,h1]
def ti47:TI:=⟨.slice 65,1,24,.slice none 0 0⟩
theorem H2:TOK Tryz.prog 47 ti47:=⟨by kernel_rfl,by kernel_rfl,by kernel_rfl⟩
def ti65:TI:=⟨.struct [(0,1,5),(1,1,3),(2,1,3),(3,1,3),(4,1,22)],5,56,.agg #[.int .u8 0,.int .i64 0,.int .i64 0,.int .i64 0,.slice none 0 0]⟩
theorem Bm:TOK Tryz.prog 65 ti65:=⟨by kernel_rfl,by kernel_rfl,by kernel_rfl⟩
def ti67:TI:=⟨.func,1,8,.nilFunc⟩
theorem tok67:TOK Tryz.prog 67 ti67:=⟨by kernel_rfl,by kernel_rfl,by kernel_rfl⟩
def ti127:TI:=⟨.array 3 3,3,24,.agg #[.int .i64 0,.int .i64 0,.int .i64 0]⟩
theorem Abz:TOK Tryz.prog 127 ti127:=⟨by kernel_rfl,by kernel_rfl,by kernel_rfl⟩
def ti138:TI:=⟨.struct [(0,1,9),(1,1,4),(2,1,4),(3,1,4),(4,1,4),(5,1,67)],6,32,.agg #[.string ⟨#[]⟩,.bool false,.bool false,.bool false,.bool false,.nilFunc]⟩
theorem Cl:TOK Tryz.prog 138 ti138:=⟨by kernel_rfl,by kernel_rfl,by kernel_rfl⟩
def ti139:TI:=⟨.array 6 138,36,192,.agg #[.string ⟨#[]⟩,.bool false,.bool false,.bool false,.bool false,.nilFunc,.string ⟨#[]⟩,.bool false,.bool false,.bool false,.bool false,.nilFunc,.string ⟨#[]⟩,.bool false,.bool false,.bool false,.bool false,.nilFunc,.string ⟨#[]⟩,.bool false,.bool false,.bool false,.bool false,.nilFunc,.string ⟨#[]⟩,.bool false,.bool false,.bool false,.bool false,.nilFunc,.string ⟨#[]⟩,.bool false,.bool false,.bool false,.bool false,.nilFunc]⟩
theorem Hf:TOK Tryz.prog 139 ti139:=⟨by kernel_rfl,by kernel_rfl,by kernel_rfl⟩
def ti147:TI:=⟨.slice 150,1,24,.slice none 0 0⟩
theorem N3:TOK Tryz.prog 147 ti147:=⟨by kernel_rfl,by kernel_rfl,by kernel_rfl⟩
def ti150:TI:=⟨.ptr 3,1,8,.pointer none⟩
theorem N2:TOK Tryz.prog 150 ti150:=⟨by kernel_rfl,by kernel_rfl,by kernel_rfl⟩
def ti155:TI:=⟨.struct [(0,1,9),(1,1,3)],2,24,.agg #[.string ⟨#[]⟩,.int .i64 0]⟩
theorem Ku:TOK Tryz.prog 155 ti155:=⟨by kernel_rfl,by kernel_rfl,by kernel_rfl⟩
def ti167:TI:=⟨.array 4 3,4,32,.agg #[.int .i64 0,.int .i64 0,.int .i64 0,.int .i64 0]⟩
theorem E7:TOK Tryz.prog 167 ti167:=⟨by kernel_rfl,by kernel_rfl,by kernel_rfl⟩
def ti169:TI:=⟨.slice 3,1,24,.slice none 0 0⟩
theorem Akh:TOK Tryz.prog 169 ti169:=⟨by kernel_rfl,by kernel_rfl,by kernel_rfl⟩
def ti215:TI:=⟨.struct [(0,1,4),(1,1,150)],2,16,.agg #[.bool false,.pointer none]⟩
theorem Hz:TOK Tryz.prog 215 ti215:=⟨by kernel_rfl,by kernel_rfl,by kernel_rfl⟩
def ti216:TI:=⟨.slice 215,1,24,.slice none 0 0⟩
theorem Aby:TOK Tryz.prog 216 ti216:=⟨by kernel_rfl,by kernel_rfl,by kernel_rfl⟩
def ti219:TI:=⟨.slice 138,1,24,.slice none 0 0⟩
theorem Akg:TOK Tryz.prog 219 ti219:=⟨by kernel_rfl,by kernel_rfl,by kernel_rfl⟩
theorem Ug:Ent Tryz.prog 22:=.mk' Tryz.func22 (by kernel_rfl) (by kernel_rfl)
theorem Amw:Ent Tryz.prog 25:=.mk' Tryz.func25 (by kernel_rfl) (by kernel_rfl)
theorem ent27:Ent Tryz.prog 27:=.mk' Tryz.func27 (by kernel_rfl) (by kernel_rfl)
theorem ent28:Ent Tryz.prog 28:=.mk' Tryz.func28 (by kernel_rfl) (by kernel_rfl)
theorem ent32:Ent Tryz.prog 32:=.mk' Tryz.func32 (by kernel_rfl) (by kernel_rfl)
theorem ent33:Ent Tryz.prog 33:=.mk' Tryz.func33 (by kernel_rfl) (by kernel_rfl)
theorem ent36:Ent Tryz.prog 36:=.mk' Tryz.func36 (by kernel_rfl) (by kernel_rfl)
theorem Aax:Ent Tryz.prog 37:=.mk' Tryz.func37 (by kernel_rfl) (by kernel_rfl)
theorem ent38:Ent Tryz.prog 38:=.mk' Tryz.func38 (by kernel_rfl) (by kernel_rfl)
theorem ent69:Ent Tryz.prog 69:=.mk' Tryz.func69 (by kernel_rfl) (by kernel_rfl)
theorem ent72:Ent Tryz.prog 72:=.mk' Tryz.func72 (by kernel_rfl) (by kernel_rfl)
theorem ent73:Ent Tryz.prog 73:=.mk' Tryz.func73 (by kernel_rfl) (by kernel_rfl)
theorem ent74:Ent Tryz.prog 74:=.mk' Tryz.func74 (by kernel_rfl) (by kernel_rfl)
theorem Pq:Ent Tryz.prog 75:=.mk' Tryz.func75 (by kernel_rfl) (by kernel_rfl)
theorem ent82:Ent Tryz.prog 82:=.mk' Tryz.func82 (by kernel_rfl) (by kernel_rfl)
theorem ent84:Ent Tryz.prog 84:=.mk' Tryz.func84 (by kernel_rfl) (by kernel_rfl)
theorem ent85:Ent Tryz.prog 85:=.mk' Tryz.func85 (by kernel_rfl) (by kernel_rfl)
theorem ent86:Ent Tryz.prog 86:=.mk' Tryz.func86 (by kernel_rfl) (by kernel_rfl)
theorem ent87:Ent Tryz.prog 87:=.mk' Tryz.func87 (by kernel_rfl) (by kernel_rfl)
theorem ent88:Ent Tryz.prog 88:=.mk' Tryz.func88 (by kernel_rfl) (by kernel_rfl)
theorem ent92:Ent Tryz.prog 92:=.mk' Tryz.func92 (by kernel_rfl) (by kernel_rfl)
theorem ent93:Ent Tryz.prog 93:=.mk' Tryz.func93 (by kernel_rfl) (by kernel_rfl)
theorem ent122:Ent Tryz.prog 122:=.mk' Tryz.func122 (by kernel_rfl) (by kernel_rfl)
theorem ent123:Ent Tryz.prog 123:=.mk' Tryz.func123 (by kernel_rfl) (by kernel_rfl)
theorem ent124:Ent Tryz.prog 124:=.mk' Tryz.func124 (by kernel_rfl) (by kernel_rfl)
theorem ent125:Ent Tryz.prog 125:=.mk' Tryz.func125 (by kernel_rfl) (by kernel_rfl)
theorem ent126:Ent Tryz.prog 126:=.mk' Tryz.func126 (by kernel_rfl) (by kernel_rfl)
theorem ent127:Ent Tryz.prog 127:=.mk' Tryz.func127 (by kernel_rfl) (by kernel_rfl)
theorem ent128:Ent Tryz.prog 128:=.mk' Tryz.func128 (by kernel_rfl) (by kernel_rfl)
theorem ent129:Ent Tryz.prog 129:=.mk' Tryz.func129 (by kernel_rfl) (by kernel_rfl)
theorem ent134:Ent Tryz.prog 134:=.mk' Tryz.func134 (by kernel_rfl) (by kernel_rfl)
theorem ent135:Ent Tryz.prog 135:=.mk' Tryz.func135 (by kernel_rfl) (by kernel_rfl)
theorem ent136:Ent Tryz.prog 136:=.mk' Tryz.func136 (by kernel_rfl) (by kernel_rfl)
end Go.Proofs.YtmmhmcplegpenaaGreatDoor
