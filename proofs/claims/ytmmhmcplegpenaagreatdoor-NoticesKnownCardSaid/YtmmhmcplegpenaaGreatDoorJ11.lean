/- Own lemmas and walks. -/
import Derived.Test.YtmmhmcplegpenaaGreatDoorJ10
import Derived.Test.YtmmhmcplegpenaaGreatDoorJ8
set_option linter.unusedSimpArgs false
set_option linter.unusedVariables false
set_option maxRecDepth 10000
set_option maxHeartbeats 1600000
open Go.Value renaming slice→vS,string→vT,int→vI,bool→vB,pointer→vP
open Go.IntKind renaming i64→kI,u64→kU
open Go.Lib renaming cut→xC
open Go.Proofs.Tryz renaming prog→pG
open Go.Y.Res renaming blk→rB,row→rR
open Go.Y (pP qT iI iB iU sN)
open List renaming length_append→lA,length_cons→lC,length_nil→lN,length_take→lT,length_drop→lD,mem_of_getElem?→mG,mem_cons→mC,length_map→lM
namespace Go.Proofs.YtmmhmcplegpenaaGreatDoor
open Go Go.Y Go.Proofs
open Classical in
noncomputable def Vu (l:List EntD) (xs:List ItemD) (i:Nat):Int:=match xs[i]? with
 | some x=>if Dj l x.key∨Kx (xs.take i) x.key then 8 else 0
 | none=>0
theorem Abz {l:List EntD} {xs:List ItemD} {i:Nat} {x:ItemD} (h:xs[i]?=some x) [Decidable (Dj l x.key∨Kx (xs.take i) x.key)]:Vu l xs i=if Dj l x.key∨Kx (xs.take i) x.key then 8 else 0:=by
 unfold Vu;rw [h]
 by_cases hp:Dj l x.key∨Kx (xs.take i) x.key
 ·simp only [hp,if_true]
 simp only [hp,if_false]
theorem in_inc {c:RulesD} {l:List EntD} {xs:List ItemD} (D:Dd c) (i:Nat):Lz c xs (Vu l xs) i=Qc c l xs i:=by
 classical
 cases hx:xs[i]? with
 | none=>unfold Lz Qc;rw [hx]
 | some x =>
  rw [Xr hx,Q0 hx,Abz hx]
  by_cases h1:ItemOk (c.kZ.length:Int) x
  ·by_cases h2:Dj l x.key∨Kx (xs.take i) x.key
   ·rw [if_pos h2,Vc h1 h2,Azp h1 tD]
   ·rw [if_neg h2,Aoy h1 rfl]
    rcases Akd D h1 with A | A
    ·rw [Lj h1 h2 A,A]
    ·rw [Kt h1 h2 tM,A]
  ·rw [Aoz h1,R8 h1]
theorem U4 (l:List EntD):Dp l=0∨Dp l=13:=by unfold Dp;split <;> simp
theorem Azl {c:RulesD} {l:List EntD} {z:Int} {xs:List ItemD} (h:Bh c l=0) :
  doR (Bh c l) (decide (Ay z 0 l.length)) (((l.length+xs.length:Nat)):Int) (Lz c xs (Vu l xs)) xs.length (C1 l z.toNat 0 (xs.map (B8 c)))=Gy c l z xs:=by
 have E:Bv (Lz c xs (Vu l xs)) xs.length=Nv c l xs:=Ng fun i _=>in_inc (Dz h).1 i
 by_cases h1:Ay z 0 l.length
 ·have A:decide (Ay z 0 l.length)=true:=decide_eq_true h1
  by_cases h2:1024 < l.length+xs.length
  ·rw [Aow h1 h2,do_3 h A tM]
  by_cases h3:Nv c l xs=0
  ·rcases U4 (C1 l z.toNat 0 (xs.map (B8 c))) with D | D
   ·rw [Aao h1 h2 h3 D,P1 h A tM (by rw [E,h3]) D]
   rw [Adt h1 h2 h3 tM,Auu h A tM (by rw [E,h3]) tM,D]
  rw [Aov h1 h2 h3];unfold doR;rw [if_neg (not_not_intro h),if_neg (by rw [A];decide),if_neg tM,if_pos (by rw [E];exact h3),E]
 rw [Aan h1,A1q h (decide_eq_false h1)]
theorem Vp (l:List EntD) (p n:Nat) (fr:List EntD):Hj (C1 l p n fr)=Hj (l.take p)+Hj fr+Hj (l.drop (p+n)):=by unfold C1;rw [Il,Il]
theorem Aez (l:List EntD) (p n:Nat):Hj l=Hj (l.take p)+Hj ((l.drop p).take n)+Hj (l.drop (p+n)):=by
 have D:=Il (l.take p) (l.drop p);have A:=Il ((l.drop p).take n) ((l.drop p).drop n);rw [List.take_append_drop] at D A;rw [List.drop_drop] at A
 omega
theorem Agd {l:List EntD} {p n:Nat} (h:Dp l=0):Dp (C1 l p n [])=0:=by
 rw [Tc] at h ⊢;have A:=Vp l p n [];have D:=Aez l p n;have E:=O8 ((l.drop p).take n);have H:Hj []=0:=rfl
 omega
theorem Age {l:List EntD} {p n q:Nat} (h:Dp l=0):Dp (R0 l p n q)=0:=by
 rw [Tc] at h ⊢;unfold R0;have E:=Vp l p n [];have H:=Aez l p n;have A:=Vp (C1 l p n []) q 0 ((l.drop p).take n);have D:=Il ((C1 l p n []).take q) ((C1 l p n []).drop q);rw [List.take_append_drop] at D;have I:Hj []=0:=rfl;rw [Nat.add_zero] at A
 omega
theorem rem_do {c:RulesD} {l:List EntD} {z n:Int} {fK:Nat→Int} (h:Bh c l=0):doR (Bh c l) (decide (Ay z n l.length)) 0 (Lz c [] fK) 0 (C1 l z.toNat n.toNat [])=M9 l z n:=by
 by_cases h1:Ay z n l.length
 ·rw [Zw h1,P1 h (decide_eq_true h1) tD rfl (Agd (Dz h).2.2.2)]
 rw [Amq h1,A1q h (decide_eq_false h1)]
theorem mov_do {c:RulesD} {l:List EntD} {z n b:Int} {fK:Nat→Int} {A:Bool} (h:Bh c l=0) (D:A=true↔Ay z n l.length∧Ay b 0 (l.length - n)):doR (Bh c l) A 0 (Lz c [] fK) 0 (R0 l z.toNat n.toNat b.toNat)=Iv l z n b:=by
 by_cases h1:Ay z n l.length∧Ay b 0 (l.length - n)
 ·rw [Agu h1,P1 h (D.2 h1) tD rfl (Age (Dz h).2.2.2)]
 rw [Aoi h1,A1q h (by cases A with | true=>exact absurd (D.1 rfl) h1 | false=>rfl)]
def Ws (l:List EntD) (p:Nat) (xs:List ItemD) (i:Nat):Int:=match xs[i]?,l[p+i]? with
 | some x,some y=>if y.item.key=x.key then 0 else 9
 | _,_=>0
theorem Z3 {l:List EntD} {p:Nat} {xs:List ItemD} {i:Nat} {x:ItemD} {y:EntD} (A:xs[i]?=some x) (D:l[p+i]?=some y):Ws l p xs i=if y.item.key=x.key then 0 else 9:=by unfold Ws;rw [A,D]
theorem in_chg {c:RulesD} {l:List EntD} {p:Nat} {xs:List ItemD} (H:Dd c) (N:p+xs.length≤l.length) (i:Nat):Lz c xs (Ws l p xs) i=Js c l p xs i:=by
 cases hx:xs[i]? with
 | none=>unfold Lz Js;rw [hx]
 | some x =>
  have I:=A3 hx;obtain ⟨y,D⟩:=Aq (xs:=l) (i:=p+i) tM;rw [Xr hx,Ye hx,Z3 hx D]
  by_cases h1:ItemOk (c.kZ.length:Int) x
  ·by_cases h2:y.item.key=x.key
   ·rw [if_pos h2,Aoy h1 rfl];have E:¬ Qs l (p+i) x.key:=fun h=>(Jp D).1 h h2
    rcases Akd H h1 with A | A
    ·rw [A1z h1 E A,A]
    ·rw [Aei h1 E tM,A]
   ·rw [if_neg h2,Azp h1 tD,Alv h1 ((Jp D).2 h2)]
  ·rw [Aoz h1,Alw h1]
theorem chg_do {c:RulesD} {l:List EntD} {z:Int} {xs:List ItemD} (h:Bh c l=0) :
  doR (Bh c l) (decide (Ay z xs.length l.length)) 0 (Lz c xs (Ws l z.toNat xs)) xs.length (C1 l z.toNat xs.length (xs.map (B8 c)))=Jw c l z xs:=by
 by_cases h1:Ay z xs.length l.length
 ·have E:decide (Ay z xs.length l.length)=true:=decide_eq_true h1;have H:=h1;unfold Ay at H;have D:Bv (Lz c xs (Ws l z.toNat xs)) xs.length=Bv (Js c l z.toNat xs) xs.length:=Ng fun i _=>in_chg (Dz h).1 tM i
  by_cases h3:Bv (Js c l z.toNat xs) xs.length=0
  ·rcases U4 (C1 l z.toNat xs.length (xs.map (B8 c))) with A | A
   ·rw [Apv h1 h3 A,P1 h E tD (by rw [D,h3]) A]
   rw [Aeh h1 h3 tM,Auu h E tD (by rw [D,h3]) tM,A]
  unfold doR Jw;rw [if_neg (not_not_intro h),if_neg (by rw [E];decide),if_neg tD,if_pos (by rw [D];exact h3),D,if_neg (not_not_intro h1),if_pos h3]
 rw [Apu h1,A1q h (decide_eq_false h1)]
theorem Agw {c:RulesD} {x:ItemD} (h:ItemOk (c.kZ.length:Int) x):x.mZ.length≤1000000:=by have:=h.2.2.2.1;omega
theorem U8 {l:List EntD} {p n:Nat} {fr:List EntD} {x:EntD} (h:x∈C1 l p n fr):x∈l∨x∈fr:=by
 unfold C1 at h
 rcases List.mem_append.1 h with h | h
 ·rcases List.mem_append.1 h with h | h
  ·exact Or.inl (List.mem_of_mem_take h)
  exact Or.inr h
 exact Or.inl (List.mem_of_mem_drop h)
theorem Ayk {c:RulesD} {l:List EntD} {p n:Nat} {xs:List ItemD} (h:Bh c l=0) (D:∀ x∈xs,ItemOk (c.kZ.length:Int) x):∀ x∈C1 l p n (xs.map (B8 c)),x.item.mZ.length≤1000000:=by
 intro x A
 rcases U8 A with A | A
 ·exact Agw (Nk h x A)
 obtain ⟨y,E,rfl⟩:=List.mem_map.1 A
 exact Agw (D y E)
theorem Ayj {c:RulesD} {l:List EntD} {p n:Nat} (h:Bh c l=0):∀ x∈C1 l p n [],x.item.mZ.length≤1000000:=by
 intro x A
 rcases U8 A with A | A
 ·exact Agw (Nk h x A)
 simp at A
theorem mk_mov {c:RulesD} {l:List EntD} {p n q:Nat} (h:Bh c l=0):∀ x∈R0 l p n q,x.item.mZ.length≤1000000:=by
 intro x A;unfold R0 at A
 rcases U8 A with A | A
 ·exact Ayj h x A
 exact Agw (Nk h x (List.mem_of_mem_drop (List.mem_of_mem_take A)))
def Amg (l:List EntD) (xs:List ItemD) (b mb:Nat) (i:Nat) (R:List Res):Prop:=∃ (es:Array MapEntry) (cl:Nat) (ks:List Nat),R=[rB b [.map (some mb)] 185,.obj mb (.map es cl)]∧Jz es ks∧∀ q,q∈ks↔Dj l q∨Kx (xs.take i) q
theorem Afg {w0:World} {G0:Av} {l:List EntD} {xs:List ItemD} {b T:Nat}:KeyC w0 G0 168 [pP b] xs (Vu l xs) (Amg l xs b T):=by
 classical
 intro G L R w i x ma mc hG S hR M hI Y;obtain ⟨es,cl,ks,rfl,U,D⟩:=hR;refine (Abo M U hI Y (i:=(i:Int))).mono ?_;rintro e w' h
 cases e with
 | returned v =>
  obtain ⟨L',V,I,H,rfl,rfl,h3⟩:=h;refine ⟨_,V,[rB b [.map (some T)] 185,.obj T (.map I H)],by rw [Abz S];by_cases E:x.key∈ks;(rw [if_pos E,if_pos ((D _).1 E)]);(rw [if_neg E,if_neg (fun O=>E ((D _).2 O))]),rfl,fun E=>?_⟩;have O:¬ x.key∈ks:=fun A=>by rw [Abz S,if_pos ((D _).1 A)] at E;cases E
  refine ⟨I,H,x.key::ks,rfl,h3 O,fun q=>?_⟩;rw [mC,D q,List.take_add_one,S]
  constructor
  ·rintro (rfl | A | ⟨y,A,N⟩)
   ·exact Or.inr ⟨x,by simp,rfl⟩
   ·exact Or.inl A
   ·exact Or.inr ⟨y,by simp [A],N⟩
  ·rintro (A | ⟨y,A,N⟩)
   ·exact Or.inr (Or.inl A)
   ·simp only [Option.toList_some,List.mem_append,List.mem_singleton] at A
    rcases A with A | rfl
    ·exact Or.inr (Or.inr ⟨y,A,N⟩)
    ·exact Or.inl N.symm
 | panicked c=>exact h.elim
 | outgrown=>exact h.elim
theorem Vt {l:List EntD} {xs:List ItemD} {b E:Nat} {A:Array MapEntry} {H:Nat} {ks:List Nat} (I:Jz A ks) (D:∀ q,q∈ks↔Dj l q):Amg l xs b E 0 [rB b [.map (some E)] 185,.obj E (.map A H)] :=
 ⟨A,H,ks,rfl,I,fun q=>by rw [D q];exact ⟨Or.inl,fun h=>by rcases h with h | ⟨y,N,_⟩;exact h;simp at N⟩⟩
theorem Azm {w0 w:World} {G:Av} {L:List Res} {c:RulesD} {E:Option Addr} {H:Nat} (SC:Aj Cq 9 G (vS E c.kZ.length H) c.kZ) {O:Option Addr} {Y:Nat} {l:List EntD} (S:Aj Bj 6 G (vS O l.length Y) l) (A:Bh c l=0) {ta:Option Addr} {tc:Nat} {xs:List ItemD} (T:Aj Bp 4 G (vS ta xs.length tc) xs) {z:Int} {b I U V:Nat} {es:Array MapEntry} {cl:Nat} {ks:List Nat} (M:Mem w0 G (rB b [.map (some I)] 185::.obj I (.map es cl)::L) w) (Es:Jz es ks) (aa:∀ q,q∈ks↔Dj l q)
  (A5:At G U 0 [vS O l.length Y]) (A6:At G V 0 [iI z]) (hN:xs.length≤900000) :
  Calls pG 116 #[.agg #[vS E c.kZ.length H,iI c.cap],.agg #[vS O l.length Y],.agg #[vB (decide (Ay z 0 l.length)),iI ((l.length+xs.length:Nat):Int),vS ta xs.length tc,.func (.func 168) #[] #[pP b],.func (.func 161) #[] #[pP U,pP V]]] w (I5 w0 G (K5 L (Gy c l z xs))):=by
 have ab:=(Dz A).2.1;rw [← Azl A];refine Sd (R:=[rB b [.map (some I)] 185,.obj I (.map es cl)]) (Rk:=Amg l xs b I) M SC S T A (Vt Es aa) tM (fun _=>Or.inr ⟨168,[pP b],rfl,A0u,Afg⟩) (fun N _=>⟨161,[pP U,pP V],rfl,ent161,?_⟩) (fun N=>?_) (fun N hx=>Ayk A (Aox hx (Nat.le_refl _)))
 ·have D:=dT N;unfold Ay at D;obtain ⟨p,rfl⟩:=Int.eq_ofNat_of_zero_le D.1.1;intro G2 L2 w2 a2 c2 hG M2 R2
  exact Aum M2 (S.mono Ab hG) (A5.mono hG) (A6.mono hG) R2 tM tM (by rw [lM];omega)
 have D:=dT N;unfold Ay at D;rw [Kp tM,lM];omega
theorem Axa {w0 w:World} {G:Av} {L:List Res} {c:RulesD} {E:Option Addr} {H:Nat} (SC:Aj Cq 9 G (vS E c.kZ.length H) c.kZ) {O:Option Addr} {Y:Nat} {l:List EntD} (S:Aj Bj 6 G (vS O l.length Y) l) (D:Bh c l=0) {z n:Int} {T U V:Nat} (M:Mem w0 G L w) (A5:At G T 0 [vS O l.length Y]) (A6:At G U 0 [iI z]) (A7:At G V 0 [iI n]) :
  Calls pG 116 #[.agg #[vS E c.kZ.length H,iI c.cap],.agg #[vS O l.length Y],.agg #[vB (decide (Ay z n l.length)),iI 0,sN,.nilFunc,.func (.func 118) #[] #[pP T,pP U,pP V]]] w (I5 w0 G (K5 L (M9 l z n))):=by
 have aa:=(Dz D).2.1;rw [← rem_do (fK:=fun _=>0) D];refine Sd (xs:=[]) (R:=[]) (Rk:=fun _ _=>True) M SC S Aj.nil D trivial tD (fun _=>Or.inl rfl) (fun N _=>⟨118,[pP T,pP U,pP V],rfl,ent118,?_⟩) (fun N=>?_) (fun N hx=>Ayj D)
 ·have A:=dT N;unfold Ay at A;obtain ⟨p,rfl⟩:=Int.eq_ofNat_of_zero_le A.1.1;obtain ⟨m,rfl⟩:=Int.eq_ofNat_of_zero_le A.2.1;intro G2 L2 w2 a2 c2 I M2 R2
  exact Arc M2 (S.mono Ab I) (A5.mono I) (A6.mono I) (A7.mono I) R2 tM tM
 have A:=dT N;unfold Ay at A;rw [Mh tM];omega
theorem Agt {w0 w:World} {G:Av} {L:List Res} {c:RulesD} {I:Option Addr} {N:Nat} (SC:Aj Cq 9 G (vS I c.kZ.length N) c.kZ) {O:Option Addr} {c1:Nat} {l:List EntD} (S:Aj Bj 6 G (vS O l.length c1) l) (D:Bh c l=0) {z n q:Int} {T U V Y:Nat} {H:Bool} (hi:H=true↔Ay z n l.length∧Ay q 0 (l.length - n)) (M:Mem w0 G L w) (A5:At G T 0 [vS O l.length c1]) (A6:At G U 0 [iI z]) (A7:At G V 0 [iI n]) (A8:At G Y 0 [iI q]) :
  Calls pG 116 #[.agg #[vS I c.kZ.length N,iI c.cap],.agg #[vS O l.length c1],.agg #[vB H,iI 0,sN,.nilFunc,.func (.func 162) #[] #[pP T,pP U,pP V,pP Y]]] w (I5 w0 G (K5 L (Iv l z n q))):=by
 have aa:=(Dz D).2.1;rw [← mov_do (fK:=fun _=>0) D hi];refine Sd (xs:=[]) (R:=[]) (Rk:=fun _ _=>True) M SC S Aj.nil D trivial tD (fun _=>Or.inl rfl) (fun h _=>⟨162,[pP T,pP U,pP V,pP Y],rfl,ent162,?_⟩) (fun h=>?_) (fun _ hx=>mk_mov D)
 ·have A:=hi.1 h;unfold Ay at A;obtain ⟨p,rfl⟩:=Int.eq_ofNat_of_zero_le A.1.1.1;obtain ⟨m,rfl⟩:=Int.eq_ofNat_of_zero_le A.1.2.1;obtain ⟨k,rfl⟩:=Int.eq_ofNat_of_zero_le A.2.1.1;intro G2 L2 w2 a2 c2 E M2 R2
  exact Ary M2 (S.mono Ab E) (A5.mono E) (A6.mono E) (A7.mono E) (A8.mono E) R2 tM tM tM
 have A:=hi.1 h;unfold Ay at A;unfold R0;have h5:=Mh (l:=l) (p:=z.toNat) (n:=n.toNat) tM;rw [Kp tM,h5,lT,lD];omega
theorem A1y {w0 w:World} {G:Av} {L:List Res} {c:RulesD} {O:Option Addr} {U:Nat} (SC:Aj Cq 9 G (vS O c.kZ.length U) c.kZ) {a1:Option Addr} {c1:Nat} {l:List EntD} (S:Aj Bj 6 G (vS a1 l.length c1) l) (E:Bh c l=0) {ta:Option Addr} {tc:Nat} {xs:List ItemD} (T:Aj Bp 4 G (vS ta xs.length tc) xs) {z:Int} {I N b9:Nat} (M:Mem w0 G L w) (A5:At G I 0 [vS a1 l.length c1]) (A6:At G N 0 [iI z]) (A9:At G b9 0 [vS ta xs.length tc]) (hN:xs.length≤900000) :
  Calls pG 116 #[.agg #[vS O c.kZ.length U,iI c.cap],.agg #[vS a1 l.length c1],.agg #[vB (decide (Ay z xs.length l.length)),iI 0,vS ta xs.length tc,.func (.func 163) #[] #[pP I,pP N],.func (.func 164) #[] #[pP I,pP N,pP b9]]] w (I5 w0 G (K5 L (Jw c l z xs))):=by
 have aa:=(Dz E).2.1;rw [← chg_do E];refine Sd (R:=[]) (Rk:=fun _ R=>R=[]) M SC S T E rfl tM (fun H=>Or.inr ⟨163,[pP I,pP N],rfl,ent163,?_⟩) (fun H _=>⟨164,[pP I,pP N,pP b9],rfl,ent164,?_⟩) (fun H=>?_) (fun H V=>Ayk E (Aox V (Nat.le_refl _)))
 ·have A:=dT H;unfold Ay at A;obtain ⟨p,rfl⟩:=Int.eq_ofNat_of_zero_le A.1.1;intro G2 L2 R2 w2 i x ma mc D V hR Y hI SM;subst hR;obtain ⟨y,hy⟩:=Aq (xs:=l) (i:=p+i) (by have:=A3 V;omega);refine (Avd Y (S.mono Ab D) (A5.mono D) (A6.mono D) hI SM hy tM).mono ?_;rintro e w' h
  cases e with
  | returned v=>exact ⟨_,h.1,[],by rw [h.2,Int.toNat_natCast,Z3 V hy],rfl,fun _=>rfl⟩
  | panicked c=>exact h.elim
  | outgrown=>exact h.elim
 ·have A:=dT H;unfold Ay at A;obtain ⟨p,rfl⟩:=Int.eq_ofNat_of_zero_le A.1.1;intro G2 L2 w2 a2 c2 D Y R2
  exact Avc Y (S.mono Ab D) (A5.mono D) (A6.mono D) (T.mono Ac D) (A9.mono D) R2 tM tM (by rw [lM];omega)
 ·have A:=dT H;unfold Ay at A;rw [Kp tM,lM];omega
theorem res_eq {c:RulesD} {xs:List ItemD} (l:List EntD) (h:Bh c l=0):doR (Bh c l) true ((xs.length:Nat):Int) (Lz c xs (Vu [] xs)) xs.length (xs.map (B8 c))=Gy c [] 0 xs:=by
 have E:=(Dz h).1;have A:Bh c []=0:=by rw [Kh E tD (i:=0) rfl (Nat.le_refl _)];rfl
 rw [← Azl A,h,A,decide_eq_true (show Ay 0 0 ([]:List EntD).length by decide)];have D:C1 [] (0:Int).toNat 0 (xs.map (B8 c))=xs.map (B8 c):=by simp [C1]
 rw [D,show ([]:List EntD).length+xs.length=xs.length from Nat.zero_add _]
theorem Awy {w0 w:World} {G:Av} {L:List Res} {c:RulesD} {D:Option Addr} {E:Nat} (SC:Aj Cq 9 G (vS D c.kZ.length E) c.kZ) {O:Option Addr} {U:Nat} {l:List EntD} (S:Aj Bj 6 G (vS O l.length U) l) (A:Bh c l=0) {ta:Option Addr} {tc:Nat} {xs:List ItemD} (T:Aj Bp 4 G (vS ta xs.length tc) xs) {b H:Nat} {I:Array MapEntry} {V:Nat} {ks:List Nat} (M:Mem w0 G (rB b [.map (some H)] 185::.obj H (.map I V)::L) w) (Es:Jz I ks) (N:∀ q,q∈ks↔Dj [] q) (hN:xs.length≤900000) :
  Calls pG 116 #[.agg #[vS D c.kZ.length E,iI c.cap],.agg #[vS O l.length U],.agg #[vB true,iI ((xs.length:Nat):Int),vS ta xs.length tc,.func (.func 168) #[] #[pP b],.func (.func 140) #[] #[]]] w (I5 w0 G (K5 L (Gy c [] 0 xs))):=by
 rw [← res_eq l A];refine Sd (R:=[rB b [.map (some H)] 185,.obj H (.map I V)]) (Rk:=Amg [] xs b H) M SC S T A (Vt Es N) tM (fun _=>Or.inr ⟨168,[pP b],rfl,A0u,Afg⟩) (fun Y _=>⟨140,[],rfl,ent140,?_⟩) (fun Y=>?_) (fun Y hx=>?_)
 ·intro G2 L2 w2 a2 c2 hG M2 R2
  exact Aqz M2 R2
 ·rw [lM];omega
 intro x hm;obtain ⟨y,hy,rfl⟩:=List.mem_map.1 hm
 exact Agw (Aox hx (Nat.le_refl _) y hy)
variable {w0 w:World} {G:Av} {L:List Res}
theorem Px {c:RulesD} (h:Dd c):Bh c []=0:=by
 rw [Kh h tD (i:=0) rfl (Nat.le_refl _)];rfl
theorem Adk (M:Mem w0 G L w) {c:RulesD} {H:Option Addr} {I:Nat} (SC:Aj Cq 9 G (vS H c.kZ.length I) c.kZ) {a1:Option Addr} {c1:Nat} {l:List EntD} (S:Aj Bj 6 G (vS a1 l.length c1) l) (N:Bh c l=0) {z:Int} {ta:Option Addr} {tc:Nat} {xs:List ItemD} (T:Aj Bp 4 G (vS ta xs.length tc) xs) (hN:xs.length≤900000):Calls pG 123 #[.agg #[vS H c.kZ.length I,iI c.cap],.agg #[vS a1 l.length c1],iI z,vS ta xs.length tc] w (I5 w0 G (K5 L (Gy c l z xs))):=by
 have bS:=S.bound;have bT:=T.bound;refine Ap (vs:=[_,_,_,_]) Tryz.func123 rfl (n:=32) rfl rfl<|?_
 refine Bt<|?_
 refine Ch M rfl rfl rfl<|?_;clear M;intro b1 w M
 refine Ch M rfl rfl rfl<|?_;clear M;intro b2 w M
 refine Ch M rfl rfl rfl<|?_;clear M;intro b3 w M
 refine B0 M Az rfl rfl<|?_;clear M;intro b4 w M
 refine wk ?_;obtain ⟨aj,E,aa,M⟩:=M.freeze (k:=2) rfl;have Aq6:At aj b2 0 [vS a1 l.length c1]:=At.of_cells aa;clear aa;replace SC:=SC.mono Ai E;replace S:=S.mono Ab E;replace T:=T.mono Ac E;replace M:=z_M M;obtain ⟨ah,D,ab,M⟩:=M.freeze (k:=1) rfl;have Aq7:At ah b3 0 [iI z]:=At.of_cells ab;clear ab;replace SC:=SC.mono Ai D;replace S:=S.mono Ab D;replace T:=T.mono Ac D;replace Aq6:=Aq6.mono D;replace M:=z_M M;intro a F;refine Dv [(true,0),(true,1),(true,2),(true,3),(true,4),(true,5),(true,7),(true,8),(true,9),(true,10),(true,11),(true,12),(true,13),(true,14),(true,15),(true,17),(false,6),(false,16),(true,18),(false,19),(true,20),(true,21),(false,22),(true,23)] (Keep ah [rB b1 [vS H c.kZ.length I,iI c.cap] 51]) rfl kR kF (Aw (M.drew _)) ?_;replace M:=M.drew (w.drawn+1);revert a;refine wk ?_;refine l_r (fun a F w M=>Fx (F.ev rfl) (F.ev rfl) (Bi (by (have ak:=(Dz N).2.1;omega)) (by (have ak:=(Dz N).2.1;omega)))) rfl<|wk ?_;refine l_r (fun a F w M=>Dh (vs:=#[pP b2,pP b3]) (by simp only [List.map_toArray,List.map_cons,List.map_nil,F.ev (x:=.tmp 5) rfl,F.ev (x:=.tmp 6) rfl])) rfl<|l_a rfl<|A2 X4 rfl rfl (Jl (z:=z) (n:=0) (m:=((l.length:Nat):Int)) M tM)<|?_;clear M;rintro _ w M rfl
 refine Ao<|?_
 refine eQ (Aw M)<|l_a rfl<|Sy A1b rfl rfl (T7 (c:=c) (l:=l) M S N)<|?_;clear M;rintro _ _ w M ⟨V,ao,am,al,an,rfl,rfl,ag,ac⟩
 refine Ao<|?_
 refine eQ (Aw M)<|l_r (fun a F w M=>Am (cs:=[vB (decide (Ay z 0 ((l.length:Nat):Int))),iI (((l.length:Nat):Int)+((xs.length:Nat):Int)),vS ta xs.length tc,.func (.func 168) #[] #[pP V],.func (.func 161) #[] #[pP b2,pP b3]]) Ja.k rfl Ja (F.evp rfl) rfl) rfl<|l_a rfl<|?_
 replace M:=M.perm (Ah _ 1 _ rfl);replace M:=M.perm (Ah _ 1 _ rfl);replace M:=z_M M;intro a F;refine Cs F Tx rfl rfl (Azm SC S N T M ag ac Aq6 Aq7 hN) ?_;clear F M a;rintro _ ai _ w a A M ⟨U,Y,O,rfl,rfl,ae⟩ F;replace Aq6:=Aq6.mono A;replace Aq7:=Aq7.mono A;have M:=M.perm (Bk (C0 U (Gy c l z xs).1.length Y::O) [rB b4 [sN] 54,rB b1 [vS H c.kZ.length I,iI c.cap] 51] L);replace M:=z_M M;revert a;refine Ao<|?_
 refine eK (C':=Keep ai [rB b1 [vS H c.kZ.length I,iI c.cap] 51]) (Aw M) (fun w h=>h.mono A (by simp))<|wk ?_;refine l_a rfl<|fun a F=>?_
 refine Bf F M Az 0<|sZ ?_;clear F M a;intro w M;refine Ao<|?_
 refine eK (C':=Keep ai [rB b1 [vS H c.kZ.length I,iI c.cap] 51]) (Aw M) (fun w h=>h.mono (Gle.refl _) (by simp))<|wk ?_;refine fun a F=>B1 F M (k:=0) rfl rfl Az rfl rfl rfl rfl ?_
 exact ⟨_,_,((E.trans D).trans A),M.wn dS2,U,Y,O,rfl,rfl,ae⟩
theorem R4 (M:Mem w0 G L w) {c:RulesD} {H:Option Addr} {I:Nat} (SC:Aj Cq 9 G (vS H c.kZ.length I) c.kZ) {a1:Option Addr} {c1:Nat} {l:List EntD} (S:Aj Bj 6 G (vS a1 l.length c1) l) (ai:Bh c l=0) {z n:Int}:Calls pG 69 #[.agg #[vS H c.kZ.length I,iI c.cap],.agg #[vS a1 l.length c1],iI z,iI n] w (I5 w0 G (K5 L (M9 l z n))):=by
 have bS:=S.bound;refine Ap (vs:=[_,_,_,_]) Tryz.func69 rfl (n:=23) rfl rfl<|?_
 refine Bt<|?_
 refine Ch M rfl rfl rfl<|?_;clear M;intro b1 w M
 refine Ch M rfl rfl rfl<|?_;clear M;intro b2 w M
 refine Ch M rfl rfl rfl<|?_;clear M;intro b3 w M
 refine Ch M rfl rfl rfl<|?_;clear M;intro b4 w M
 refine B0 M Az rfl rfl<|?_;clear M;intro b5 w M
 refine wk ?_;obtain ⟨ag,U,Y,M⟩:=M.freeze (k:=3) rfl;have Aq7:At ag b2 0 [vS a1 l.length c1]:=At.of_cells Y;clear Y;replace SC:=SC.mono Ai U;replace S:=S.mono Ab U;replace M:=z_M M;obtain ⟨ah,E,aa,M⟩:=M.freeze (k:=2) rfl;have Aq8:At ah b3 0 [iI z]:=At.of_cells aa;clear aa;replace SC:=SC.mono Ai E;replace S:=S.mono Ab E;replace Aq7:=Aq7.mono E;replace M:=z_M M;obtain ⟨ae,D,ab,M⟩:=M.freeze (k:=1) rfl;have Aq9:At ae b4 0 [iI n]:=At.of_cells ab;clear ab;replace SC:=SC.mono Ai D;replace S:=S.mono Ab D;replace Aq7:=Aq7.mono D;replace Aq8:=Aq8.mono D;replace M:=z_M M;intro a F;refine Dv [(true,0),(true,1),(true,2),(true,3),(true,4),(true,5),(true,6),(true,8),(false,7),(true,9),(false,10),(true,11),(true,12),(false,13),(true,14)] (Keep ae [rB b1 [vS H c.kZ.length I,iI c.cap] 51]) rfl kR kF (Aw (M.drew _)) ?_;replace M:=M.drew (w.drawn+1);revert a;refine wk ?_;refine l_r (fun a F w M=>Dh (vs:=#[pP b2,pP b3,pP b4]) (by simp only [List.map_toArray,List.map_cons,List.map_nil,F.ev (x:=.tmp 5) rfl,F.ev (x:=.tmp 6) rfl,F.ev (x:=.tmp 7) rfl])) rfl<|l_a rfl<|A2 X4 rfl rfl (Jl (z:=z) (n:=n) (m:=((l.length:Nat):Int)) M tM)<|?_;clear M;rintro _ w M rfl
 refine Ao<|?_
 refine eQ (Aw M)<|l_r (fun a F w M=>Am (cs:=[vB (decide (Ay z n ((l.length:Nat):Int))),iI 0,sN,.nilFunc,.func (.func 118) #[] #[pP b2,pP b3,pP b4]]) Ja.k rfl Ja (F.evp rfl) rfl) rfl<|l_a rfl<|fun a F=>?_
 refine Cs F Tx rfl rfl (Axa SC S ai M Aq7 Aq8 Aq9) ?_;clear F M a;rintro _ V _ w a A M ⟨O,T,N,rfl,rfl,ac⟩ F;replace Aq7:=Aq7.mono A;replace Aq8:=Aq8.mono A;replace Aq9:=Aq9.mono A;have M:=M.perm (Bk (C0 O (M9 l z n).1.length T::N) [rB b5 [sN] 54,rB b1 [vS H c.kZ.length I,iI c.cap] 51] L);replace M:=z_M M;revert a;refine Ao<|?_
 refine eK (C':=Keep V [rB b1 [vS H c.kZ.length I,iI c.cap] 51]) (Aw M) (fun w h=>h.mono A (by simp))<|wk ?_;refine l_a rfl<|fun a F=>?_
 refine Bf F M Az 0<|sZ ?_;clear F M a;intro w M;refine Ao<|?_
 refine eK (C':=Keep V [rB b1 [vS H c.kZ.length I,iI c.cap] 51]) (Aw M) (fun w h=>h.mono (Gle.refl _) (by simp))<|wk ?_;refine fun a F=>B1 F M (k:=0) rfl rfl Az rfl rfl rfl rfl ?_
 exact ⟨_,_,(((U.trans E).trans D).trans A),M.wn dS2,O,T,N,rfl,rfl,ac⟩
theorem Ala (M:Mem w0 G L w) {c:RulesD} {O:Option Addr} {T:Nat} (SC:Aj Cq 9 G (vS O c.kZ.length T) c.kZ) {a1:Option Addr} {c1:Nat} {l:List EntD} (S:Aj Bj 6 G (vS a1 l.length c1) l) (au:Bh c l=0) {z n q:Int}:Calls pG 126 #[.agg #[vS O c.kZ.length T,iI c.cap],.agg #[vS a1 l.length c1],iI z,iI n,iI q] w (I5 w0 G (K5 L (Iv l z n q))):=by
 have bS:=S.bound;refine Ap (vs:=[_,_,_,_,_]) Tryz.func126 rfl (n:=36) rfl rfl<|?_
 refine Bt<|?_
 refine Ch M rfl rfl rfl<|?_;clear M;intro b1 w M
 refine Ch M rfl rfl rfl<|?_;clear M;intro b2 w M
 refine Ch M rfl rfl rfl<|?_;clear M;intro b3 w M
 refine Ch M rfl rfl rfl<|?_;clear M;intro b4 w M
 refine Ch M rfl rfl rfl<|?_;clear M;intro b5 w M
 refine B0 M Az rfl rfl<|?_;clear M;intro b6 w M
 refine wk ?_;obtain ⟨aw,ac,al,M⟩:=M.freeze (k:=4) rfl;have Aq8:At aw b2 0 [vS a1 l.length c1]:=At.of_cells al;clear al;replace SC:=SC.mono Ai ac;replace S:=S.mono Ab ac;replace M:=z_M M;obtain ⟨ax,U,am,M⟩:=M.freeze (k:=3) rfl;have Aq9:At ax b3 0 [iI z]:=At.of_cells am;clear am;replace SC:=SC.mono Ai U;replace S:=S.mono Ab U;replace Aq8:=Aq8.mono U;replace M:=z_M M;obtain ⟨ap,H,ai,M⟩:=M.freeze (k:=2) rfl;have Aq10:At ap b4 0 [iI n]:=At.of_cells ai;clear ai;replace SC:=SC.mono Ai H;replace S:=S.mono Ab H;replace Aq8:=Aq8.mono H;replace Aq9:=Aq9.mono H;replace M:=z_M M;obtain ⟨ak,E,aj,M⟩:=M.freeze (k:=1) rfl;have Aq11:At ak b5 0 [iI q]:=At.of_cells aj;clear aj;replace SC:=SC.mono Ai E;replace S:=S.mono Ab E;replace Aq8:=Aq8.mono E;replace Aq9:=Aq9.mono E;replace Aq10:=Aq10.mono E;replace M:=z_M M;refine wk ?_;refine A2 X4 rfl rfl (Jl (z:=z) (n:=n) (m:=((l.length:Nat):Int)) M tM)<|?_;clear M;rintro _ w M rfl
 refine wk ?_;refine fun a F=>D5 [(.pure,0),(.pure,1),(.free,2),(.free,3),(.pure,4),(.free,5),(.pure,6),(.pure,7),(.pure,8),(.free,9),(.free,12),(.keep,10),(.free,11),(.free,13),(.keep,14),(.free,15),(.free,16),(.chg,17),(.free,18)] [17] (Keep ak [rB b1 [vS O c.kZ.length T,iI c.cap] 51]) rfl kR kF (Aw (M.drew _)) ?_;replace M:=M.drew (w.drawn+1);revert a;refine wk ?_
 rcases bE (decide (Ay z n ((l.length:Nat):Int))) with ah | ar
 ·skip
  have aq:=dT ah;have av:=aq;unfold Ay at av;refine wk ?_;refine k_f (fun a F w _=>Dh (vs:=#[pP b2,pP b3,pP b4,pP b5]) (by simp only [List.map_toArray,List.map_cons,List.map_nil,F.ev (x:=.tmp 6) rfl,F.ev (x:=.tmp 7) rfl,F.ev (x:=.tmp 8) rfl,F.ev (x:=.tmp 9) rfl])) rfl<|fun a F=>Gj F rfl rfl ah ?_
  revert a;refine g_t rfl ah<|?_
  refine A2 X4 rfl rfl (Jl (z:=q) (n:=0) (m:=((l.length:Nat):Int) - n) M tM)<|?_;clear M;rintro _ w M rfl
  refine Ao<|?_
  refine eQ (Aw M)<|wk ?_;refine k_f (fun a F w _=>Am (cs:=[vB (decide (Ay q 0 (((l.length:Nat):Int) - n))),iI 0,sN,.nilFunc,.func (.func 162) #[] #[pP b2,pP b3,pP b4,pP b5]]) Ja.k rfl Ja (F.evp rfl) rfl) rfl<|k_k rfl<|fun a F=>?_
  refine Cs F Tx rfl rfl (Agt SC S au ⟨fun h_=>⟨aq,dT h_⟩,fun h_=>decide_eq_true h_.2⟩ M Aq8 Aq9 Aq10 Aq11) ?_;clear F M a;rintro _ ae _ w a A M ⟨I,aa,V,rfl,rfl,an⟩ F;replace SC:=SC.mono Ai A;replace S:=S.mono Ab A;replace Aq8:=Aq8.mono A;replace Aq9:=Aq9.mono A;replace Aq10:=Aq10.mono A;replace Aq11:=Aq11.mono A;have M:=M.perm (Bk (C0 I (Iv l z n q).1.length aa::V) [rB b6 [sN] 54,rB b1 [vS O c.kZ.length T,iI c.cap] 51] L);replace M:=z_M M;revert a;refine Ao<|?_
  refine eK (C':=Keep ae [rB b1 [vS O c.kZ.length T,iI c.cap] 51]) (Aw M) (fun w h=>h.mono A (by simp))<|wk ?_;refine k_c rfl<|fun a F=>?_
  refine Bf F M Az 0 ?_;clear F M a;intro w a M F;change Mem w0 ae (rB b6 [vS I ((Iv l z n q).1.length) ((Iv l z n q).1.length)] 54::_::((C0 I (Iv l z n q).1.length aa::V)++L)) _ at M;revert a;refine Ao<|?_
  refine fun a F=>⟨Keep ae [rB b6 [vS I ((Iv l z n q).1.length) ((Iv l z n q).1.length)] 54,rB b1 [vS O c.kZ.length T,iI c.cap] 51],M.keep (Gle.refl _) (by simp),?_⟩;revert a;refine wk ?_;refine fun a F=>B1 F M (k:=0) rfl rfl Az rfl rfl rfl rfl ?_
  exact ⟨_,_,((((ac.trans U).trans H).trans E).trans A),M.wn dS2,I,aa,V,rfl,rfl,an⟩
 have ay:=dF ar;refine wk ?_;refine k_f (fun a F w _=>Dh (vs:=#[pP b2,pP b3,pP b4,pP b5]) (by simp only [List.map_toArray,List.map_cons,List.map_nil,F.ev (x:=.tmp 6) rfl,F.ev (x:=.tmp 7) rfl,F.ev (x:=.tmp 8) rfl,F.ev (x:=.tmp 9) rfl])) rfl<|wk ?_;refine k_f (fun a F w _=>Am (cs:=[vB false,iI 0,sN,.nilFunc,.func (.func 162) #[] #[pP b2,pP b3,pP b4,pP b5]]) Ja.k rfl Ja (F.evp rfl) rfl) rfl<|k_k rfl<|fun a F=>?_
 refine Cs F Tx rfl rfl (Agt SC S au ⟨fun h_=>(by cases h_),fun h_=>absurd h_.1 ay⟩ M Aq8 Aq9 Aq10 Aq11) ?_;clear F M a;rintro _ ag _ w a D M ⟨N,ab,Y,rfl,rfl,ao⟩ F;replace Aq8:=Aq8.mono D;replace Aq9:=Aq9.mono D;replace Aq10:=Aq10.mono D;replace Aq11:=Aq11.mono D;have M:=M.perm (Bk (C0 N (Iv l z n q).1.length ab::Y) [rB b6 [sN] 54,rB b1 [vS O c.kZ.length T,iI c.cap] 51] L);replace M:=z_M M;revert a;refine Ao<|?_
 refine eK (C':=Keep ag [rB b1 [vS O c.kZ.length T,iI c.cap] 51]) (Aw M) (fun w h=>h.mono D (by simp))<|wk ?_;refine k_c rfl<|fun a F=>?_
 refine Bf F M Az 0 ?_;clear F M a;intro w a M F;change Mem w0 ag (rB b6 [vS N ((Iv l z n q).1.length) ((Iv l z n q).1.length)] 54::_::((C0 N (Iv l z n q).1.length ab::Y)++L)) _ at M;revert a;refine Ao<|?_
 refine fun a F=>⟨Keep ag [rB b6 [vS N ((Iv l z n q).1.length) ((Iv l z n q).1.length)] 54,rB b1 [vS O c.kZ.length T,iI c.cap] 51],M.keep (Gle.refl _) (by simp),?_⟩;revert a;refine wk ?_;refine fun a F=>B1 F M (k:=0) rfl rfl Az rfl rfl rfl rfl ?_
 exact ⟨_,_,((((ac.trans U).trans H).trans E).trans D),M.wn dS2,N,ab,Y,rfl,rfl,ao⟩
theorem Adm (M:Mem w0 G L w) {c:RulesD} {I:Option Addr} {N:Nat} (SC:Aj Cq 9 G (vS I c.kZ.length N) c.kZ) {a1:Option Addr} {c1:Nat} {l:List EntD} (S:Aj Bj 6 G (vS a1 l.length c1) l) (aj:Bh c l=0) {z:Int} {ta:Option Addr} {tc:Nat} {xs:List ItemD} (T:Aj Bp 4 G (vS ta xs.length tc) xs) (hN:xs.length≤900000):Calls pG 128 #[.agg #[vS I c.kZ.length N,iI c.cap],.agg #[vS a1 l.length c1],iI z,vS ta xs.length tc] w (I5 w0 G (K5 L (Jw c l z xs))):=by
 have bS:=S.bound;have bT:=T.bound;refine Ap (vs:=[_,_,_,_]) Tryz.func128 rfl (n:=28) rfl rfl<|?_
 refine Bt<|?_
 refine Ch M rfl rfl rfl<|?_;clear M;intro b1 w M
 refine Ch M rfl rfl rfl<|?_;clear M;intro b2 w M
 refine Ch M rfl rfl rfl<|?_;clear M;intro b3 w M
 refine Ch M rfl rfl rfl<|?_;clear M;intro b4 w M
 refine B0 M Az rfl rfl<|?_;clear M;intro b5 w M
 refine wk ?_;obtain ⟨ah,H,aa,M⟩:=M.freeze (k:=3) rfl;have Aq7:At ah b2 0 [vS a1 l.length c1]:=At.of_cells aa;clear aa;replace SC:=SC.mono Ai H;replace S:=S.mono Ab H;replace T:=T.mono Ac H;replace M:=z_M M;obtain ⟨ai,E,ab,M⟩:=M.freeze (k:=2) rfl;have Aq8:At ai b3 0 [iI z]:=At.of_cells ab;clear ab;replace SC:=SC.mono Ai E;replace S:=S.mono Ab E;replace T:=T.mono Ac E;replace Aq7:=Aq7.mono E;replace M:=z_M M;obtain ⟨ag,D,ac,M⟩:=M.freeze (k:=1) rfl;have Aq9:At ag b4 0 [vS ta xs.length tc]:=At.of_cells ac;clear ac;replace SC:=SC.mono Ai D;replace S:=S.mono Ab D;replace T:=T.mono Ac D;replace Aq7:=Aq7.mono D;replace Aq8:=Aq8.mono D;replace M:=z_M M;refine wk ?_;refine Ak (fun a F=>Dh (vs:=#[pP b2,pP b3]) (by simp only [List.map_toArray,List.map_cons,List.map_nil,F.ev (x:=.tmp 5) rfl,F.ev (x:=.tmp 6) rfl])) rfl<|wk ?_;refine fun a F=>Dv [(true,0),(true,1),(true,2),(true,3),(true,4),(true,5),(true,6),(true,7),(true,9),(true,10),(true,11),(false,8),(true,12),(false,13),(true,14),(true,15),(false,16),(true,17)] (Keep ag [rB b1 [vS I c.kZ.length N,iI c.cap] 51]) rfl kR kF (Aw (M.drew _)) ?_;replace M:=M.drew (w.drawn+1);revert a;refine wk ?_;refine l_r (fun a F w M=>Dh (vs:=#[pP b2,pP b3,pP b4]) (by simp only [List.map_toArray,List.map_cons,List.map_nil,F.ev (x:=.tmp 5) rfl,F.ev (x:=.tmp 6) rfl,F.ev (x:=.tmp 7) rfl])) rfl<|l_a rfl<|A2 X4 rfl rfl (Jl (z:=z) (n:=((xs.length:Nat):Int)) (m:=((l.length:Nat):Int)) M tM)<|?_;clear M;rintro _ w M rfl
 refine Ao<|?_
 refine eQ (Aw M)<|l_r (fun a F w M=>Am (cs:=[vB (decide (Ay z ((xs.length:Nat):Int) ((l.length:Nat):Int))),iI 0,vS ta xs.length tc,.func (.func 163) #[] #[pP b2,pP b3],.func (.func 164) #[] #[pP b2,pP b3,pP b4]]) Ja.k rfl Ja (F.evp rfl) rfl) rfl<|l_a rfl<|fun a F=>?_
 refine Cs F Tx rfl rfl (A1y SC S aj T M Aq7 Aq8 Aq9 hN) ?_;clear F M a;rintro _ Y _ w a A M ⟨U,V,O,rfl,rfl,ae⟩ F;replace Aq7:=Aq7.mono A;replace Aq8:=Aq8.mono A;replace Aq9:=Aq9.mono A;have M:=M.perm (Bk (C0 U (Jw c l z xs).1.length V::O) [rB b5 [sN] 54,rB b1 [vS I c.kZ.length N,iI c.cap] 51] L);replace M:=z_M M;revert a;refine Ao<|?_
 refine eK (C':=Keep Y [rB b1 [vS I c.kZ.length N,iI c.cap] 51]) (Aw M) (fun w h=>h.mono A (by simp))<|wk ?_;refine l_a rfl<|fun a F=>?_
 refine Bf F M Az 0<|sZ ?_;clear F M a;intro w M;refine Ao<|?_
 refine eK (C':=Keep Y [rB b1 [vS I c.kZ.length N,iI c.cap] 51]) (Aw M) (fun w h=>h.mono (Gle.refl _) (by simp))<|wk ?_;refine fun a F=>B1 F M (k:=0) rfl rfl Az rfl rfl rfl rfl ?_
 exact ⟨_,_,(((H.trans E).trans D).trans A),M.wn dS2,U,V,O,rfl,rfl,ae⟩
theorem Uo (M:Mem w0 G L w) {c:RulesD} {D:Option Addr} {E:Nat} (SC:Aj Cq 9 G (vS D c.kZ.length E) c.kZ) {V:Option Addr} {Y:Nat} {l:List EntD} (S:Aj Bj 6 G (vS V l.length Y) l) (ae:Bh c l=0) {ta:Option Addr} {tc:Nat} {xs:List ItemD} (T:Aj Bp 4 G (vS ta xs.length tc) xs) (hN:xs.length≤900000):Calls pG 92 #[.agg #[vS D c.kZ.length E,iI c.cap],.agg #[vS V l.length Y],vS ta xs.length tc] w (I5 w0 G (K5 L (Gy c [] 0 xs))):=by
 have bS:=S.bound;have bT:=T.bound;refine Ap (vs:=[_,_,_]) Tryz.func92 rfl (n:=18) rfl rfl<|?_
 refine Bt<|?_
 refine Ch M rfl rfl rfl<|?_;clear M;intro b1 w M
 refine Ch M rfl rfl rfl<|?_;clear M;intro b2 w M
 refine B0 M Az rfl rfl<|?_;clear M;intro b3 w M
 refine wk ?_;refine fun a F=>Dv [(true,0),(true,1),(true,2),(true,3),(true,4),(false,5),(true,6),(false,7),(true,8),(true,9),(false,10),(true,11)] (Keep G [rB b2 [vS V l.length Y] 54,rB b1 [vS D c.kZ.length E,iI c.cap] 51]) rfl kR kF (Aw (M.drew _)) ?_;replace M:=M.drew (w.drawn+1);revert a;refine wk ?_;refine l_a rfl<|Sy A1b rfl rfl (T7 (c:=c) (l:=([]:List EntD)) M Aj.nil (Px (Dz ae).1))<|?_;clear M;rintro _ _ w M ⟨N,aj,ah,ag,ai,rfl,rfl,ab,U⟩
 refine Ao<|?_
 refine eQ (Aw M)<|l_r (fun a F w M=>Am (cs:=[vB true,iI ((xs.length:Nat):Int),vS ta xs.length tc,.func (.func 168) #[] #[pP N],.func (.func 140) #[] #[]]) Ja.k rfl Ja (F.evp rfl) rfl) rfl<|l_a rfl<|?_
 replace M:=M.perm (Ah _ 1 _ rfl);replace M:=M.perm (Ah _ 1 _ rfl);replace M:=z_M M;intro a F;refine Cs F Tx rfl rfl (Awy SC S ae T M ab U hN) ?_;clear F M a;rintro _ ac _ w a A M ⟨I,O,H,rfl,rfl,aa⟩ F;have M:=M.perm (Bk (C0 I (Gy c [] 0 xs).1.length O::H) [rB b3 [sN] 54,rB b2 [vS V l.length Y] 54,rB b1 [vS D c.kZ.length E,iI c.cap] 51] L);replace M:=z_M M;revert a;refine Ao<|?_
 refine eK (C':=Keep ac [rB b2 [vS V l.length Y] 54,rB b1 [vS D c.kZ.length E,iI c.cap] 51]) (Aw M) (fun w h=>h.mono A (by simp))<|wk ?_;refine l_a rfl<|fun a F=>?_
 refine Bf F M Az 0<|sZ ?_;clear F M a;intro w M;refine Ao<|?_
 refine eK (C':=Keep ac [rB b2 [vS V l.length Y] 54,rB b1 [vS D c.kZ.length E,iI c.cap] 51]) (Aw M) (fun w h=>h.mono (Gle.refl _) (by simp))<|wk ?_;refine fun a F=>B1 F M (k:=0) rfl rfl Az rfl rfl rfl rfl ?_
 exact ⟨_,_,A,M.wn dS3,I,O,H,rfl,rfl,aa⟩
open Go Go.Y
def Sm (c:RulesD) (x:EntD):Prop:=(ItemOk (c.kZ.length:Int) x.item∧Hz c x.item=0)∧Jh c x
def C6 (l:List EntD):List Nat:=l.map fun x=>x.item.key
theorem W6 {l:List Nat}:l.Nodup↔∀ i x,l[i]?=some x→¬ x∈l.take i:=by
 constructor
 ·intro h i x D S;obtain ⟨j,A⟩:=List.mem_iff_getElem?.1 S;rw [List.getElem?_take] at A
  split at A
  ·rename_i H
   have I:=List.pairwise_iff_getElem.1 h j i (A3 A) (A3 D) H;rw [List.getElem?_eq_getElem (A3 A)] at A;rw [List.getElem?_eq_getElem (A3 D)] at D;simp only [Option.some.injEq] at A D
   exact I (A.trans D.symm)
  cases A
 intro h;refine List.pairwise_iff_getElem.2 fun i j O A E N=>?_;refine h j l[j] (List.getElem?_eq_getElem A) (List.mem_iff_getElem?.2 ⟨i,?_⟩);rw [List.getElem?_take,if_pos E,List.getElem?_eq_getElem O,N]
theorem Xs {l:List EntD} {k:Nat}:Dj l k↔k∈C6 l:=by
 unfold Dj C6;rw [List.mem_map]
theorem Aaj (l:List EntD) (i:Nat):C6 (l.take i)=(C6 l).take i:=by unfold C6;rw [List.map_take]
theorem G8 {c:RulesD} {l:List EntD}:Bh c l=0↔Dd c∧l.length≤1024∧(∀ x∈l,Sm c x)∧(C6 l).Nodup∧Dp l=0:=by
 constructor
 ·intro h;obtain ⟨H,S,I,N⟩:=Dz h;refine ⟨H,S,fun x A=>?_,W6.2 fun i k D=>?_,N⟩
  ·obtain ⟨i,O⟩:=List.mem_iff_getElem?.1 A;have:=Pv.1 (I i x O);have E:=Fj.1 this.1
   exact ⟨⟨E.1,E.2.2⟩,this.2⟩
  ·unfold C6 at D;rw [List.getElem?_map] at D
   cases A:l[i]? with
   | none=>rw [A] at D;cases D
   | some x =>
    rw [A] at D;simp only [Option.map_some,Option.some.injEq] at D;have:=Abb h A;rw [Xs,Aaj,D] at this
    exact this
 ·rintro ⟨H,S,I,N,E⟩;have T:Bv (Im c l) l.length=0:=Ds.2 fun i O=>by
   obtain ⟨x,A⟩:=Aq O;obtain ⟨⟨a,b⟩,d⟩:=I x (mG A);rw [Rj A,Pv,Fj];refine ⟨⟨a,?_,b⟩,d⟩;rw [Xs,Aaj]
   exact W6.1 N i _ (by unfold C6;rw [List.getElem?_map,A];rfl)
  rw [Kh H tM T (Nat.le_refl _),E]
theorem Ahq {c:RulesD} {x:ItemD} (H:Dd c) (h:ItemOk (c.kZ.length:Int) x) (I:Hz c x=0):Sm c (B8 c x):=by
 obtain ⟨k,A⟩:=J5 h;have D:=(H.2 k (mG A)).1;have E:(B8 c x).size=k.base:=Jk A
 exact ⟨⟨h,I⟩,by rw [E];exact D,Or.inr rfl⟩
theorem Xf (l:List EntD) (p n:Nat) (fr:List EntD):C6 (C1 l p n fr)=(C6 l).take p++C6 fr++(C6 l).drop (p+n):=by
 unfold C1 C6;simp [List.map_take,List.map_drop]
theorem W5 {a b:List Nat} (h:a.Perm b) (A:b.Nodup):a.Nodup:=h.symm.nodup A
theorem Aky {c:RulesD} {l fr:List EntD} {p n:Nat} (h:∀ x∈l,Sm c x) (D:∀ x∈fr,Sm c x):∀ x∈C1 l p n fr,Sm c x:=fun x A=>by
 rcases U8 A with A | A
 ·exact h x A
 exact D x A
theorem Xg (c:RulesD) (xs:List ItemD):C6 (xs.map (B8 c))=xs.map ItemD.key:=by unfold C6;rw [List.map_map];rfl
theorem Aaq {xs:List ItemD} {k:Nat}:Kx xs k↔k∈xs.map ItemD.key:=by unfold Kx;rw [List.mem_map]
theorem Azo {c:RulesD} {l:List EntD} {xs:List ItemD} (N:Dd c) (h:Nv c l xs=0):(∀ x∈xs.map (B8 c),Sm c x)∧(xs.map ItemD.key).Nodup∧∀ k∈xs.map ItemD.key,¬ k∈C6 l:=by
 have H:∀ i x,xs[i]?=some x→E7 c x (Dj l x.key∨Kx (xs.take i) x.key)=0:=fun i x A=>by
  have:=Ds.1 h i (A3 A)
  rwa [Q0 A] at this
 refine ⟨fun y O=>?_,W6.2 fun i k D=>?_,fun k D=>?_⟩
 ·obtain ⟨x,A,rfl⟩:=List.mem_map.1 O;obtain ⟨i,I⟩:=List.mem_iff_getElem?.1 A;have:=Fj.1 (H i x I)
  exact Ahq N this.1 this.2.2
 ·rw [List.getElem?_map] at D
  cases A:xs[i]? with
  | none=>rw [A] at D;cases D
  | some x =>
   rw [A] at D;simp only [Option.map_some,Option.some.injEq] at D;subst D;intro E;rw [← List.map_take,← Aaq] at E
   exact (Fj.1 (H i x A)).2.1 (Or.inr E)
 ·obtain ⟨x,A,rfl⟩:=List.mem_map.1 D;obtain ⟨i,I⟩:=List.mem_iff_getElem?.1 A;intro E
  exact (Fj.1 (H i x I)).2.1 (Or.inl (Xs.2 E))
theorem Aam {c:RulesD} {l:List EntD} {a:Int} {xs:List ItemD} (h:Bh c l=0) (A:(Gy c l a xs).2=0):Bh c (Gy c l a xs).1=0:=by
 obtain ⟨E,V,O,S,Y⟩:=G8.1 h
 by_cases b1:Ay a 0 l.length
 ·by_cases b2:1024 < l.length+xs.length
  ·rw [Aow b1 b2] at A;cases A
  ·by_cases b3:Nv c l xs=0
   ·rcases U4 (C1 l a.toNat 0 (xs.map (B8 c))) with D | D
    ·rw [Aao b1 b2 b3 D];obtain ⟨H,I,N⟩:=Azo E b3;unfold Ay at b1;refine G8.2 ⟨E,by rw [Kp tM,lM];omega,Aky O H,?_,D⟩;rw [Xf,Xg,Nat.add_zero];refine W5 (b:=xs.map ItemD.key++C6 l) ?_ (List.nodup_append.2 ⟨I,S,fun x T y U e=>N x T (e ▸ U)⟩);have e:=List.take_append_drop a.toNat (C6 l)
     calc (C6 l).take a.toNat++xs.map ItemD.key++(C6 l).drop a.toNat
      _=(C6 l).take a.toNat++(xs.map ItemD.key++(C6 l).drop a.toNat):=List.append_assoc _ _ _
      _ |>.Perm ((xs.map ItemD.key++(C6 l).drop a.toNat)++(C6 l).take a.toNat):=List.perm_append_comm
      _ |>.Perm (xs.map ItemD.key++((C6 l).drop a.toNat++(C6 l).take a.toNat)):=by rw [List.append_assoc]
      _ |>.Perm (xs.map ItemD.key++((C6 l).take a.toNat++(C6 l).drop a.toNat)):=List.Perm.append_left _ List.perm_append_comm
      _ |>.Perm (xs.map ItemD.key++C6 l):=by rw [e]
    ·rw [Adt b1 b2 b3 tM] at A;cases A
   ·rw [Aov b1 b2 b3] at A;exact absurd A b3
 ·rw [Aan b1] at A;cases A
theorem Ara {c:RulesD} {l:List EntD} {a n:Int} (h:Bh c l=0) (A:(M9 l a n).2=0):Bh c (M9 l a n).1=0:=by
 obtain ⟨D,N,E,H,I⟩:=G8.1 h
 by_cases b1:Ay a n l.length
 ·rw [Zw b1];unfold Ay at b1;refine G8.2 ⟨D,by rw [Mh tM];omega,Aky E (by simp),?_,Agd I⟩;rw [Xf];refine List.Nodup.sublist ?_ H;have e:=List.take_append_drop a.toNat (C6 l);rw [show C6 []=[] from rfl,List.append_nil]
  conv=>rhs;rw [← e]
  refine (sR _).append ?_;rw [← List.drop_drop]
  exact List.drop_sublist _ _
 rw [Amq b1] at A;cases A
theorem Agy (l:List EntD) (p n q:Nat):(R0 l p n q).Perm l:=by
 unfold R0
 generalize hX:C1 l p n []=X
 have A:(C1 X q 0 ((l.drop p).take n)).Perm ((l.drop p).take n++X):=by
  unfold C1;rw [Nat.add_zero,List.append_assoc];refine List.perm_append_comm.trans ?_;rw [List.append_assoc];refine List.Perm.append_left _ (List.perm_append_comm.trans ?_);rw [List.take_append_drop]
 refine A.trans ?_;subst hX;unfold C1;rw [List.append_nil];refine List.perm_append_comm.trans ?_;rw [List.append_assoc]
 conv=>rhs;rw [← List.take_append_drop p l]
 refine List.Perm.append_left _ (List.perm_append_comm.trans ?_);rw [← List.drop_drop,List.take_append_drop]
theorem Arx {c:RulesD} {l:List EntD} {a n b:Int} (h:Bh c l=0) (D:(Iv l a n b).2=0):Bh c (Iv l a n b).1=0:=by
 obtain ⟨E,H,I,N,O⟩:=G8.1 h
 by_cases b1:Ay a n l.length∧Ay b 0 (l.length - n)
 ·rw [Agu b1];have A:=Agy l a.toNat n.toNat b.toNat
  exact G8.2 ⟨E,by rw [A.length_eq];exact H,fun x S=>I x (A.subset S),W5 (A.map _) N,Age O⟩
 rw [Aoi b1] at D;cases D
theorem Auh {c:RulesD} {l:List EntD} {p:Nat} {xs:List ItemD} (S:p+xs.length≤l.length) (h:∀ i x,xs[i]?=some x→∃ y,l[p+i]?=some y∧y.item.key=x.key):C6 (C1 l p xs.length (xs.map (B8 c)))=C6 l:=by
 rw [Xf,Xg]
 apply List.ext_getElem?
 intro i;have O:(C6 l).length=l.length:=by unfold C6;simp
 have H:((C6 l).take p).length=p:=by unfold C6;simp;omega
 rcases Nat.lt_or_ge i p with A | A
 ·rw [List.append_assoc,List.getElem?_append_left tM,List.getElem?_take,if_pos A]
 rcases Nat.lt_or_ge i (p+xs.length) with I | I
 ·rw [List.getElem?_append_left (by simp;omega),List.getElem?_append_right tM,H];obtain ⟨x,D⟩:=Aq (xs:=xs) (i:=i - p) tM;obtain ⟨y,E,N⟩:=h (i - p) x D;rw [show p+(i - p)=i by omega] at E;unfold C6;rw [List.getElem?_map,List.getElem?_map,D,E]
  simp [N]
 rw [List.getElem?_append_right (by simp;omega),List.getElem?_drop]
 congr 1
 simp;omega
theorem Auy {c:RulesD} {l:List EntD} {a:Int} {xs:List ItemD} (h:Bh c l=0) (A:(Jw c l a xs).2=0):Bh c (Jw c l a xs).1=0:=by
 obtain ⟨N,V,S,T,Y⟩:=G8.1 h
 by_cases b1:Ay a xs.length l.length
 ·by_cases b2:Bv (Js c l a.toNat xs) xs.length=0
  ·rcases U4 (C1 l a.toNat xs.length (xs.map (B8 c))) with H | H
   ·rw [Apv b1 b2 H];unfold Ay at b1;have I:∀ i x,xs[i]?=some x→ItemOk (c.kZ.length:Int) x∧¬ Qs l (a.toNat+i) x.key∧Hz c x=0:=fun i x D=>by
     have:=Ds.1 b2 i (A3 D);rw [Ye D] at this
     exact Avb.1 this
    refine G8.2 ⟨N,by rw [Kp tM,lM];omega,Aky S (fun y E=>?_),?_,H⟩
    ·obtain ⟨x,D,rfl⟩:=List.mem_map.1 E;obtain ⟨i,O⟩:=List.mem_iff_getElem?.1 D
     exact Ahq N (I i x O).1 (I i x O).2.2
    rw [Auh tM (fun i x D=>?_)]
    ·exact T
    obtain ⟨y,E⟩:=Aq (xs:=l) (i:=a.toNat+i) (by have:=A3 D;omega)
    exact ⟨y,E,Classical.byContradiction fun U=>(I i x D).2.1 ((Jp E).2 U)⟩
   rw [Aeh b1 b2 tM] at A;cases A
  unfold Jw at A;rw [if_neg (not_not_intro b1),if_pos b2] at A;exact absurd A b2
 rw [Apu b1] at A;cases A
structure NotD where
 kind:Nat
 at_:Int
 count:Int
 to:Int
 iZ:List ItemD
def Ct:Rd NotD:=fun G cs x=>∃ (a:Option Addr) (c:Nat),cs=[iB ((x.kind:Nat):Int),iI x.at_,iI x.count,iI x.to,vS a x.iZ.length c] ∧
 x.kind < 256∧Al .i64 x.at_∧Al .i64 x.count∧Al .i64 x.to∧x.iZ.length≤9223372036854775807∧Aj Bp 4 G (vS a x.iZ.length c) x.iZ
theorem Aa:Hx Ct:=by
 rintro G S cs x h ⟨a,c,A,D,E,H,I,N,O⟩
 exact ⟨a,c,A,D,E,H,I,N,O.mono Ac h⟩
def uAt (k:Nat):Prop:=k=1∨k=2∨k=3∨k=4
def uCo (k:Nat):Prop:=k=2∨k=3
def uTo (k:Nat):Prop:=k=3
def uIt (k:Nat):Prop:=k=1∨k=4∨k=5
instance (k:Nat):Decidable (uAt k):=by unfold uAt;infer_instance
instance (k:Nat):Decidable (uCo k):=by unfold uCo;infer_instance
instance (k:Nat):Decidable (uTo k):=by unfold uTo;infer_instance
instance (k:Nat):Decidable (uIt k):=by unfold uIt;infer_instance
def Fi (n:NotD):Prop:=(uAt n.kind∨n.at_=0)∧(uCo n.kind∨n.count=0)∧(uTo n.kind∨n.to=0)∧(uIt n.kind∨n.iZ.length=0)
instance (n:NotD):Decidable (Fi n):=by unfold Fi;infer_instance
def Dm (n:NotD):Int:=if n.kind < 1∨5 < n.kind then 1 else if Fi n then 0 else 5
theorem Adc {n:NotD} (h:n.kind < 1∨5 < n.kind):Dm n=1:=by unfold Dm;rw [if_pos h]
theorem Axy {n:NotD} (h:¬ (n.kind < 1∨5 < n.kind)) (A:¬ Fi n):Dm n=5:=by unfold Dm;rw [if_neg h,if_neg A]
theorem Axz {n:NotD} (h:¬ (n.kind < 1∨5 < n.kind)) (A:Fi n):Dm n=0:=by unfold Dm;rw [if_neg h,if_pos A]
theorem Ft {n:NotD}:Dm n=0↔(1≤n.kind∧n.kind≤5)∧Fi n:=by
 unfold Dm
 split
 ·rename_i h;exact ⟨fun A=>(by cases A),fun A=>by omega⟩
 rename_i h
 split
 ·rename_i A;exact ⟨fun _=>⟨tM,A⟩,fun _=>rfl⟩
 rename_i A;exact ⟨fun D=>(by cases D),fun D=>absurd D.2 A⟩
theorem Adb (n:NotD):0≤Dm n:=by unfold Dm;split;decide;split <;> decide
noncomputable def Ga (c:RulesD) (l:List EntD) (n:NotD):List EntD × Int :=
 if Dm n≠0 then ([],Dm n) else if n.kind=1 then Gy c l n.at_ n.iZ else if n.kind=2 then M9 l n.at_ n.count else if n.kind=3 then Iv l n.at_ n.count n.to
 else if n.kind=4 then Jw c l n.at_ n.iZ else Gy c [] 0 n.iZ
section
variable {c:RulesD} {l:List EntD} {n:NotD}
theorem Apz (h:Dm n≠0):Ga c l n=([],Dm n):=by unfold Ga;rw [if_pos h]
theorem Aio (h:Dm n=0) (A:n.kind=1):Ga c l n=Gy c l n.at_ n.iZ:=by unfold Ga;rw [if_neg (not_not_intro h),if_pos A]
theorem Abf (h:Dm n=0) (A:n.kind=2):Ga c l n=M9 l n.at_ n.count:=by unfold Ga;rw [if_neg (not_not_intro h),if_neg tM,if_pos A]
theorem Abe (h:Dm n=0) (A:n.kind=3):Ga c l n=Iv l n.at_ n.count n.to:=by unfold Ga;rw [if_neg (not_not_intro h),if_neg tM,if_neg tM,if_pos A]
theorem Aqb (h:Dm n=0) (A:n.kind=4):Ga c l n=Jw c l n.at_ n.iZ:=by unfold Ga;rw [if_neg (not_not_intro h),if_neg tM,if_neg tM,if_neg tM,if_pos A]
theorem Aqa (h:Dm n=0) (A:n.kind=5):Ga c l n=Gy c [] 0 n.iZ:=by unfold Ga;rw [if_neg (not_not_intro h),if_neg tM,if_neg tM,if_neg tM,if_neg tM]
theorem T2 (h:Bh c l=0) (A:(Ga c l n).2=0):Bh c (Ga c l n).1=0:=by
 by_cases h0:Dm n=0
 ·have E:=(Ft.1 h0).1
  rcases (show n.kind=1∨n.kind=2∨n.kind=3∨n.kind=4∨n.kind=5 by omega) with e | e | e | e | e
  ·rw [Aio h0 e] at A ⊢;exact Aam h A
  ·rw [Abf h0 e] at A ⊢;exact Ara h A
  ·rw [Abe h0 e] at A ⊢;exact Arx h A
  ·rw [Aqb h0 e] at A ⊢;exact Auy h A
  have D:=(Dz h).1;rw [Aqa h0 e] at A ⊢
  exact Aam (by rw [Kh D tD (i:=0) rfl (Nat.le_refl _)];rfl) A
 rw [Apz h0] at A;exact absurd A h0
end
noncomputable def Ck (c:RulesD) (l:List EntD) (ns:List NotD):Nat→List EntD × Int
 | 0=>(l,0)
 | i+1=>if (Ck c l ns i).2=0 then (match ns[i]? with
  | some n=>Ga c (Ck c l ns i).1 n
  | none=>Ck c l ns i) else Ck c l ns i
theorem Hk {c:RulesD} {l:List EntD} {ns:List NotD} {i:Nat} {n:NotD} (h:(Ck c l ns i).2=0) (A:ns[i]?=some n):Ck c l ns (i+1)=Ga c (Ck c l ns i).1 n:=by
 simp only [Ck,h,if_true,A]
theorem N5 {c:RulesD} {l:List EntD} {ns:List NotD} {i:Nat} (h:(Ck c l ns i).2≠0):∀ j,i≤j→Ck c l ns j=Ck c l ns i:=by
  intro j A
  induction j with
  | zero => have : i = 0 := by omega
            subst this;rfl
  | succ j ih =>
    rcases Nat.eq_or_lt_of_le A with e | e
    · rw [e]
    · have:=ih tM
      simp only [Ck,this,h,if_false]
theorem Pb {c:RulesD} {l:List EntD} {ns:List NotD} (h:Bh c l=0):∀ {i:Nat},(Ck c l ns i).2=0→Bh c (Ck c l ns i).1=0
 | 0,_=>h
 | i+1,hr=>by
  by_cases h0:(Ck c l ns i).2=0
  ·have ih:=Pb h h0
   cases hn:ns[i]? with
   | none=>simp only [Ck,h0,if_true,hn];exact ih
   | some n=>rw [Hk h0 hn] at hr ⊢;exact T2 ih hr
  ·rw [N5 h0 _ (Nat.le_succ i)] at hr;exact absurd hr h0
noncomputable def Jt (c:RulesD) (l:List EntD) (ns:List NotD):Nat→Nat
 | 0=>0
 | i+1=>if (Ck c l ns (i+1)).2=0 then i+1 else Jt c l ns i
theorem Amm {c:RulesD} {l:List EntD} {ns:List NotD}:∀ {i:Nat},(Ck c l ns i).2=0→Jt c l ns i=i
 | 0,_=>rfl
 | i+1,h=>by simp only [Jt,h,if_true]
theorem Awr {c:RulesD} {l:List EntD} {ns:List NotD} {i:Nat} (A:(Ck c l ns i).2=0) (h:(Ck c l ns (i+1)).2≠0):∀ j,i < j→Jt c l ns j=i:=by
 intro j E
 induction j with
 | zero=>omega
 | succ j ih =>
  have D:=N5 h (j+1) tM
  rcases Nat.eq_or_lt_of_le (show i≤j by omega) with e | e
  ·subst e;simp only [Jt,h,if_false];exact Amm A
  ·simp only [Jt,D,h,if_false];exact ih e
noncomputable def Ax (c:RulesD) (l:List EntD) (ns:List NotD):List EntD × Nat × Int :=
 if 32 < ns.length then ([],0,3) else if (Ck c l ns ns.length).2=0 then ((Ck c l ns ns.length).1,ns.length,0) else ([],Jt c l ns ns.length,(Ck c l ns ns.length).2)
section
variable {c:RulesD} {l:List EntD} {ns:List NotD}
theorem Aqd (h:32 < ns.length):Ax c l ns=([],0,3):=by unfold Ax;rw [if_pos h]
theorem Abh {i:Nat} (h:¬ 32 < ns.length) (A:(Ck c l ns i).2=0) (D:i=ns.length):Ax c l ns=((Ck c l ns i).1,ns.length,0):=by subst D;unfold Ax;rw [if_neg h,if_pos A]
theorem all_e {i:Nat} {n:NotD} {e:Int} (h:¬ 32 < ns.length) (E:(Ck c l ns i).2=0) (D:ns[i]?=some n) (N:(Ga c (Ck c l ns i).1 n).2=e) (O:e≠0):Ax c l ns=([],i,e):=by
 have H:=Hk E D;have A:(Ck c l ns (i+1)).2≠0:=by rw [H,N];exact O
 have I:=N5 A ns.length (by have:=A3 D;omega);unfold Ax;rw [if_neg h,if_neg (by rw [I];exact A),I,H,N,Awr E A ns.length (A3 D)]
end
open Go Go.Y Go.RowKit
section
variable {P:Program} {ops:Array Oper} {Q:Exit→Act→World→Prop} {n:Nat} {a:Act} {e:Env} {w0 w:World} {G:Av} {L:List Res} {r:List Oper} {d:Nat} {t:TypeId} {p:String} {af:Array Edge}
variable {ρ:Operand→Value} {dd:Option Tmp} {g:Option (Nat × Bool)}
theorem Gr {E et:TypeId} {i:TI} {x y:Operand} {m:Nat} {cs:Array Value} {us:List Value} {k:IntKind} {z:Int} {j:Nat} (I:tk P E=.array m et) (D:TOK P et i) (A:i.k.agg=some true)
  (S:ρ x=.agg cs) (T:ρ y=vI k z) (U:z=(j:Int)) (N:j < m) (O:cs.extract (j * i.size) (j * i.size+i.size)=us.toArray) :
  (execOp ρ ⟨dd,.index E x y,t,p,af,g⟩).run P w=.ok (.value (.agg us.toArray)) w:=by
 subst U;have V:(0:Int)≤(j:Int):=by omega
 have Y:(j:Int) < (m:Int):=by omega
 have H:(isAgg et).run P w=.ok true w:=Ue (by rw [D.k];exact A)
 simp [execOp,Instr.index,S,T,asIntOf,B9 (F7 I),N,D.sizeOf,part,H,O]
theorem Ajt {s O:TypeId} {x:Operand} {f D sz:Nat} {N:List (Nat × Nat × Nat)} {i:TI} {cs:Array Value} {v:Value} (V:tk P s=.struct N) (T:N[f]?=some (D,sz,O)) (Y:TOK P O i) (E:i.k.agg=some false)
  (hx:ρ x=.agg cs) (hv:cs[D]?=some v):(execOp ρ ⟨dd,.field s x f,t,p,af,g⟩).run P w=.ok (.value v) w:=by
 obtain ⟨U,hu,I⟩:=Ms V;subst I;simp only [List.getElem?_map,Option.map_eq_some_iff] at T;obtain ⟨fd,H,S⟩:=T;simp only [Prod.mk.injEq] at S;obtain ⟨rfl,h1,rfl⟩:=S;have A:U[f]?=some fd:=by simpa using H
 simp [execOp,Instr.field,hx,B9 hu,A,asAgg,Zl (w:=w) (by rw [Y.k];exact E) hv]
theorem Aqw {f:FuncId} {D:Operand} {args:List Operand} {I:Array TypeId} {vs:List Value} {Φ:Av→List Res→Value→Prop}
  (F:Fits n a e) (V:Ent P f) (Y:ev e D=some (.func (.func f) #[] #[])) (hv:evs e args=some vs) (hd:Nat.ble (d+1) n=true)
  (hs:Calls P f vs.toArray w (I5 w0 G Φ))
  (k:∀ v A E w' H,Gle G A→Mem w0 A E w'→Φ A E v→Fits n H ((d,v)::e)→rl P ops Q r H w') :
  rl P ops Q (⟨some d,.call ⟨.value D,args.toArray,I⟩,t,p,af,none⟩::r) a w:=by
 refine Jo (caps:=[]) F V Y hv hd (by rw [List.append_nil];exact hs) fun x w' N=>?_
 cases x with
 | returned v=>obtain ⟨A,E,S,T,U⟩:=N;exact ⟨v,rfl,fun H O=>k v A E w' H S T U O⟩
 | panicked c=>exact N.elim
 | outgrown=>exact N.elim
end
def Cb:Nat→List UInt8
 | 1=>[105,110,115,101,114,116]
 | 2=>[114,101,109,111,118,101]
 | 3=>[109,111,118,101]
 | 4=>[99,104,97,110,103,101]
 | 5=>[114,101,115,101,116]
 | _=>[]
def Gs:Nat→Nat
 | 1=>122
 | 2=>124
 | 3=>125
 | 4=>127
 | _=>129
def Lu:List Value:=[
 qT [],vB false,vB false,vB false,vB false,.nilFunc,
 qT [105,110,115,101,114,116],vB true,vB false,vB false,vB true,.func (.func 122) #[] #[],
 qT [114,101,109,111,118,101],vB true,vB true,vB false,vB false,.func (.func 124) #[] #[],
 qT [109,111,118,101],vB true,vB true,vB true,vB false,.func (.func 125) #[] #[],
 qT [99,104,97,110,103,101],vB true,vB false,vB false,vB true,.func (.func 127) #[] #[],
 qT [114,101,115,101,116],vB false,vB false,vB false,vB true,.func (.func 129) #[] #[]]
theorem Jr {k:Nat} (h:1≤k∧k≤5):Lu.toArray.extract (k * 6) (k * 6+6) =
  [qT (Cb k),vB (decide (uAt k)),vB (decide (uCo k)),vB (decide (uTo k)),vB (decide (uIt k)),.func (.func (Gs k)) #[] #[]].toArray:=by
 rcases (show k=1∨k=2∨k=3∨k=4∨k=5 by omega) with rfl | rfl | rfl | rfl | rfl <;> rfl
def uG (k i:Nat):Int:=match i with
 | 0=>if uAt k then 1 else 0
 | 1=>if uCo k then 1 else 0
 | 2=>if uTo k then 1 else 0
 | _=>if uIt k then 1 else 0
def nG (x:NotD) (i:Nat):Int:=match i with
 | 0=>x.at_
 | 1=>x.count
 | 2=>x.to
 | _=>((x.iZ.length:Nat):Int)
theorem Aix {k i:Nat} (h:i < 4):([iI (uG k 0),iI (uG k 1),iI (uG k 2),iI (uG k 3)]:List Value)[0+i]?=some (iI (uG k i)):=by
 rcases (show i=0∨i=1∨i=2∨i=3 by omega) with rfl | rfl | rfl | rfl <;> rfl
theorem n_cell {x:NotD} {i:Nat} (h:i < 4):([nG x 0,nG x 1,nG x 2,nG x 3]:List Int)[i]?=some (nG x i):=by
 rcases (show i=0∨i=1∨i=2∨i=3 by omega) with rfl | rfl | rfl | rfl <;> rfl
def rdZ:Rd Int:=fun _ cs x=>cs=[iI x]
theorem A1m {G:Av}:∀ {zs:List Int},Els rdZ 1 G (zs.map fun z=>iI z) zs
 | []=>rfl
 | z::zs=>⟨[iI z],zs.map fun z=>iI z,rfl,rfl,rfl,A1m⟩
theorem Aou {p:Prop} [Decidable p]:(if p then (1:Int) else 0)=0↔¬ p:=by split <;> simp_all
theorem form_of {x:NotD} (h:∀ j,j < 4→uG x.kind j=0→nG x j=0):Fi x:=by
 have A:=h 0 tM;have D:=h 1 tM;have E:=h 2 tM;have H:=h 3 tM;simp only [uG,nG,Aou] at A D E H;refine ⟨Classical.or_iff_not_imp_left.2 A,Classical.or_iff_not_imp_left.2 D,Classical.or_iff_not_imp_left.2 E,Classical.or_iff_not_imp_left.2 fun I=>by have:=H I;omega⟩
theorem Aya {x:NotD} {j:Nat} (O:j < 4) (A:uG x.kind j=0) (D:nG x j≠0):¬ Fi x:=by
 rintro ⟨E,H,I,N⟩
 rcases (show j=0∨j=1∨j=2∨j=3 by omega) with rfl | rfl | rfl | rfl <;> simp only [uG,nG,Aou] at A D
 ·exact D (E.resolve_left A)
 ·exact D (H.resolve_left A)
 ·exact D (I.resolve_left A)
 exact D (by have:=N.resolve_left A;omega)
noncomputable def L3 (c:RulesD) (l:List EntD) (n:NotD):List EntD × Int:=if Bh c l≠0 then ([],Bh c l) else Ga c l n
theorem appE_no {c:RulesD} {l:List EntD} {n:NotD} (h:Bh c l≠0):L3 c l n=([],Bh c l):=by unfold L3;rw [if_pos h]
theorem Vi {c:RulesD} {l:List EntD} {n:NotD} (h:Bh c l=0):L3 c l n=Ga c l n:=by unfold L3;rw [if_neg (not_not_intro h)]
theorem Awk {c:RulesD} {l:List EntD} {ns:List NotD}:Ck c l ns 0=(l,0):=rfl
theorem rem_00 {l:List EntD}:M9 l 0 0=(l,0):=by
 rw [Zw (by unfold Ay;omega)];unfold C1
 simp
theorem Aqc {c:RulesD} {l:List EntD} {ns:List NotD} {i:Nat} (h:¬ 32 < ns.length) (A:(Ck c l ns i).2=0) (H:i < ns.length) (D:(Ck c l ns (i+1)).2≠0):Ax c l ns=([],i,(Ck c l ns (i+1)).2):=by
 obtain ⟨x,E⟩:=Aq H;rw [Hk A E] at D ⊢
 exact all_e h A E rfl D
noncomputable def O2 (c:RulesD) (l:List EntD) (ns:List NotD):List EntD × Nat × Int:=if Bh c l≠0 then ([],0,Bh c l) else Ax c l ns
theorem allE_no {c:RulesD} {l:List EntD} {ns:List NotD} (h:Bh c l≠0):O2 c l ns=([],0,Bh c l):=by unfold O2;rw [if_pos h]
theorem Lt {c:RulesD} {l:List EntD} {ns:List NotD} (h:Bh c l=0):O2 c l ns=Ax c l ns:=by unfold O2;rw [if_neg (not_not_intro h)]
theorem Jj {P:Program} {E:Func} {n:Nat} {a:Act} {e:Env} {w0 w:World} {G:Av} {L:List Res} (F:Fits n a e) {t u I ty k b:Nat} {i:TI} {cs:List Value} {x y:Value} {R:Ending→World→Prop} (M:Mem w0 G L w) (S:L[k]?=some (rB b cs ty)) (O:E.results = #[.cell t ty,.tmp u,.tmp I])
  (D:TOK P ty i) (A:i.k.agg=some true) (H:cs.length=i.size) (T:Y.look e t=some (pP b)) (U:Y.look e u=some x) (V:Y.look e I=some y) (h:R (.returned (.tuple #[.agg cs.toArray,x,y])) w):bodyPost P E R .ret a w:=by
 refine Nh F (v:=.tuple #[.agg cs.toArray,x,y]) ?_ h;have N:(loadVar ty ⟨b,0,none⟩).run P w=.ok (.agg cs.toArray) w:=Hr D A H (M.cellsL S (by rw [List.drop_zero,← H,List.take_length]))
 simp [results,O,F.slot _ _ T,F.slot _ _ U,F.slot _ _ V,asAddr,N]
abbrev ti47:TI:=⟨.slice 65,1,24,sN⟩
theorem Du:TOK pG 47 ti47:=⟨kR,kR,kR⟩
abbrev Awa:TI:=⟨.struct [(0,1,5),(1,1,3),(2,1,3),(3,1,3),(4,1,22)],5,56,.agg #[iB 0,iI 0,iI 0,iI 0,sN]⟩
theorem Ba:TOK pG 65 Awa:=⟨kR,kR,kR⟩
abbrev ti67:TI:=⟨.func,1,8,.nilFunc⟩
theorem tok67:TOK pG 67 ti67:=⟨kR,kR,kR⟩
abbrev ti127:TI:=⟨.array 3 3,3,24,.agg #[iI 0,iI 0,iI 0]⟩
theorem Abv:TOK pG 127 ti127:=⟨kR,kR,kR⟩
abbrev ti138:TI:=⟨.struct [(0,1,9),(1,1,4),(2,1,4),(3,1,4),(4,1,4),(5,1,67)],6,32,.agg #[vT ⟨#[]⟩,vB false,vB false,vB false,vB false,.nilFunc]⟩
theorem C4:TOK pG 138 ti138:=⟨kR,kR,kR⟩
abbrev ti139:TI:=⟨.array 6 138,36,192,.agg #[vT ⟨#[]⟩,vB false,vB false,vB false,vB false,.nilFunc,vT ⟨#[]⟩,vB false,vB false,vB false,vB false,.nilFunc,vT ⟨#[]⟩,vB false,vB false,vB false,vB false,.nilFunc,vT ⟨#[]⟩,vB false,vB false,vB false,vB false,.nilFunc,vT ⟨#[]⟩,vB false,vB false,vB false,vB false,.nilFunc,vT ⟨#[]⟩,vB false,vB false,vB false,vB false,.nilFunc]⟩
theorem Ha:TOK pG 139 ti139:=⟨kR,kR,kR⟩
abbrev ti147:TI:=⟨.slice 150,1,24,sN⟩
theorem Ajg:TOK pG 147 ti147:=⟨kR,kR,kR⟩
abbrev ti150:TI:=⟨.ptr 3,1,8,vP none⟩
theorem Ajf:TOK pG 150 ti150:=⟨kR,kR,kR⟩
abbrev ti155:TI:=⟨.struct [(0,1,9),(1,1,3)],2,24,.agg #[vT ⟨#[]⟩,iI 0]⟩
theorem Aje:TOK pG 155 ti155:=⟨kR,kR,kR⟩
abbrev ti167:TI:=⟨.array 4 3,4,32,.agg #[iI 0,iI 0,iI 0,iI 0]⟩
theorem Cz:TOK pG 167 ti167:=⟨kR,kR,kR⟩
abbrev ti169:TI:=⟨.slice 3,1,24,sN⟩
theorem Ajd:TOK pG 169 ti169:=⟨kR,kR,kR⟩
abbrev Awc:TI:=⟨.struct [(0,1,4),(1,1,150)],2,16,.agg #[vB false,vP none]⟩
theorem I8:TOK pG 215 Awc:=⟨kR,kR,kR⟩
abbrev ti216:TI:=⟨.slice 215,1,24,sN⟩
theorem Avy:TOK pG 216 ti216:=⟨kR,kR,kR⟩
abbrev ti219:TI:=⟨.slice 138,1,24,sN⟩
theorem Avx:TOK pG 219 ti219:=⟨kR,kR,kR⟩
theorem ent21:Ent pG 21:=.mk' Tryz.func21 kR kR
theorem K1:Ent pG 22:=.mk' Tryz.func22 kR kR
theorem K0:Ent pG 25:=.mk' Tryz.func25 kR kR
theorem A0k:Ent pG 27:=.mk' Tryz.func27 kR kR
theorem A0j:Ent pG 28:=.mk' Tryz.func28 kR kR
theorem Uv:Ent pG 32:=.mk' Tryz.func32 kR kR
theorem Xz:Ent pG 33:=.mk' Tryz.func33 kR kR
theorem ent36:Ent pG 36:=.mk' Tryz.func36 kR kR
theorem Ahw:Ent pG 37:=.mk' Tryz.func37 kR kR
theorem Apq:Ent pG 38:=.mk' Tryz.func38 kR kR
theorem ent40:Ent pG 40:=.mk' Tryz.func40 kR kR
theorem ent69:Ent pG 69:=.mk' Tryz.func69 kR kR
theorem ent72:Ent pG 72:=.mk' Tryz.func72 kR kR
theorem ent73:Ent pG 73:=.mk' Tryz.func73 kR kR
theorem ent74:Ent pG 74:=.mk' Tryz.func74 kR kR
theorem Sb:Ent pG 75:=.mk' Tryz.func75 kR kR
theorem ent81:Ent pG 81:=.mk' Tryz.func81 kR kR
theorem ent82:Ent pG 82:=.mk' Tryz.func82 kR kR
theorem ent84:Ent pG 84:=.mk' Tryz.func84 kR kR
theorem ent85:Ent pG 85:=.mk' Tryz.func85 kR kR
theorem ent86:Ent pG 86:=.mk' Tryz.func86 kR kR
theorem ent87:Ent pG 87:=.mk' Tryz.func87 kR kR
theorem ent88:Ent pG 88:=.mk' Tryz.func88 kR kR
theorem ent92:Ent pG 92:=.mk' Tryz.func92 kR kR
theorem A0e:Ent pG 93:=.mk' Tryz.func93 kR kR
theorem ent122:Ent pG 122:=.mk' Tryz.func122 kR kR
theorem ent123:Ent pG 123:=.mk' Tryz.func123 kR kR
theorem ent124:Ent pG 124:=.mk' Tryz.func124 kR kR
theorem ent125:Ent pG 125:=.mk' Tryz.func125 kR kR
theorem ent126:Ent pG 126:=.mk' Tryz.func126 kR kR
theorem ent127:Ent pG 127:=.mk' Tryz.func127 kR kR
theorem ent128:Ent pG 128:=.mk' Tryz.func128 kR kR
theorem ent129:Ent pG 129:=.mk' Tryz.func129 kR kR
theorem Alp:Ent pG 132:=.mk' Tryz.func132 kR kR
theorem ent134:Ent pG 134:=.mk' Tryz.func134 kR kR
theorem ent135:Ent pG 135:=.mk' Tryz.func135 kR kR
theorem ent136:Ent pG 136:=.mk' Tryz.func136 kR kR
instance:CT pG 47 ti47:=⟨Du⟩
instance:CT pG 65 Awa:=⟨Ba⟩
instance:CT pG 67 ti67:=⟨tok67⟩
instance:CT pG 127 ti127:=⟨Abv⟩
instance:CT pG 138 ti138:=⟨C4⟩
instance:CT pG 139 ti139:=⟨Ha⟩
instance:CT pG 147 ti147:=⟨Ajg⟩
instance:CT pG 150 ti150:=⟨Ajf⟩
instance:CT pG 155 ti155:=⟨Aje⟩
instance:CT pG 167 ti167:=⟨Cz⟩
instance:CT pG 169 ti169:=⟨Ajd⟩
instance:CT pG 215 Awc:=⟨I8⟩
instance:CT pG 216 ti216:=⟨Avy⟩
instance:CT pG 219 ti219:=⟨Avx⟩
end Go.Proofs.YtmmhmcplegpenaaGreatDoor
