/- Own lemmas and walks. -/
import Derived.Test.YtmmhmcplegpenaaGreatDoorJ8
import Derived.Test.YtmmhmcplegpenaaGreatDoorJ9
set_option linter.unusedSimpArgs false
set_option linter.unusedVariables false
set_option maxRecDepth 10000
set_option maxHeartbeats 1600000
open Go.Value renaming slice→vS,string→vT,int→vI,bool→vB,pointer→vP
open Go.IntKind renaming i64→kI,u64→kU
open Go.Lib renaming cut→xC
open Go.Proofs.Tryz renaming prog→pG
open Go.Y.Res renaming blk→rB,row→rR
open Go.Y (pP qT iI iB iU sN)
open List renaming length_append→lA,length_cons→lC,length_nil→lN,length_take→lT,length_drop→lD,mem_of_getElem?→mG,mem_cons→mC,length_map→lM
namespace Go.Proofs.YtmmhmcplegpenaaGreatDoor
open Go Go.Y Go.Proofs
def Aiq (a:Option Addr) (k:Nat) (m:List Value):Res:=rR (vS a k k) k m 9 1
def rdC (Ls:List Res):Rd ItemD:=fun G cs x=>∃ (a:Option Addr) (m:List Value),cs=[iU ((x.key:Nat):Int),iB ((x.typ:Nat):Int),qT x.text,vS a x.mZ.length x.mZ.length] ∧
 x.key < 18446744073709551616∧x.typ < 256∧x.text.length≤9223372036854775807∧x.mZ.length≤9223372036854775807∧Aiq a x.mZ.length m∈Ls∧Els Cr 1 G m x.mZ
def Akj (Ls:List Res):Rd (ItemD × Bool):=fun G cs p=>(p.2=true→rdC Ls G cs p.1)∧(p.2=false→Bp G cs p.1)
theorem Ayi {A:List Res}:Hx (rdC A):=by
 rintro G T cs x h ⟨a,m,D,E,H,I,N,O,S⟩
 exact ⟨a,m,D,E,H,I,N,O,S.mono Au h⟩
theorem Arj {A:List Res} {r:Res} {G:Av} {cs:List Value} {p:ItemD × Bool} (h:Akj A G cs p):Akj (r::A) G cs p:=⟨fun e=>by
 obtain ⟨a,m,D,E,H,I,N,O,S⟩:=h.1 e
 exact ⟨a,m,D,E,H,I,N,List.mem_cons_of_mem _ O,S⟩,h.2⟩
theorem Ahz {Ls:List Res} {r:Res} {G:Av}:∀ {ys:List (ItemD × Bool)} {cs:List Value},Els (Akj Ls) 4 G cs ys→Els (Akj (r::Ls)) 4 G cs ys
 | [],cs,h=>h
 | y::ys,cs,h=>by
  obtain ⟨c,r',h1,h2,h3,h4⟩:=h
  exact ⟨c,r',h1,h2,Arj h3,Ahz h4⟩
def ysF (xs:List ItemD) (i:Nat):List (ItemD × Bool):=(xs.take i).map (·,true)++(xs.drop i).map (·,false)
theorem ysF_get {xs:List ItemD} {i:Nat} {x:ItemD} (h:xs[i]?=some x):(ysF xs i)[i]?=some (x,false):=by
 have A:=A3 h;unfold ysF;rw [List.getElem?_append_right (by simp;omega),lM,lT,Nat.min_eq_left tM,Nat.sub_self,List.getElem?_map,List.getElem?_drop,Nat.add_zero,h];rfl
theorem ysF_set {xs:List ItemD} {i:Nat} {x:ItemD} (h:xs[i]?=some x):(ysF xs i).set i (x,true)=ysF xs (i+1):=by
 have D:=A3 h;have E:((xs.take i).map (·,true)).length=i:=by simp;omega
 unfold ysF;have H:xs[i]=x:=by rw [List.getElem?_eq_getElem D] at h;simpa using h
 have A:xs.drop i=x::xs.drop (i+1):=by rw [List.drop_eq_getElem_cons D,H]
 rw [List.set_append_right _ _ tM,E,Nat.sub_self,List.take_add_one,h,A]
 simp
theorem Ahy {G:Av}:∀ {xs:List ItemD} {cs:List Value},Els Bp 4 G cs xs→Els (Akj []) 4 G cs (ysF xs 0)
 | [],cs,h=>h
 | x::xs,cs,h=>by
  obtain ⟨c,r',h1,h2,h3,h4⟩:=h
  exact ⟨c,r',h1,h2,⟨(fun e=>by cases e),fun _=>h3⟩,Ahy h4⟩
theorem A1n {G:Av} {D:List Res} {xs:List ItemD} {cs:List Value} {i:Nat} (h:Els (Akj D) 4 G cs (ysF xs i)) (A:xs.length≤i):Els (rdC D) 4 G cs xs:=by
 have e:ysF xs i=xs.map (·,true):=by unfold ysF;rw [List.take_of_length_le A,List.drop_eq_nil_of_le A];simp
 rw [e] at h;clear e A
 induction xs generalizing cs with
 | nil=>exact h
 | cons x xs ih =>
  obtain ⟨c,O,E,H,I,N⟩:=h
  exact ⟨c,O,E,H,I.1 rfl,ih N⟩
theorem A1v {w0 w:World} {G:Av} {L:List Res} (M:Mem w0 G L w) {a1:Option Addr} {c1:Nat} {xs:List ItemD} (S:Aj Bp 4 G (vS a1 xs.length c1) xs) (hN:xs.length≤1000000) (hM:∀ x∈xs,x.mZ.length≤1000000) :
  Calls pG 15 #[vS a1 xs.length c1] w (L4 w0 G fun L' v=>∃ (a:Option Addr) (cs:List Value) (E:List Res),v=vS a xs.length xs.length∧L' = (rR (vS a xs.length xs.length) xs.length cs 26 4::(E++L))∧Els (rdC E) 4 G cs xs):=by
 refine Ap (vs:=[_]) Tryz.func15 rfl (n:=24) rfl rfl<|wk ?_;refine Sy ent54 rfl rfl (Apj (xs:=xs) M S tM)<|?_;clear M;rintro _ _ w M ⟨H,V,rfl,rfl,ag⟩
 refine wk ?_;have E0:=Ahy ag;intro a F;refine Bd (fun m a' w'=>∃ (i:Nat),∃ (E:List Res),∃ (N:List Value),m=xs.length - i∧Fits 24 a' [(3,vS H xs.length xs.length),(7,vS H xs.length xs.length),(8,iI ((xs.length:Nat):Int)),(9,iI ((i:Nat):Int))]∧Mem w0 G (rR (vS H xs.length xs.length) (xs.length) (N) 26 4::(E++L)) w'∧(i≤xs.length)∧(Els (Akj E) 4 G N (ysF xs i))) _ ⟨0,[],V,rfl,fU,M,Nat.zero_le _,E0⟩ ?_;clear F M;rintro m a w ⟨i,E,N,rfl,F,M,hi,Eo⟩;revert a;refine wk ?_;refine qD rfl ?_ ?_
 ·intro h2;refine wk ?_;obtain ⟨D,O⟩:=Aq (xs:=xs) (i:=i) tM;have T:=ysF_get O;refine wk ?_;obtain ⟨a4,_,a3,an,_,ae,ab⟩:=M.atRow (k:=0) rfl tD Eo T;obtain ⟨ax,az,rfl,al,ar,av,ap,U⟩:=ab.2 rfl;refine wk ?_;refine Afi Dx ae 3 rfl rfl rfl rfl<|Sy ent55 rfl rfl (Api (xs:=D.mZ) M U (hM D (mG O)))<|?_;clear M;rintro _ _ w M ⟨I,A,rfl,rfl,ah⟩
  have aa:=Ahz (r:=rR (vS I D.mZ.length D.mZ.length) (D.mZ.length) (A) 9 1) Eo;obtain ⟨a5,_,aj,ao,_,a2,ac⟩:=M.atRow (k:=1) rfl tD aa T;obtain ⟨ay,a0,rfl,am,au,aw,aq,ak⟩:=ac.2 rfl;refine wk ?_;intro a F;refine Jn F M Dx rfl (k:=1) rfl aa aj T (f:=3) tD rfl rfl rfl rfl (X':=(D,true)) (fun ch _ h=>⟨fun _=>by obtain ⟨a_,c_,rfl,h1,h2,h3,h4,_⟩:=h.2 rfl;exact ⟨I,A,rfl,h1,h2,h3,h4,List.mem_cons_self,ah⟩,fun h_=>by cases h_⟩) ?_;clear F M a;intro Y w a M ai F;revert a;refine Ao<|e_bn<|Gd<|?_
  replace M:=M.perm (Ah _ 1 _ rfl);replace M:=z_M M;replace M:=z_M M;refine wk ?_;intro a F
  exact ⟨_,tM,i+1,(rR (vS I D.mZ.length D.mZ.length) (D.mZ.length) (A) 9 1::E),Y,rfl,fU,M,tM,by have h_:=ai;rwa [ysF_set O] at h_⟩
 intro h8;refine wk ?_;refine Af rfl rfl<|?_
 exact ⟨_,M,_,_,E,rfl,rfl,A1n Eo tM⟩
open Go Go.Y
def Nt (Ls:List Res):Rd EntD:=fun G cs x=>∃ c1,cs=c1++[iI x.size,vB x.known]∧rdC Ls G c1 x.item∧Al .i64 x.size
theorem Je {A:List Res}:Hx (Nt A):=by
 rintro G N cs x h ⟨D,E,H,I⟩
 exact ⟨D,E,Ayi _ _ _ _ h H,I⟩
def Aki (Ls:List Res):Rd (Option EntD):=fun G cs o=>match o with
 | some x=>Nt Ls G cs x
 | none=>True
theorem Aua {A:List Res}:Hx (Aki A):=by
 intro G E cs o h D
 cases o with
 | none=>trivial
 | some x=>exact Je _ _ _ _ h D
theorem Amw {D A:List Res} (U:∀ r∈D,r∈A) {G:Av} {cs:List Value} {x:ItemD} (h:rdC D G cs x):rdC A G cs x:=by
 obtain ⟨a,m,E,H,I,N,O,S,T⟩:=h
 exact ⟨a,m,E,H,I,N,O,U _ S,T⟩
theorem Axg {D A:List Res} (O:∀ r∈D,r∈A) {G:Av} {cs:List Value} {x:EntD} (h:Nt D G cs x):Nt A G cs x:=by
 obtain ⟨E,H,I,N⟩:=h
 exact ⟨E,H,Amw O I,N⟩
theorem Aau {Ls Ls':List Res} (hs:∀ r∈Ls,r∈Ls') {G:Av}:∀ {ys:List (Option EntD)} {cs:List Value},Els (Aki Ls) 6 G cs ys→Els (Aki Ls') 6 G cs ys
 | [],cs,h=>h
 | y::ys,cs,h=>by
  obtain ⟨c,r',h1,h2,h3,h4⟩:=h;refine ⟨c,r',h1,h2,?_,Aau hs h4⟩
  cases y with
  | none=>trivial
  | some x=>exact Axg hs h3
theorem Aav {Ls:List Res} {G:Av}:∀ {ys:List EntD} {cs:List Value},Els (Aki Ls) 6 G cs (ys.map some)→Els (Nt Ls) 6 G cs ys
 | [],cs,h=>h
 | y::ys,cs,h=>by
  obtain ⟨c,r',h1,h2,h3,h4⟩:=h
  exact ⟨c,r',h1,h2,h3,Aav h4⟩
theorem X7 {w0 w:World} {G:Av} {L Ls LL:List Res} (hsub:∀ x∈Ls,x∈LL) (M:Mem w0 G (LL++L) w):∀ {xs:List EntD} {cs:List Value},Els (Nt Ls) 6 G cs xs→Els Bj 6 (P0 G LL w) cs xs
 | [],cs,h=>h
 | x::xs,cs,h=>by
  obtain ⟨c,r',h1,h2,⟨c1,e1,⟨a,m,e2,k1,k2,k3,k4,hm,hE⟩,h3⟩,h4⟩:=h
  exact ⟨c,r',h1,h2,⟨c1,e1,⟨a,x.item.mZ.length,e2,k1,k2,k3,k4,Ks M (hsub _ hm) (hE.mono Au M.lend.1) tD⟩,h3⟩,X7 hsub M h4⟩
def C0 (a:Option Addr) (n:Nat) (cs:List Value):Res:=rR (vS a n n) n cs 69 6
theorem Wr {w0 w:World} {G:Av} {L A:List Res} {a:Option Addr} {cs:List Value} {xs:List EntD} (M:Mem w0 G ((C0 a xs.length cs::A)++L) w) (E:Els (Nt A) 6 G cs xs) :
  Aj Bj 6 (P0 G (C0 a xs.length cs::A) w) (vS a xs.length xs.length) xs :=
 Ks (t:=69) M (by simp [C0]) (X7 (fun x D=>List.mem_cons_of_mem _ D) M E) tD
theorem Bk (A R L:List Res):(A++(R++L)).Perm (R++(A++L)):=by
 rw [← List.append_assoc,← List.append_assoc]
 exact List.Perm.append_right L List.perm_append_comm
section
variable {α β:Type}
def Qv (f:α→β) (z:β) (xs:List α) (i:Nat):List β:=(xs.take i).map f++List.replicate (xs.length - i) z
theorem Agx (f:α→β) (z:β) (xs:List α):Qv f z xs 0=List.replicate xs.length z:=by simp [Qv]
theorem Aol (f:α→β) (z:β) (xs:List α) (i:Nat):(Qv f z xs i).length=xs.length:=by simp [Qv];omega
theorem Aok {f:α→β} {z:β} {xs:List α} {i:Nat} {x:α} (h:xs[i]?=some x):(Qv f z xs i).set i (f x)=Qv f z xs (i+1):=by
 have D:=A3 h;have A:((xs.take i).map f).length=i:=by simp;omega
 have e:xs.length - i=(xs.length - (i+1))+1:=by omega
 unfold Qv;rw [List.set_append_right _ _ tM,A,Nat.sub_self,List.take_add_one,h,e,List.replicate_succ,List.set_cons_zero]
 simp
theorem Aom {f:α→β} {z:β} {xs:List α} {i:Nat} (h:xs.length≤i):Qv f z xs i=xs.map f:=by
 unfold Qv;rw [List.take_of_length_le h,show xs.length - i=0 by omega];simp
end
def doR (cE:Int) (ins:Bool) (cnt:Int) (f:Nat→Int) (n:Nat) (out:List EntD):List EntD × Int :=
 if cE≠0 then ([],cE) else if ins=false then ([],4) else if 1024 < cnt then ([],3) else if Bv f n≠0 then ([],Bv f n) else if Dp out≠0 then ([],Dp out) else (out,0)
section
variable {cE:Int} {ins:Bool} {cnt:Int} {f:Nat→Int} {n:Nat} {out:List EntD}
theorem A1q (h:cE=0) (A:ins=false):doR cE ins cnt f n out=([],4):=by unfold doR;rw [if_neg (not_not_intro h),if_pos A]
theorem do_3 (h:cE=0) (A:ins=true) (D:1024 < cnt):doR cE ins cnt f n out=([],3):=by unfold doR;rw [if_neg (not_not_intro h),if_neg (by simp [A]),if_pos D]
theorem do_e {i:Nat} {z:Int} (h:cE=0) (E:ins=true) (H:¬ 1024 < cnt) (I:Bv f i=0) (N:i < n) (A:f i=z) (D:z≠0):doR cE ins cnt f n out=([],z):=by
 have:=Kz I N (by rw [A];exact D);unfold doR;rw [if_neg (not_not_intro h),if_neg (by simp [E]),if_neg H,if_pos (by rw [this,A];exact D),this,A]
theorem Auu (h:cE=0) (A:ins=true) (D:¬ 1024 < cnt) (E:Bv f n=0) (H:Dp out≠0):doR cE ins cnt f n out=([],Dp out):=by
 unfold doR;rw [if_neg (not_not_intro h),if_neg (by simp [A]),if_neg D,if_neg (not_not_intro E),if_pos H]
theorem P1 (h:cE=0) (A:ins=true) (D:¬ 1024 < cnt) (E:Bv f n=0) (H:Dp out=0):doR cE ins cnt f n out=(out,0):=by
 unfold doR;rw [if_neg (not_not_intro h),if_neg (by simp [A]),if_neg D,if_neg (not_not_intro E),if_neg (not_not_intro H)]
end
open Classical in
noncomputable def inE (c:RulesD) (x:ItemD) (k:Int):Int:=if ¬ ItemOk (c.kZ.length:Int) x then 6 else if k≠0 then k else Hz c x
theorem Aoz {c:RulesD} {x:ItemD} {k:Int} (h:¬ ItemOk (c.kZ.length:Int) x):inE c x k=6:=by unfold inE;rw [if_pos h]
theorem Azp {c:RulesD} {x:ItemD} {k:Int} (h:ItemOk (c.kZ.length:Int) x) (A:k≠0):inE c x k=k:=by unfold inE;rw [if_neg (not_not_intro h),if_pos A]
theorem Aoy {c:RulesD} {x:ItemD} {k:Int} (h:ItemOk (c.kZ.length:Int) x) (A:k=0):inE c x k=Hz c x:=by unfold inE;rw [if_neg (not_not_intro h),if_neg (not_not_intro A)]
noncomputable def Lz (c:RulesD) (xs:List ItemD) (fK:Nat→Int) (i:Nat):Int:=match xs[i]? with
 | some x=>inE c x (fK i)
 | none=>0
theorem Xr {c:RulesD} {xs:List ItemD} {fK:Nat→Int} {i:Nat} {x:ItemD} (h:xs[i]?=some x):Lz c xs fK i=inE c x (fK i):=by unfold Lz;rw [h]
theorem Aox {c:RulesD} {xs:List ItemD} {fK:Nat→Int} {n:Nat} (h:Bv (Lz c xs fK) n=0) (I:xs.length≤n):∀ x∈xs,ItemOk (c.kZ.length:Int) x:=by
 intro x H;obtain ⟨i,D⟩:=List.mem_iff_getElem?.1 H;have A:=Ds.1 h i (by have:=A3 D;omega);rw [Xr D] at A
 exact Classical.byContradiction fun E=>by rw [Aoz E] at A;cases A
theorem in_step {c:RulesD} {xs:List ItemD} {fK:Nat→Int} {i:Nat} {x:ItemD} (h:Bv (Lz c xs fK) i=0) (A:xs[i]?=some x) (D:inE c x (fK i)=0):Bv (Lz c xs fK) (i+1)=0:=by rw [F9 h,Xr A,D]
variable {w0 w:World} {G:Av} {L:List Res}
theorem Xu (M:Mem w0 G L w) {c:RulesD} {N:Option Addr} {O:Nat} (SC:Aj Cq 9 G (vS N c.kZ.length O) c.kZ) {ta:Option Addr} {tc:Nat} {xs:List ItemD} (T:Aj Bp 4 G (vS ta xs.length tc) xs) (hN:xs.length≤1000000) (aA:∀ x∈xs,ItemOk (c.kZ.length:Int) x):Calls pG 160 #[.agg #[vS N c.kZ.length O,iI c.cap],vS ta xs.length tc] w (Ret w0 G L fun G' v=>∃ (a:Option Addr) (cc:Nat),v=vS a (xs.map (B8 c)).length cc∧Aj Bj 6 G' (vS a (xs.map (B8 c)).length cc) (xs.map (B8 c))):=by
 have bT:=T.bound;refine Ap (vs:=[_,_]) Tryz.func160 rfl (n:=32) rfl rfl<|?_
 refine Bt<|?_
 refine Ch M rfl rfl rfl<|?_;clear M;intro b1 w M
 refine wk ?_;intro a F;refine rl_make (rd:=Bj) (Z:=(⟨⟨0,0,[],[]⟩,0,false⟩:EntD)) F M Db.k Cn rfl tD rfl rfl (l:=xs.length) tM rfl tM (by show 72 * _≤_;omega) tM (by simp [ti69,Value.cells,Value.oneCell']) (⟨[iU 0,iB 0,qT [],sN],rfl,⟨none,0,rfl,tD,tD,tD,tD,Aj.nil⟩,⟨tD,tD⟩⟩) rfl ?_;clear F M a;intro v2 U w a M a5 F;obtain ⟨Y,ab,rfl,a8,a7,aL⟩:=M.rS (k:=0) rfl;revert a;refine wk ?_;have E0:Els Bj 6 G U (Qv (B8 c) (⟨⟨0,0,[],[]⟩,0,false⟩:EntD) xs 0):=by rw [Agx];exact a5
 intro a F;refine Bd (fun m a' w'=>∃ (i:Nat),∃ (aa:List Value),m=xs.length - i∧Fits 32 a' [(2,pP b1),(5,vS Y xs.length ab),(11,vS ta xs.length tc),(12,iI ((xs.length:Nat):Int)),(13,iI ((i:Nat):Int))]∧Mem w0 G (rR (vS Y xs.length ab) (xs.length) (aa) 69 6::rB b1 [vS N c.kZ.length O,iI c.cap] 51::L) w'∧(i≤xs.length)∧(Els Bj 6 G aa (Qv (B8 c) (⟨⟨0,0,[],[]⟩,0,false⟩:EntD) xs i))) _ ⟨0,U,rfl,fU,M,Nat.zero_le _,E0⟩ ?_;clear F M;rintro m a w ⟨i,aa,rfl,F,M,hi,Eo⟩;revert a;refine wk ?_;refine qD rfl ?_ ?_
 ·intro h3;refine wk ?_;obtain ⟨A,ae⟩:=Aq (xs:=xs) (i:=i) tM;obtain ⟨k,hK⟩:=J5 (aA A (mG ae));have bg:=Aol (B8 c) (⟨⟨0,0,[],[]⟩,0,false⟩:EntD) xs i;refine wk ?_;obtain ⟨ba,bh,_,aY,_,aV,au⟩:=T.at ae;obtain ⟨D,E,rfl,ax,az,a1,aN,S⟩:=au;have I:(A.key < 18446744073709551616∧A.typ < 256∧A.text.length≤9223372036854775807):=⟨ax,az,a1⟩;refine wk ?_;refine B0 M Bc rfl rfl<|?_;clear M;intro b5 w M
  refine Dq rfl<|?_
  intro a F;refine Bf F M Bc 0 ?_;clear F M a;intro w a M F;revert a;refine Ao<|Gd<|?_
  refine fun a F=>Dv [(true,0),(true,1),(true,2),(true,3),(true,4),(true,5),(true,6),(true,7),(true,8),(true,9),(true,10),(true,11),(false,12)] (Keep G [rB b5 [iU ((A.key:Nat):Int),iB ((A.typ:Nat):Int),qT A.text,vS D A.mZ.length E] 26,rB b1 [vS N c.kZ.length O,iI c.cap] 51]) rfl kR kF (Aw (M.drew _)) ?_;replace M:=M.drew (w.drawn+1);revert a;refine wk ?_;obtain ⟨bb,bi,_,aZ,_,aW,av⟩:=SC.at hK;obtain ⟨aE,ag,aq,ao⟩:=av;obtain ⟨aT,aU,aP,aQ,rfl,aJ,aK,aB,aC⟩:=D7 aq;subst ag;have aH:-9223372036854775808≤k.base∧k.base≤9223372036854775807:=ao;refine wk ?_;refine l_r (fun a F w M=>Am (cs:=[iU ((A.key:Nat):Int),iB ((A.typ:Nat):Int),qT A.text,vS D A.mZ.length E,iI k.base,vB false]) Cn.k rfl Cn (F.evp rfl) rfl) rfl<|?_
  obtain ⟨H,V⟩:=Aq (xs:=(Qv (B8 c) (⟨⟨0,0,[],[]⟩,0,false⟩:EntD) xs i)) (i:=i) tM;obtain ⟨be,_,a6,aM,_,aX,aw⟩:=M.atRow (k:=1) rfl tD Eo V;obtain ⟨aF,ah,ar,ap⟩:=aw;obtain ⟨aR,aS,rfl,ay,a0,a2,aO,aD⟩:=ar;subst ah;have aG:(H.item.key < 18446744073709551616∧H.item.typ < 256∧H.item.text.length≤9223372036854775807):=⟨ay,a0,a2⟩;have aI:-9223372036854775808≤H.size∧H.size≤9223372036854775807:=ap;refine wk ?_;refine l_a rfl<|fun a F=>?_
  refine M7 F M Cn (k:=1) rfl rfl Eo a6 (A3 V) rfl rfl (us:=[iU ((A.key:Nat):Int),iB ((A.typ:Nat):Int),qT A.text,vS D A.mZ.length E,iI k.base,vB false]) rfl rfl tS (X':=(B8 c A)) (⟨[iU ((A.key:Nat):Int),iB ((A.typ:Nat):Int),qT A.text,vS D A.mZ.length E],by rw [show (B8 c A).size=k.base from Jk hK];rfl,⟨D,E,rfl,I.1,I.2.1,I.2.2,(by have h_:=S.bound;show A.mZ.length≤_;omega),S⟩,Ob SC hK⟩) ?_;clear F M a;intro am w a M a4 F;revert a;refine Ao<|?_
  refine eQ (Aw M)<|wk ?_;intro a F
  exact ⟨_,tM,i+1,am,rfl,fU,(M.wn tW),tM,by have h_:=a4;rwa [Aok ae] at h_⟩
 intro bf;refine wk ?_;refine Af rfl rfl<|?_
 rw [Aom tM] at Eo;obtain ⟨a9,aj,al,an,ac,ai,ak,M⟩:=M.fZ Ab (k:=0) rfl Eo tD;clear ai al an;have a3:(xs.map (B8 c)).length=xs.length:=lM _
 exact ⟨aj,(Gle.refl _).trans ac,M.wn dS1,Y,ab,by rw [a3],by rw [a3];exact ak⟩
theorem Jm (M:Mem w0 G L w) {a1:Option Addr} {c1:Nat} {l:List EntD} (S:Aj Bj 6 G (vS a1 l.length c1) l) {a2:Option Addr} {c2:Nat} {fr:List EntD} (R:Aj Bj 6 G (vS a2 fr.length c2) fr) {p n:Nat} (hp:p+n≤l.length) (hl:l.length≤1000000) (hf:fr.length≤1000000):Calls pG 119 #[vS a1 l.length c1,iI ((p:Nat):Int),iI ((n:Nat):Int),vS a2 fr.length c2] w
  (Ret w0 G L fun G' v=>∃ (a:Option Addr) (cc:Nat),v=vS a (C1 l p n fr).length cc∧Aj Bj 6 G' (vS a (C1 l p n fr).length cc) (C1 l p n fr)):=by
 refine Ap (vs:=[_,_,_,_]) Tryz.func119 rfl (n:=33) rfl rfl<|wk ?_;have aq:(((l.length:Nat):Int) - ((n:Nat):Int):Int)=((l.length - n:Nat):Int):=by omega
 intro a F;rw [aq] at F;revert a;refine wk ?_;intro a F;refine Aww F M Db.k Cn rfl rfl tM rfl (c:=(l.length - n)+fr.length) tM (by show 72 * _≤_;omega) tM rfl ?_;clear F M a;intro a6 w a M F;revert a;refine wk ?_;obtain ⟨a0,a7,aa,ay,ar,ac⟩:=S.partT (p) tM;refine Ak (fun a F=>Gu Db.k Cn aa (F.ev rfl) (h:=p) (kl:=.i64) (zl:=0) rfl ⟨(F.ev rfl),tM⟩ tM tM) rfl<|fun a F=>?_
 refine Kc F M (k:=0) rfl Db.k Cn rfl rfl tD rfl ac rfl tX tO rfl ?_;clear F M a;intro v4 A w a M I F;have I:=Els.append Els.nil I;obtain ⟨a4,a9,rfl,an,ak,av⟩:=M.rS (k:=0) rfl;revert a;refine wk ?_;intro a F;refine Kc F M (k:=0) rfl Db.k Cn rfl rfl tD rfl R rfl tX tO rfl ?_;clear F M a;intro v5 D w a M N F;have N:=Els.append I N;obtain ⟨a5,aA,rfl,ao,al,aw⟩:=M.rS (k:=0) rfl;revert a;refine wk ?_;obtain ⟨a3,a8,ab,az,au,ae⟩:=S.partD (p+n) tM;refine Ak (fun a F=>Gu Db.k Cn ab (F.ev rfl) (h:=l.length) (kh:=.i64) (zh:=0) ⟨(F.ev rfl),tM⟩ tM tM tM) rfl<|fun a F=>?_
 refine Kc F M (k:=0) rfl Db.k Cn rfl rfl tD rfl ae rfl tX tO rfl ?_;clear F M a;intro v7 E w a M O F;have O:=Els.append N O;obtain ⟨ag,ai,rfl,ap,am,ax⟩:=M.rS (k:=0) rfl;revert a;refine wk ?_;refine Af rfl rfl<|?_
 have Ex:Els Bj 6 G (((([])++A)++D)++E) (C1 l p n fr):=by have h_:Els Bj 6 G (((([])++A)++D)++E) (((([])++(l.take (p)))++fr)++(l.drop (p+n))):=O;simpa only [List.nil_append,C1] using h_
 obtain ⟨H,Y,ah,aj,U,V,T,M⟩:=M.fZ Ab (k:=0) rfl Ex tD;clear V ah aj;rw [H] at T
 exact ⟨Y,(Gle.refl _).trans U,M.wn (sR _),ag,ai,by rw [H],T⟩
theorem Se {p:Prop} [Decidable p] {b:Bool} (h:p↔b=true):decide p=b:=by
 by_cases hp:p
 ·rw [decide_eq_true hp,h.1 hp]
 ·cases b with
  | true=>exact absurd (h.2 rfl) hp
  | false=>exact decide_eq_false hp
theorem Jl (M:Mem w0 G L w) {z n m:Int} (hm:0≤m∧m≤9223372036854775807):Calls pG 117 #[iI z,iI n,iI m] w (B5 w0 G L fun v=>v=vB (decide (Ay z n m))):=by
 refine Ap (vs:=[_,_,_]) Tryz.func117 rfl (n:=25) rfl rfl<|wk ?_
 rcases bE (decide (0≤z)) with A | N
 ·skip
  have O:=dT A;refine wk ?_
  rcases bE (decide (z≤m)) with D | I
  ·skip
   have S:=dT D;refine wk ?_
   rcases bE (decide (0≤n)) with E | H
   ·skip
    have T:=dT E;refine wk ?_;refine Af rfl rfl<|?_
    exact ⟨M,by rw [Se (show Ay z n m↔((decide (n≤m - z))=true) by unfold Ay;first | (simp only [decide_eq_true_eq];omega) | (simp only [Bool.false_eq_true,iff_false];omega))]⟩
   have U:=dF H;refine wk ?_;refine Af rfl rfl<|?_
   exact ⟨M,by rw [Se (show Ay z n m↔(false=true) by unfold Ay;first | (simp only [decide_eq_true_eq];omega) | (simp only [Bool.false_eq_true,iff_false];omega))]⟩
  have V:=dF I;refine wk ?_;refine Af rfl rfl<|?_
  exact ⟨M,by rw [Se (show Ay z n m↔(false=true) by unfold Ay;first | (simp only [decide_eq_true_eq];omega) | (simp only [Bool.false_eq_true,iff_false];omega))]⟩
 have Y:=dF N;refine wk ?_;refine Af rfl rfl<|?_
 exact ⟨M,by rw [Se (show Ay z n m↔(false=true) by unfold Ay;first | (simp only [decide_eq_true_eq];omega) | (simp only [Bool.false_eq_true,iff_false];omega))]⟩
theorem perm_in (D A E L:List Res):(D++(A++(E++L))).Perm (A++((D++E)++L)):=by
 rw [List.append_assoc];exact Bk D A (E++L)
theorem Ru {w0 w:World} {G:Av} {L:List Res} (M:Mem w0 G L w) {a1:Option Addr} {c1:Nat} {l:List EntD} (S:Aj Bj 6 G (vS a1 l.length c1) l) (hl:l.length≤1000000) (aB:∀ x∈l,x.item.mZ.length≤1000000):Calls pG 159 #[vS a1 l.length c1] w (I5 w0 G fun G' L' v=>∃ (a:Option Addr) (cs:List Value) (Ls:List Res),v=.agg #[vS a l.length l.length]∧L' = (C0 a l.length cs::(Ls++L))∧Els (Nt Ls) 6 G' cs l):=by
 have bS:=S.bound;refine Ap (vs:=[_]) Tryz.func159 rfl (n:=34) rfl rfl<|?_
 refine Bt<|?_
 refine B0 M Az rfl rfl<|?_;clear M;intro b1 w M
 refine wk ?_;refine qD rfl ?_ ?_
 ·intro h3;refine Bt<|?_
  refine Ak (fun a F=>Am (cs:=[sN]) Az.k rfl Az (F.evp rfl) rfl) rfl<|fun a F=>?_
  refine Bf F M Az 0<|sZ ?_;clear F M a;intro w M;refine wk ?_;refine fun a F=>Hf F M (k:=0) rfl rfl Az rfl rfl rfl ?_;have a8:l=[]:=List.eq_nil_of_length_eq_zero tM;subst a8;have M:=(M.wn (cN (sR _))).nilrow 69 6
  exact ⟨_,_,(Gle.refl _),M,none,[],[],rfl,rfl,Els.nil⟩
 intro h4;refine wk ?_;intro a F;refine Rq (rd:=(Aki [])) (Z:=(none:Option EntD)) F M Db.k Cn rfl tD rfl rfl (l:=l.length) tM rfl tM (by show 72 * _≤_;omega) tM (by simp [ti69,Value.cells,Value.oneCell']) (trivial) rfl ?_;clear F M a;intro N aa w a M a7 F;revert a;refine wk ?_;have E0:Els (Aki []) 6 G aa (Qv some none l 0):=by rw [Agx];exact a7
 intro a F;refine Bd (fun m a' w'=>∃ (i:Nat),∃ (Ls:List Res),∃ (U:List Value),m=l.length - i∧∃ G6,Gle G G6∧Fits 34 a' [(2,pP b1),(3,vS (some ⟨N,0,none⟩) (l.length) (l.length)),(13,vS a1 l.length c1),(14,iI ((l.length:Nat):Int)),(15,iI ((i:Nat):Int))]∧Mem w0 G6 (rR (vS (some ⟨N,0,none⟩) (l.length) (l.length)) (l.length) (U) 69 6::rB b1 [sN] 54::(Ls++L)) w'∧(i≤l.length)∧(Els (Aki Ls) 6 G6 U (Qv some none l i))) _ ⟨0,[],aa,rfl,G,Gle.refl _,fU,M,Nat.zero_le _,E0⟩ ?_;clear F M;rintro m a w ⟨i,Ls,U,rfl,G6,ak,F,M,hi,Eo⟩;replace S:=S.mono Ab ak;revert a;refine wk ?_;refine qD rfl ?_ ?_
 ·intro h7;refine wk ?_;obtain ⟨A,al⟩:=Aq (xs:=l) (i:=i) tM;refine wk ?_;obtain ⟨aQ,aU,_,aP,_,Ae8,a3⟩:=S.at al;obtain ⟨aL,am,a2,ab⟩:=a3;obtain ⟨H,I,rfl,ae,ag,ah,a4,SMe8⟩:=a2;subst am;have aN:(A.item.key < 18446744073709551616∧A.item.typ < 256∧A.item.text.length≤9223372036854775807):=⟨ae,ag,ah⟩;have aO:-9223372036854775808≤A.size∧A.size≤9223372036854775807:=ab;refine wk ?_;refine B0 M Cn rfl rfl<|?_;clear M;intro b9 w M
  refine Dq rfl<|?_
  intro a F;refine Bf F M Cn 0<|sZ ?_;clear F M a;intro w M;refine wk ?_;intro a F;refine Ar F M Ci.k Bc rfl rfl (cs:=[iU ((A.item.key:Nat):Int),iB ((A.item.typ:Nat):Int),qT A.item.text,vS H A.item.mZ.length I]) rfl rfl tS tD rfl ?_;clear F M a;intro aV w a M F;obtain ⟨aI,aM,rfl,a6,a5,a9⟩:=M.rS (k:=0) rfl;have Eb:Els Bp 4 G6 [iU ((A.item.key:Nat):Int),iB ((A.item.typ:Nat):Int),qT A.item.text,vS H A.item.mZ.length I] [A.item]:=⟨[iU ((A.item.key:Nat):Int),iB ((A.item.typ:Nat):Int),qT A.item.text,vS H A.item.mZ.length I],[],rfl,rfl,⟨H,I,rfl,ae,ag,ah,a4,SMe8⟩,rfl⟩;obtain ⟨aC,Y,az,a0,E,an,ay,M⟩:=M.fZ Ac (k:=0) rfl Eb tD;clear an az a0;replace Eo:=Eo.mono Aua E;replace Ae8:=Ae8.mono E;revert a;refine Sy A1a rfl rfl (A1v (xs:=[A.item]) M ay (by show 1≤1000000;omega) (fun x hx=>by rw [List.mem_singleton.1 hx];exact aB A (mG al)))<|?_;clear M;rintro _ _ w M ⟨ac,aR,L1,rfl,rfl,Ec⟩
  have M:=M.perm ((perm_in L1 [rB b9 [iU ((A.item.key:Nat):Int),iB ((A.item.typ:Nat):Int),qT A.item.text,vS H A.item.mZ.length I,iI A.size,vB A.known] 69,rR (vS (some ⟨N,0,none⟩) (l.length) (l.length)) (l.length) (U) 69 6,rB b1 [sN] 54] Ls L).cons _);obtain ⟨Ln,V⟩:∃ Ln,Ln=L1++Ls:=⟨_,rfl⟩;intro a F;rw [← V] at M;have aD:∀ r∈Ls,r∈Ln:=fun r hr=>by rw [V];exact List.mem_append_right _ hr
  have aE:∀ r∈L1,r∈Ln:=fun r hr=>by rw [V];exact List.mem_append_left _ hr
  clear V;replace M:=z_M M;obtain ⟨aJ,_,aG,T,_,av,⟨D,au,rfl,ao,ap,aq,ar,T,aj⟩⟩:=M.atRow (k:=0) rfl tD Ec (rfl:[A.item][0]?=some A.item);revert a;refine wk ?_;refine Ak (fun a F=>Cv Bc rfl (F.ev rfl) (cs:=[iU ((A.item.key:Nat):Int),iB ((A.item.typ:Nat):Int),qT A.item.text,vS D A.item.mZ.length A.item.mZ.length]) rfl (Yg av 0 tM rfl)) rfl<|wk ?_;intro a F;refine Bf F M Bc 1<|sZ ?_;clear F M a;intro w M;refine Ao<|Gd<|?_
  have En:=Aau aD Eo;have aT:=Aol some none l i;refine wk ?_;obtain ⟨aH,O⟩:=Aq (xs:=(Qv some none l i)) (i:=i) tM;obtain ⟨aK,_,ax,aA,_,aF,_⟩:=M.atRow (k:=2) rfl tD En O;refine wk ?_;intro a F;refine M7 F M Cn (k:=2) rfl rfl En ax (A3 O) rfl rfl (us:=[iU ((A.item.key:Nat):Int),iB ((A.item.typ:Nat):Int),qT A.item.text,vS D A.item.mZ.length A.item.mZ.length,iI A.size,vB A.known]) rfl rfl tS (X':=(some A)) (show Nt Ln Y [iU ((A.item.key:Nat):Int),iB ((A.item.typ:Nat):Int),qT A.item.text,vS D A.item.mZ.length A.item.mZ.length,iI A.size,vB A.known] A from ⟨[iU ((A.item.key:Nat):Int),iB ((A.item.typ:Nat):Int),qT A.item.text,vS D A.item.mZ.length A.item.mZ.length],rfl,Amw aE ⟨D,au,rfl,ao,ap,aq,ar,T,aj⟩,ab⟩) ?_;clear F M a;intro ai w a M aw F;revert a;refine wk ?_;intro a F
  exact ⟨_,tM,i+1,Ln,ai,rfl,Y,(ak.trans E),fU,(M.wn tW),tM,by have h_:=aw;rwa [Aok al] at h_⟩
 intro aS;refine wk ?_;refine Ak (fun a F=>Am (cs:=[vS (some ⟨N,0,none⟩) (l.length) (l.length)]) Az.k rfl Az (F.evp rfl) rfl) rfl<|fun a F=>?_
 refine Bf F M Az 1<|sZ ?_;clear F M a;intro w M;refine wk ?_;refine fun a F=>Hf F M (k:=1) rfl rfl Az rfl rfl rfl ?_;have Ex:=Eo;rw [Aom tM] at Ex
 exact ⟨_,_,ak,M.wn tW,_,_,Ls,rfl,rfl,Aav Ex⟩
theorem Rv {w0 w:World} {G:Av} {L A:List Res} {a:Option Addr} {cs:List Value} {xs:List EntD} (M:Mem w0 G (C0 a xs.length cs::(A++L)) w) (E:Els (Nt A) 6 G cs xs) :
  Calls pG 115 #[.agg #[vS a xs.length xs.length]] w (B5 w0 G (C0 a xs.length cs::(A++L)) fun v=>v=iI (Dp xs)):=by
 have D:Mem w0 G ((C0 a xs.length cs::A)++L) w:=M;obtain ⟨I,H⟩:=D.lend;refine (Z2 H (Wr D E)).mono ?_;rintro e w' h
 cases e with
 | returned v=>exact ⟨D.back h.1,h.2⟩
 | panicked c=>exact h.elim
 | outgrown=>exact h.elim
theorem Gl {w0 w:World} {G:Av} {L D:List Res} {a:Option Addr} {cs:List Value} {xs:List EntD} (M:Mem w0 G (C0 a xs.length cs::(D++L)) w) (E:Els (Nt D) 6 G cs xs) :
  ∃ A,Gle G A∧Mem w0 A L w∧Aj Bj 6 A (vS a xs.length xs.length) xs:=by
 have H:Mem w0 G ((C0 a xs.length cs::D)++L) w:=M
 exact ⟨_,H.lend.1,H.lend.2,Wr H E⟩
theorem Dz {c:RulesD} {l:List EntD} (h:Bh c l=0):Dd c∧l.length≤1024∧(∀ i x,l[i]?=some x→Tv c (l.take i) x=0)∧Dp l=0:=by
 by_cases hv:Dd c
 ·by_cases h2:1024 < l.length
  ·rw [Apx hv h2] at h;cases h
  by_cases h3:Bv (Im c l) l.length=0
  ·rw [Kh hv h2 h3 (Nat.le_refl _)] at h
   exact ⟨hv,tM,fun i x A=>by have:=Ds.1 h3 i (A3 A);rwa [Rj A] at this,h⟩
  unfold Bh at h;rw [if_neg (not_not_intro hv),if_neg h2,if_neg h3] at h;exact absurd h h3
 rw [Apw hv] at h;cases h
theorem Abb {c:RulesD} {l:List EntD} (h:Bh c l=0) {i:Nat} {x:EntD} (A:l[i]?=some x):¬ Dj (l.take i) x.item.key:=(Fj.1 (Pv.1 ((Dz h).2.2.1 i x A)).1).2.1
theorem Nk {c:RulesD} {l:List EntD} (h:Bh c l=0):∀ x∈l,ItemOk (c.kZ.length:Int) x.item:=fun x D=>by
 obtain ⟨i,A⟩:=List.mem_iff_getElem?.1 D
 exact (Fj.1 (Pv.1 ((Dz h).2.2.1 i x A)).1).1
theorem T7 (M:Mem w0 G L w) {c:RulesD} {a1:Option Addr} {c1:Nat} {l:List EntD} (S:Aj Bj 6 G (vS a1 l.length c1) l) (ah:Bh c l=0):Calls pG 139 #[vS a1 l.length c1] w (L4 w0 G fun L' v=>∃ (b mb:Nat) (H:Array MapEntry) (O:Nat) (ks:List Nat),v=.func (.func 168) #[] #[pP b]∧L' = (rB b [.map (some mb)] 185::.obj mb (.map H O)::L)∧Jz H ks∧∀ q,q∈ks↔Dj l q):=by
 have bS:=S.bound;refine Ap (vs:=[_]) Tryz.func139 rfl (n:=19) rfl rfl<|wk ?_;intro a F;refine Wb (kt:=23) (et:=4) F M rfl ?_;clear F M a;intro E w a M F;revert a;refine B0 M N1 rfl rfl<|?_;clear M;intro b2 w M
 refine D0 N1 M 0 rfl rfl rfl rfl rfl rfl<|?_;clear M;intro w M
 refine wk ?_;refine fun a F=>Bd (fun m a' w'=>∃ (i:Nat),∃ (H:Array MapEntry),∃ (O:Nat),∃ (ks:List Nat),m=l.length - i∧Fits 19 a' [(3,pP b2),(7,vS a1 l.length c1),(8,iI ((l.length:Nat):Int)),(9,iI ((i:Nat):Int))]∧Mem w0 G (rB b2 [.map (some E)] 185::.obj E (.map H O)::L) w'∧(i≤l.length)∧(Jz H ks)∧(F3 l i ks)) _ ⟨0,#[],0,([]:List Nat),rfl,fU,M,Nat.zero_le _,Jz.nil,F3.zero l⟩ ?_;clear F M;rintro m a w ⟨i,H,O,ks,rfl,F,M,hi,Es,N⟩;revert a;refine wk ?_;refine qD rfl ?_ ?_
 ·intro h4;refine wk ?_;obtain ⟨A,D⟩:=Aq (xs:=l) (i:=i) tM;obtain ⟨ar,av,_,aq,_,ap,aa⟩:=S.at D;obtain ⟨aj,I,Y,V⟩:=aa;obtain ⟨an,ao,rfl,ab,ac,ae,am,ai⟩:=Y;subst I;have ak:(A.item.key < 18446744073709551616∧A.item.typ < 256∧A.item.text.length≤9223372036854775807):=⟨ab,ac,ae⟩;have al:-9223372036854775808≤A.size∧A.size≤9223372036854775807:=V;refine wk ?_;refine B0 M Cn rfl rfl<|?_;clear M;intro b6 w M
  intro a F;refine Bf F M Cn 0<|sZ ?_;clear F M a;intro w M;refine Ao<|Gd<|?_
  have au:¬ A.item.key∈ks:=fun h_=>Abb ah D ((N _).1 h_);refine wk ?_;intro a F;refine S8 (z:=A.item.key) F M (k:=2) rfl Es N1.k Gh.k rfl rfl rfl tA ?_;clear F M a;intro U T w a ag M F;revert a;refine wk ?_;intro a F
  exact ⟨_,tM,i+1,U,T,(A.item.key::ks),rfl,fU,(M.wn tW),tM,ag,N.step D⟩
 intro h9;refine wk ?_;refine Ak (fun a F=>Dh (vs:=#[pP b2]) (by simp only [List.map_toArray,List.map_cons,List.map_nil,F.ev (x:=.tmp 3) rfl])) rfl<|wk ?_;refine Af rfl rfl<|?_
 replace M:=M.perm (Ah _ 1 _ rfl);replace M:=M.perm (Ah _ 1 _ rfl);replace M:=z_M M
 exact ⟨_,M,b2,E,H,O,ks,rfl,rfl,Es,by have h_:=N;unfold F3 at h_;rwa [List.take_of_length_le tM] at h_⟩
theorem Abo {w0 w:World} {G:Av} {L:List Res} {b H:Nat} {O:Array MapEntry} {T:Nat} {ks:List Nat} (M:Mem w0 G (rB b [.map (some H)] 185::.obj H (.map O T)::L) w) (S:Jz O ks) {x:ItemD} {U:Option Addr} {V:Nat} (hI:(x.key < 18446744073709551616∧x.typ < 256∧x.text.length≤9223372036854775807)) (SM:Aj Cr 1 G (vS U x.mZ.length V) x.mZ) {i:Int} :
  Calls pG 168 #[iI i,.agg #[iU ((x.key:Nat):Int),iB ((x.typ:Nat):Int),qT x.text,vS U x.mZ.length V],pP b] w (L4 w0 G fun Y v=>∃ (D:Array MapEntry) (N:Nat),v=iI (if x.key∈ks then 8 else 0)∧Y = (rB b [.map (some H)] 185::.obj H (.map D N)::L)∧(¬ x.key∈ks→Jz D (x.key::ks))):=by
 refine Ap (vs:=[_,_,_]) Tryz.func168 rfl (n:=13) rfl rfl<|?_
 refine Bt<|?_
 refine Ch M rfl rfl rfl<|?_;clear M;intro b1 w M
 refine wk ?_;refine fun a F=>We F M (k:=2) rfl S N1.k Gh.k Avw rfl rfl rfl rfl ?_;clear F a;intro a F;revert a;refine Ao<|Gd<|?_
 refine qD rfl ?_ ?_
 ·intro h2;refine wk ?_;refine Af rfl rfl<|?_
  replace M:=M.perm (Ah _ 2 _ rfl);replace M:=M.perm (Ah _ 2 _ rfl);replace M:=z_M M
  exact ⟨_,M.wn tW,O,T,by rw [if_pos tA],rfl,fun h_=>absurd tA h_⟩
 intro h3;refine wk ?_;intro a F;refine S8 (z:=x.key) F M (k:=2) rfl S N1.k Gh.k rfl rfl rfl tA ?_;clear F M a;intro E A w a I M F;revert a;refine wk ?_;refine Af rfl rfl<|?_
 replace M:=M.perm (Ah _ 2 _ rfl);replace M:=M.perm (Ah _ 2 _ rfl);replace M:=z_M M
 exact ⟨_,M.wn tW,E,A,by rw [if_neg tA],rfl,fun _=>I⟩
theorem Aum (M:Mem w0 G L w) {I:Option Addr} {U:Nat} {l:List EntD} (S:Aj Bj 6 G (vS I l.length U) l) {O:Nat} (A5:At G O 0 [vS I l.length U]) {T p:Nat} (A6:At G T 0 [iI ((p:Nat):Int)]) {N:Option Addr} {V:Nat} {fr:List EntD} (R:Aj Bj 6 G (vS N fr.length V) fr) (hp:p≤l.length) (hl:l.length≤1000000) (hf:fr.length≤1000000):Calls pG 161 #[vS N fr.length V,pP O,pP T] w (Ret w0 G L fun G' v=>∃ (a:Option Addr) (Y:Nat),v=vS a (C1 l p 0 fr).length Y∧Aj Bj 6 G' (vS a (C1 l p 0 fr).length Y) (C1 l p 0 fr)):=by
 refine Ap (vs:=[_,_,_]) Tryz.func161 rfl (n:=10) rfl rfl<|wk ?_;refine C3 X3 rfl rfl (Jm (l:=l) (fr:=fr) (p:=p) (n:=0) M S R tM tM tM)<|?_;clear M;rintro _ aa w A M ⟨E,H,rfl,D⟩
 replace A5:=A5.mono A;replace A6:=A6.mono A;refine wk ?_;refine Af rfl rfl<|?_
 exact ⟨_,A,M,E,H,rfl,D⟩
theorem Arc (M:Mem w0 G L w) {I:Option Addr} {V:Nat} {l:List EntD} (S:Aj Bj 6 G (vS I l.length V) l) {O:Nat} (A5:At G O 0 [vS I l.length V]) {T p:Nat} (A6:At G T 0 [iI ((p:Nat):Int)]) {U n:Nat} (A7:At G U 0 [iI ((n:Nat):Int)]) {N:Option Addr} {Y:Nat} {fr:List EntD} (R:Aj Bj 6 G (vS N fr.length Y) fr) (hp:p+n≤l.length) (hl:l.length≤1000000):Calls pG 118 #[vS N fr.length Y,pP O,pP T,pP U] w (Ret w0 G L fun G' v=>∃ (a:Option Addr) (cc:Nat),v=vS a (C1 l p n []).length cc∧Aj Bj 6 G' (vS a (C1 l p n []).length cc) (C1 l p n [])):=by
 refine Ap (vs:=[_,_,_,_]) Tryz.func118 rfl (n:=11) rfl rfl<|wk ?_;refine C3 X3 rfl rfl (Jm (l:=l) (fr:=([]:List EntD)) (p:=p) (n:=n) M S Aj.nil tM tM (by (show 0≤1000000;omega)))<|?_;clear M;rintro _ aa w A M ⟨E,H,rfl,D⟩
 replace A5:=A5.mono A;replace A6:=A6.mono A;replace A7:=A7.mono A;refine wk ?_;refine Af rfl rfl<|?_
 exact ⟨_,A,M,E,H,rfl,D⟩
theorem Ary (M:Mem w0 G L w) {Y:Option Addr} {c1:Nat} {l:List EntD} (S:Aj Bj 6 G (vS Y l.length c1) l) {b5:Nat} (A5:At G b5 0 [vS Y l.length c1]) {b6 p:Nat} (A6:At G b6 0 [iI ((p:Nat):Int)]) {b7 n:Nat} (A7:At G b7 0 [iI ((n:Nat):Int)]) {b8 q:Nat} (A8:At G b8 0 [iI ((q:Nat):Int)]) {a2:Option Addr} {c2:Nat} {fr:List EntD} (R:Aj Bj 6 G (vS a2 fr.length c2) fr) (hp:p+n≤l.length) (hq:q+n≤l.length) (hl:l.length≤1000000):Calls pG 162 #[vS a2 fr.length c2,pP b5,pP b6,pP b7,pP b8] w (Ret w0 G L fun G' v=>∃ (a:Option Addr) (cc:Nat),v=vS a (R0 l p n q).length cc∧Aj Bj 6 G' (vS a (R0 l p n q).length cc) (R0 l p n q)):=by
 refine Ap (vs:=[_,_,_,_,_]) Tryz.func162 rfl (n:=21) rfl rfl<|wk ?_;refine fun a F=>Dv [(true,0),(true,1),(true,2),(true,3),(true,5),(true,6),(true,7),(true,8),(true,9),(true,10),(true,11),(true,12),(false,4),(false,13),(true,14)] (Keep G []) rfl kR kF (Aw (M.drew _)) ?_;replace M:=M.drew (w.drawn+1);revert a;refine wk ?_;obtain ⟨ag,ai,O,ac,aa,Ss1⟩:=S.part (p) (p+n) tM tM;refine l_r (fun a F w M=>Gu Db.k Cn O (F.ev rfl) (h:=p+n) ⟨(F.ev rfl),tM⟩ ⟨(F.ev rfl),tM⟩ tM tM) rfl<|l_a rfl<|C3 X3 rfl rfl (Jm (l:=l) (fr:=([]:List EntD)) (p:=p) (n:=n) M S Aj.nil tM tM (by (first | (show 0≤1000000;omega) | (rw [lT];omega))))<|?_;clear M;rintro _ I w D M ⟨ae,ah,rfl,Sq2⟩
 replace A5:=A5.mono D;replace A6:=A6.mono D;replace A7:=A7.mono D;replace A8:=A8.mono D;replace Ss1:=Ss1.mono Ab D;refine Ao<|?_
 refine eK (C':=Keep I []) (Aw M) (fun w h=>h.mono D (by simp))<|l_a rfl<|?_
 have E:p+n - p=((l.drop p).take n).length:=by rw [lT,lD];omega
 have H:(l.take (p+n)).drop p=(l.drop p).take n:=by rw [List.drop_take];congr 1;omega
 intro a F;rw [E,H] at Ss1;rw [E] at F;have ab:=Mh (l:=l) (p:=p) (n:=n) tM;revert a;refine C3 X3 rfl rfl (Jm (l:=(C1 l p n ([]:List EntD))) (fr:=((l.drop p).take n)) (p:=q) (n:=0) M Sq2 Ss1 tM tM (by (first | (show 0≤1000000;omega) | (rw [lT];omega))))<|?_;clear M;rintro _ N w A M ⟨U,V,rfl,T⟩
 replace A5:=A5.mono A;replace A6:=A6.mono A;replace A7:=A7.mono A;replace A8:=A8.mono A;refine Ao<|?_
 refine eK (C':=Keep N []) (Aw M) (fun w h=>h.mono A (by simp))<|wk ?_;refine Af rfl rfl<|?_
 exact ⟨_,(D.trans A),M,U,V,rfl,T⟩
theorem Avd (M:Mem w0 G L w) {a1:Option Addr} {c1:Nat} {l:List EntD} (S:Aj Bj 6 G (vS a1 l.length c1) l) {b5:Nat} (A5:At G b5 0 [vS a1 l.length c1]) {b6 p:Nat} (A6:At G b6 0 [iI ((p:Nat):Int)]) {x:ItemD} {V:Option Addr} {Y:Nat} (hI:(x.key < 18446744073709551616∧x.typ < 256∧x.text.length≤9223372036854775807)) (SM:Aj Cr 1 G (vS V x.mZ.length Y) x.mZ) {i:Nat} {y:EntD} (hy:l[p+i]?=some y) (hl:l.length≤1000000):Calls pG 163 #[iI ((i:Nat):Int),.agg #[iU ((x.key:Nat):Int),iB ((x.typ:Nat):Int),qT x.text,vS V x.mZ.length Y],pP b5,pP b6] w (B5 w0 G L fun v=>v=iI (if y.item.key=x.key then 0 else 9)):=by
 have am:=A3 hy;refine Ap (vs:=[_,_,_,_]) Tryz.func163 rfl (n:=19) rfl rfl<|?_
 refine Bt<|?_
 refine Ch M rfl rfl rfl<|?_;clear M;intro b1 w M
 refine wk ?_;refine fun a F=>Dv [(true,0),(true,1),(true,2),(true,3),(true,4),(true,5),(true,6),(true,7),(true,8),(true,9),(true,10),(true,11)] (Keep G [rB b1 [iU ((x.key:Nat):Int),iB ((x.typ:Nat):Int),qT x.text,vS V x.mZ.length Y] 26]) rfl kR kF (Aw (M.drew _)) ?_;replace M:=M.drew (w.drawn+1);revert a;refine wk ?_;obtain ⟨al,an,_,ak,_,aj,H⟩:=S.at hy;obtain ⟨ab,A,E,D⟩:=H;obtain ⟨ah,ai,rfl,I,N,O,ag,aa⟩:=E;subst A;have ac:(y.item.key < 18446744073709551616∧y.item.typ < 256∧y.item.text.length≤9223372036854775807):=⟨I,N,O⟩;have ae:-9223372036854775808≤y.size∧y.size≤9223372036854775807:=D;refine wk ?_
 generalize ({ w with drawn:=w.drawn+1 }:World)=w at M ⊢
 refine wk ?_;refine Ag rfl ?_ ?_
 ·intro T;have h3:=dF (Ad T);refine wk ?_;refine Af rfl rfl<|?_
  exact ⟨M.wn dS1,by rw [if_neg tM]⟩
 intro U;have h4:=dT (Ae U);refine wk ?_;refine Af rfl rfl<|?_
 exact ⟨M.wn dS1,by rw [if_pos tM]⟩
theorem Avc (M:Mem w0 G L w) {I:Option Addr} {Y:Nat} {l:List EntD} (S:Aj Bj 6 G (vS I l.length Y) l) {O:Nat} (A5:At G O 0 [vS I l.length Y]) {U p:Nat} (A6:At G U 0 [iI ((p:Nat):Int)]) {ta:Option Addr} {tc:Nat} {xs:List ItemD} (T:Aj Bp 4 G (vS ta xs.length tc) xs) {V:Nat} (A9:At G V 0 [vS ta xs.length tc]) {N:Option Addr} {c2:Nat} {fr:List EntD} (R:Aj Bj 6 G (vS N fr.length c2) fr) (hp:p+xs.length≤l.length) (hl:l.length≤1000000) (hf:fr.length≤1000000):Calls pG 164 #[vS N fr.length c2,pP O,pP U,pP V] w (Ret w0 G L fun G' v=>∃ (a:Option Addr) (cc:Nat),v=vS a (C1 l p xs.length fr).length cc∧Aj Bj 6 G' (vS a (C1 l p xs.length fr).length cc) (C1 l p xs.length fr)):=by
 refine Ap (vs:=[_,_,_,_]) Tryz.func164 rfl (n:=13) rfl rfl<|wk ?_;refine C3 X3 rfl rfl (Jm (l:=l) (fr:=fr) (p:=p) (n:=xs.length) M S R tM tM tM)<|?_;clear M;rintro _ aa w A M ⟨E,H,rfl,D⟩
 replace A5:=A5.mono A;replace A6:=A6.mono A;replace A9:=A9.mono A;refine wk ?_;refine Af rfl rfl<|?_
 exact ⟨_,A,M,E,H,rfl,D⟩
theorem Aqz (M:Mem w0 G L w) {A:Option Addr} {D:Nat} {fr:List EntD} (R:Aj Bj 6 G (vS A fr.length D) fr):Calls pG 140 #[vS A fr.length D] w (Ret w0 G L fun H v=>∃ (a:Option Addr) (E:Nat),v=vS a (fr).length E∧Aj Bj 6 H (vS a (fr).length E) (fr)):=by
 refine Ap (vs:=[_]) Tryz.func140 rfl (n:=4) rfl rfl<|wk ?_;refine Af rfl rfl<|?_
 exact ⟨_,(Gle.refl _),M,A,D,rfl,R⟩
def KeyC (w0:World) (G0:Av) (kf:FuncId) (kc:List Value) (xs:List ItemD) (fK:Nat→Int) (Rk:Nat→List Res→Prop):Prop :=
 ∀ (G:Av) (L R:List Res) (w:World) (i:Nat) (x:ItemD) (ma:Option Addr) (mc:Nat),Gle G0 G→xs[i]?=some x→Rk i R→Mem w0 G (R++L) w→(x.key < 18446744073709551616∧x.typ < 256∧x.text.length≤9223372036854775807)→Aj Cr 1 G (vS ma x.mZ.length mc) x.mZ →
  Calls pG kf ([iI ((i:Nat):Int),.agg #[iU ((x.key:Nat):Int),iB ((x.typ:Nat):Int),qT x.text,vS ma x.mZ.length mc]]++kc:List Value).toArray w (L4 w0 G fun L' v=>∃ R',v=iI (fK i)∧L' = R'++L∧(fK i=0→Rk (i+1) R'))
def MakeC (w0:World) (G0:Av) (mk:FuncId) (mc:List Value) (fr out:List EntD):Prop :=
 ∀ (G:Av) (L:List Res) (w:World) (a2:Option Addr) (c2:Nat),Gle G0 G→Mem w0 G L w→Aj Bj 6 G (vS a2 fr.length c2) fr →
  Calls pG mk ([vS a2 fr.length c2]++mc:List Value).toArray w (Ret w0 G L fun G' v=>∃ (a:Option Addr) (cc:Nat),v=vS a (out).length cc∧Aj Bj 6 G' (vS a (out).length cc) (out))
def K5 (L:List Res) (r:List EntD × Int) (G':Av) (L':List Res) (v:Value):Prop :=
 ∃ (a:Option Addr) (cs:List Value) (Ls:List Res),v=.tuple #[.agg #[vS a r.1.length r.1.length],iI r.2]∧L' = (C0 a r.1.length cs::(Ls++L))∧Els (Nt Ls) 6 G' cs r.1
theorem Gm {w0 w:World} {G A:Av} {L:List Res} {r:List EntD × Int} {e:Int} (I:r=([],e)) (H:Gle G A) (M:Mem w0 A L w):∃ D E,Gle G D∧Mem w0 D E w∧K5 L r D E (.tuple #[.agg #[sN],iI e]):=by
 subst I
 exact ⟨A,_,H,M.nilrow 69 6,none,[],[],rfl,rfl,Els.nil⟩
theorem S9 {P:Program} {E:Array Oper} {Q:Exit→Act→World→Prop} {n:Nat} {a:Act} {w w0:World} {e:Env} {G:Av} {L:List Res} {d:Nat} {t:TypeId} {p:String} {af:Array Edge} {r:List Oper} {f:FuncId} {D:Operand} {args:List Operand} {I:Array TypeId} {vs caps:List Value} {Φ:Av→Value→Prop}
  (F:Fits n a e) (V:Ent P f) (Y:ev e D=some (.func (.func f) #[] caps.toArray)) (hv:evs e args=some vs) (hd:Nat.ble (d+1) n=true) (hs:Calls P f (vs++caps).toArray w (Ret w0 G L Φ))
  (k:∀ v A w' H,Gle G A→Mem w0 A L w'→Φ A v→Fits n H ((d,v)::e)→rl P E Q r H w') :
  rl P E Q (⟨some d,.call ⟨.value D,args.toArray,I⟩,t,p,af,none⟩::r) a w:=by
 refine Jo F V Y hv hd hs fun x w' N=>?_
 cases x with
 | returned v=>obtain ⟨A,S,T,U⟩:=N;exact ⟨v,rfl,fun H O=>k v A w' H S T U O⟩
 | panicked c=>exact N.elim
 | outgrown=>exact N.elim
theorem Sd {w0 w:World} {G:Av} {L:List Res} {D:Bool} {E:Int} {kv mv:Value} {fK:Nat→Int} {Rk:Nat→List Res→Prop} {out:List EntD} {R:List Res} (M:Mem w0 G (R++L) w) {c:RulesD} {H:Option Addr} {I:Nat} (SC:Aj Cq 9 G (vS H c.kZ.length I) c.kZ) {a1:Option Addr} {c1:Nat} {l:List EntD} (S:Aj Bj 6 G (vS a1 l.length c1) l) {ta:Option Addr} {tc:Nat} {xs:List ItemD} (T:Aj Bp 4 G (vS ta xs.length tc) xs) (Y:Bh c l=0) (hR:Rk 0 R) (hN:xs.length≤1000000)
  (ba:D=true→xs=[]∨∃ kf kc,kv=.func (.func kf) #[] (List.toArray kc)∧Ent pG kf∧KeyC w0 G kf kc xs fK Rk) (bb:D=true→Bv (Lz c xs fK) xs.length=0→∃ mk mc,mv=.func (.func mk) #[] (List.toArray mc)∧Ent pG mk∧MakeC w0 G mk mc (xs.map (B8 c)) out)
  (a3:D=true→out.length≤1000000) (a0:D=true→Bv (Lz c xs fK) xs.length=0→∀ x∈out,x.item.mZ.length≤1000000) :
  Calls pG 116 #[.agg #[vS H c.kZ.length I,iI c.cap],.agg #[vS a1 l.length c1],.agg #[vB D,iI E,vS ta xs.length tc,kv,mv]] w (I5 w0 G (K5 L (doR (Bh c l) D E (Lz c xs fK) xs.length out))):=by
 have bT:=T.bound;refine Ap (vs:=[_,_,_]) Tryz.func116 rfl (n:=79) rfl rfl<|?_
 refine Bt<|?_
 refine Ch M rfl rfl rfl<|?_;clear M;intro b1 w M
 refine Ch M rfl rfl rfl<|?_;clear M;intro b2 w M
 refine Ch M rfl rfl rfl<|?_;clear M;intro b3 w M
 refine B0 M Az rfl rfl<|?_;clear M;intro b4 w M
 refine wk ?_;refine A2 A0f rfl rfl (Oo (c:=c) (l:=l) M SC S)<|?_;clear M;rintro _ w M rfl
 refine wk ?_;refine Ag rfl ?_ ?_
 ·intro aR;have h6:=Ad aR;have cb:(D)=false:=(Ad aR);refine Bt<|?_
  refine Ak (fun a F=>Am (cs:=[sN]) Az.k rfl Az (F.evp rfl) rfl) rfl<|fun a F=>?_
  refine Bf F M Az 0<|sZ ?_;clear F M a;intro w M;refine wk ?_;refine fun a F=>B1 F M (k:=0) rfl rfl Az rfl rfl rfl rfl ?_
  exact Gm (A1q Y (by cases D <;> simp_all)) (Gle.refl _) (M.wn (cN (.cons _ (cN (.cons _ (List.sublist_append_right _ _))))))
 intro aS;have h7:=Ae aS;have cc:(D)=true:=(Ae aS);refine wk ?_;refine qD rfl ?_ ?_
 ·intro h8;refine Bt<|?_
  refine Ak (fun a F=>Am (cs:=[sN]) Az.k rfl Az (F.evp rfl) rfl) rfl<|fun a F=>?_
  refine Bf F M Az 0<|sZ ?_;clear F M a;intro w M;refine wk ?_;refine fun a F=>B1 F M (k:=0) rfl rfl Az rfl rfl rfl rfl ?_
  exact Gm (do_3 Y (by cases D <;> simp_all) tM) (Gle.refl _) (M.wn (cN (.cons _ (cN (.cons _ (List.sublist_append_right _ _))))))
 intro h9;refine wk ?_;have A:D=true:=by cases D <;> simp_all
 refine wk ?_;refine fun a F=>Bd (fun m a' w'=>∃ (i:Nat),∃ (Rn:List Res),m=xs.length - i∧Fits 79 a' [(3,pP b1),(4,pP b2),(5,pP b3),(6,pP b4),(32,vS ta xs.length tc),(33,iI ((xs.length:Nat):Int)),(34,iI ((i:Nat):Int))]∧Mem w0 G (rB b4 [sN] 54::rB b3 [vB D,iI E,vS ta xs.length tc,kv,mv] 207::rB b2 [vS a1 l.length c1] 54::rB b1 [vS H c.kZ.length I,iI c.cap] 51::(Rn++L)) w'∧(i≤xs.length)∧(Rk i Rn)∧(Bv (Lz c xs fK) i=0)) _ ⟨0,R,rfl,fU,M,Nat.zero_le _,hR,rfl⟩ ?_;clear F M;rintro m a w ⟨i,Rn,rfl,F,M,hi,bf,hS⟩;revert a;refine wk ?_;refine qD rfl ?_ ?_
 ·intro bK;refine wk ?_;obtain ⟨Xi,ak⟩:=Aq (xs:=xs) (i:=i) tM
  rcases ba A with bi | ⟨kf,kc,bg,aY,aZ⟩
  ·intro a F
   exact absurd ak (by rw [bi];simp)
  refine wk ?_;obtain ⟨bx,bJ,_,bq,_,bp,aI⟩:=T.at ak;obtain ⟨ax,ay,rfl,aJ,aL,aM,bh,al⟩:=aI;have am:(Xi.key < 18446744073709551616∧Xi.typ < 256∧Xi.text.length≤9223372036854775807):=⟨aJ,aL,aM⟩;refine wk ?_;refine B0 M Bc rfl rfl<|?_;clear M;intro aQ w M
  refine Dq rfl<|?_
  intro a F;refine Bf F M Bc 0<|sZ ?_;clear F M a;intro w M;refine wk ?_;refine A2 Ahx rfl rfl (K2 (x:=Xi) (t:=((c.kZ.length:Nat):Int)) M am al)<|?_;clear M;rintro _ w M rfl
  refine wk ?_;refine qD rfl ?_ ?_
  ·intro bL;have a2:ItemOk (c.kZ.length:Int) Xi:=De.1 tA;refine wk ?_;intro a F;rw [bg] at F;refine Ta F aY (caps:=kc) rfl rfl rfl (aZ _ _ Rn _ i Xi _ _ (Gle.refl _) ak bf (M.perm (Bk [rB aQ [iU ((Xi.key:Nat):Int),iB ((Xi.typ:Nat):Int),qT Xi.text,vS ax Xi.mZ.length ay] 26,rB b4 [sN] 54,rB b3 [vB D,iI E,vS ta xs.length tc,kv,mv] 207,rB b2 [vS a1 l.length c1] 54,rB b1 [vS H c.kZ.length I,iI c.cap] 51] Rn L)) am al) ?_;clear F M a;rintro _ _ w a M ⟨R2,rfl,rfl,be⟩ F;have M:=M.perm (Bk R2 [rB aQ [iU ((Xi.key:Nat):Int),iB ((Xi.typ:Nat):Int),qT Xi.text,vS ax Xi.mZ.length ay] 26,rB b4 [sN] 54,rB b3 [vB D,iI E,vS ta xs.length tc,kv,mv] 207,rB b2 [vS a1 l.length c1] 54,rB b1 [vS H c.kZ.length I,iI c.cap] 51] L);replace M:=z_M M;revert a;refine wk ?_;refine qD rfl ?_ ?_
   ·intro bM;obtain ⟨k,hK⟩:=J5 a2;refine wk ?_;refine A2 A1g rfl rfl (Ui (c:=c) (x:=Xi) M SC am al hK)<|?_;clear M;rintro _ w M ⟨bl,bm,bn,bo,aU,aV,bj,aW,bk,aX,rfl⟩
    refine wk ?_;refine Ag rfl ?_ ?_
    ·intro a6;have bN:=dF (Ad a6);have b8:(decide (Hz c Xi=0))=false:=(Ad a6);refine Bt<|?_
     refine Ak (fun a F=>Am (cs:=[sN]) Az.k rfl Az (F.evp rfl) rfl) rfl<|?_
     refine Cd rfl<|?_
     intro a F;refine Bf F M Az 1<|sZ ?_;clear F M a;intro w M;refine wk ?_;refine fun a F=>B1 F M (k:=1) rfl rfl Az rfl rfl rfl rfl ?_
     exact Gm (do_e Y A tM hS (A3 ak) ((Xr ak).trans (Aoy a2 tM)) tM) (Gle.refl _) (M.wn (cN (.cons _ (cN (.cons _ (cN (List.sublist_append_right _ _)))))))
    intro a7;have bO:=dT (Ae a7);have b9:(decide (Hz c Xi=0))=true:=(Ae a7);refine wk ?_;intro a F
    exact ⟨_,tM,i+1,R2,rfl,fU,(M.wn tW),tM,be tM,in_step hS ak ((Aoy a2 tM).trans tM)⟩
   intro bP;refine wk ?_;refine Ak (fun a F=>Am (cs:=[sN]) Az.k rfl Az (F.evp rfl) rfl) rfl<|?_
   refine Cd rfl<|?_
   intro a F;refine Bf F M Az 1<|sZ ?_;clear F M a;intro w M;refine wk ?_;refine fun a F=>B1 F M (k:=1) rfl rfl Az rfl rfl rfl rfl ?_
   exact Gm (do_e Y A tM hS (A3 ak) ((Xr ak).trans (Azp a2 tM)) tM) (Gle.refl _) (M.wn (cN (.cons _ (cN (.cons _ (cN (List.sublist_append_right _ _)))))))
  intro bQ;refine wk ?_;refine Ak (fun a F=>Am (cs:=[sN]) Az.k rfl Az (F.evp rfl) rfl) rfl<|?_
  refine Cd rfl<|?_
  intro a F;refine Bf F M Az 1<|sZ ?_;clear F M a;intro w M;refine wk ?_;refine fun a F=>B1 F M (k:=1) rfl rfl Az rfl rfl rfl rfl ?_
  exact Gm (do_e Y A tM hS (A3 ak) ((Xr ak).trans ((Aoz (fun h_=>by have:=Dc h_;omega)).trans (E1 (fun h_=>by have:=Dc h_;omega)).symm)) tM) (Gle.refl _) (M.wn (cN (.cons _ (cN (.cons _ (cN (List.sublist_append_right _ _)))))))
 intro bR;refine wk ?_;have V:Bv (Lz c xs fK) xs.length=0:=by rw [show xs.length=i by omega];exact hS
 have aT:=Aox V (Nat.le_refl _);obtain ⟨mk,mc,aK,aG,aH⟩:=bb A V;intro a F;refine Ik (.run 0 (.run 1 (.run 2 (.run 3 (.run 4 (.act 5 (.act 6 (.act 7 (.act 8 (.act 9 .fin .no) .no) (.act 8 (.act 7 (.act 9 .fin .no) .no) .no)) (.act 8 (.act 6 (.act 7 (.act 9 .fin .no) .no) .no) .no)) (.act 8 (.act 5 (.act 6 (.act 7 (.act 9 .fin .no) .no) .no) .no) .no))))))) (Keep G [rB b4 [sN] 54,rB b3 [vB D,iI E,vS ta xs.length tc,kv,mv] 207,rB b2 [vS a1 l.length c1] 54,rB b1 [vS H c.kZ.length I,iI c.cap] 51]) rfl kR kF (Aw (M.drew _)) ?_;replace M:=M.drew (w.drawn+1);revert a;refine wk ?_;refine fun a F=>A0 ?_ rfl ?_
 ·skip
  revert a;refine C3 A0w rfl rfl (Xu (c:=c) (xs:=xs) M SC T tM aT)<|?_;clear M;rintro _ a4 w O M ⟨br,bz,rfl,Sq22⟩
  replace SC:=SC.mono Ai O;replace T:=T.mono Ac O;refine Ao<|?_
  refine eK (C':=Keep a4 [rB b4 [sN] 54,rB b3 [vB D,iI E,vS ta xs.length tc,kv,mv] 207,rB b2 [vS a1 l.length c1] 54,rB b1 [vS H c.kZ.length I,iI c.cap] 51]) (Aw M) (fun w h=>h.mono O (by simp))<|fun a F=>A0 ?_ rfl ?_
  ·skip
   rw [aK] at F;refine S9 F aG (caps:=mc) rfl rfl rfl (aH _ _ _ _ _ O M Sq22) ?_;clear F M a;rintro _ a5 w a aa M ⟨bt,b0,rfl,Sq23⟩ F;replace SC:=SC.mono Ai aa;replace T:=T.mono Ac aa;replace Sq22:=Sq22.mono Ab aa;revert a;refine Ao<|?_
   refine eK (C':=Keep a5 [rB b4 [sN] 54,rB b3 [vB D,iI E,vS ta xs.length tc,kv,mv] 207,rB b2 [vS a1 l.length c1] 54,rB b1 [vS H c.kZ.length I,iI c.cap] 51]) (Aw M) (fun w h=>h.mono aa (by simp))<|fun a F=>A0 ?_ rfl ?_
   ·skip
    refine Cs F Aea rfl rfl (Ru M Sq23 (a3 A) (a0 A V)) ?_;clear F M a;rintro _ an _ w a ab M ⟨U,N,Lo,rfl,rfl,Eo⟩ F;replace SC:=SC.mono Ai ab;replace T:=T.mono Ac ab;replace Sq22:=Sq22.mono Ab ab;replace Sq23:=Sq23.mono Ab ab;have M:=M.perm (Bk (C0 U out.length N::Lo) [rB b4 [sN] 54,rB b3 [vB D,iI E,vS ta xs.length tc,kv,mv] 207,rB b2 [vS a1 l.length c1] 54,rB b1 [vS H c.kZ.length I,iI c.cap] 51] (Rn++L));replace M:=z_M M;revert a;refine Ao<|?_
    refine eK (C':=Keep an [rB b4 [sN] 54,rB b3 [vB D,iI E,vS ta xs.length tc,kv,mv] 207,rB b2 [vS a1 l.length c1] 54,rB b1 [vS H c.kZ.length I,iI c.cap] 51]) (Aw M) (fun w h=>h.mono ab (by simp))<|fun a F=>A0 ?_ rfl Bl
    revert a;refine B0 M Az rfl rfl<|?_;clear M;intro az w M
    refine Ao<|?_
    refine eK (C':=Keep an [rB b4 [sN] 54,rB b3 [vB D,iI E,vS ta xs.length tc,kv,mv] 207,rB b2 [vS a1 l.length c1] 54,rB b1 [vS H c.kZ.length I,iI c.cap] 51]) (Aw M) (fun w h=>h.mono (Gle.refl _) (by simp))<|fun a F=>A0 ?_ rfl Bl
    refine Bf F M Az 0<|sZ ?_;clear F M a;intro w M;refine Ao<|?_
    refine eQ (Aw M)<|wk ?_;have M:=M.perm (Bk [rB az [vS U out.length out.length] 54,rB b4 [sN] 54,rB b3 [vB D,iI E,vS ta xs.length tc,kv,mv] 207,rB b2 [vS a1 l.length c1] 54,rB b1 [vS H c.kZ.length I,iI c.cap] 51] (C0 U out.length N::Lo) (Rn++L));refine A2 X5 rfl rfl (Rv M Eo)<|?_;clear M;rintro _ w M rfl
    have M:=M.perm (Bk (C0 U out.length N::Lo) [rB az [vS U out.length out.length] 54,rB b4 [sN] 54,rB b3 [vB D,iI E,vS ta xs.length tc,kv,mv] 207,rB b2 [vS a1 l.length c1] 54,rB b1 [vS H c.kZ.length I,iI c.cap] 51] (Rn++L));replace M:=z_M M;refine wk ?_;refine Ag rfl ?_ ?_
    ·intro a8;have bS:=dF (Ad a8);have bA:(decide (Dp out=0))=false:=(Ad a8);refine Bt<|?_
     refine Ak (fun a F=>Am (cs:=[sN]) Az.k rfl Az (F.evp rfl) rfl) rfl<|?_
     refine Cd rfl<|?_
     intro a F;refine Bf F M Az 1 ?_;clear F M a;intro w a M F;change Mem w0 an (rB az [vS U out.length out.length] 54::rB b4 [sN] 54::_::_::_::((C0 U out.length N::Lo)++(Rn++L))) _ at M;revert a;refine Dq rfl<|Fl<|Fu<|?_
     refine fun a F=>B1 F M (k:=1) rfl rfl Az rfl rfl rfl rfl ?_
     exact Gm (Auu Y A tM V tM) ((O.trans aa).trans ab) (M.wn (cN (.cons _ (cN (.cons _ (cN ((List.sublist_append_right _ _).trans (List.sublist_append_right _ _))))))))
    intro a9;have bU:=dT (Ae a9);have bB:(decide (Dp out=0))=true:=(Ae a9);refine wk ?_;intro a F;refine Bf F M Az 1 ?_;clear F M a;intro w a M F;change Mem w0 an (rB az [vS U out.length out.length] 54::rB b4 [vS U out.length out.length] 54::_::_::_::((C0 U out.length N::Lo)++(Rn++L))) _ at M;revert a;refine Dq rfl<|Fl<|?_
    refine fun a F=>B1 F M (k:=1) rfl rfl Az rfl rfl rfl rfl ?_
    exact ⟨_,_,((O.trans aa).trans ab),M.wn (cN (.cons _ (cN (.cons _ (cN (cC ((sR Lo).append (List.sublist_append_right Rn L)))))))),U,N,Lo,by rw [P1 Y A tM V tM],by rw [P1 Y A tM V tM],by rw [P1 Y A tM V tM];exact Eo⟩
   refine A0 ?_ rfl ?_
   ·skip
    revert a;refine B0 M Az rfl rfl<|?_;clear M;intro au w M
    refine Ao<|?_
    refine eK (C':=Keep a5 [rB b4 [sN] 54,rB b3 [vB D,iI E,vS ta xs.length tc,kv,mv] 207,rB b2 [vS a1 l.length c1] 54,rB b1 [vS H c.kZ.length I,iI c.cap] 51]) (Aw M) (fun w h=>h.mono (Gle.refl _) (by simp))<|fun a F=>A0 ?_ rfl Bl
    refine Cs F Aea rfl rfl (Ru M Sq23 (a3 A) (a0 A V)) ?_;clear F M a;rintro _ ap _ w a ac M ⟨U,N,Lo,rfl,rfl,Eo⟩ F;replace SC:=SC.mono Ai ac;replace T:=T.mono Ac ac;replace Sq22:=Sq22.mono Ab ac;have M:=M.perm (Bk (C0 U out.length N::Lo) [rB au [sN] 54,rB b4 [sN] 54,rB b3 [vB D,iI E,vS ta xs.length tc,kv,mv] 207,rB b2 [vS a1 l.length c1] 54,rB b1 [vS H c.kZ.length I,iI c.cap] 51] (Rn++L));replace M:=z_M M;revert a;refine Ao<|?_
    refine eK (C':=Keep ap [rB b4 [sN] 54,rB b3 [vB D,iI E,vS ta xs.length tc,kv,mv] 207,rB b2 [vS a1 l.length c1] 54,rB b1 [vS H c.kZ.length I,iI c.cap] 51]) (Aw M) (fun w h=>h.mono ac (by simp))<|fun a F=>A0 ?_ rfl Bl
    refine Bf F M Az 0<|sZ ?_;clear F M a;intro w M;refine Ao<|?_
    refine eK (C':=Keep ap [rB b4 [sN] 54,rB b3 [vB D,iI E,vS ta xs.length tc,kv,mv] 207,rB b2 [vS a1 l.length c1] 54,rB b1 [vS H c.kZ.length I,iI c.cap] 51]) (Aw M) (fun w h=>h.mono (Gle.refl _) (by simp))<|wk ?_;have M:=M.perm (Bk [rB au [vS U out.length out.length] 54,rB b4 [sN] 54,rB b3 [vB D,iI E,vS ta xs.length tc,kv,mv] 207,rB b2 [vS a1 l.length c1] 54,rB b1 [vS H c.kZ.length I,iI c.cap] 51] (C0 U out.length N::Lo) (Rn++L));refine A2 X5 rfl rfl (Rv M Eo)<|?_;clear M;rintro _ w M rfl
    have M:=M.perm (Bk (C0 U out.length N::Lo) [rB au [vS U out.length out.length] 54,rB b4 [sN] 54,rB b3 [vB D,iI E,vS ta xs.length tc,kv,mv] 207,rB b2 [vS a1 l.length c1] 54,rB b1 [vS H c.kZ.length I,iI c.cap] 51] (Rn++L));replace M:=z_M M;refine wk ?_;refine Ag rfl ?_ ?_
    ·intro aA;have bV:=dF (Ad aA);have bC:(decide (Dp out=0))=false:=(Ad aA);refine Bt<|?_
     refine Ak (fun a F=>Am (cs:=[sN]) Az.k rfl Az (F.evp rfl) rfl) rfl<|?_
     refine Cd rfl<|?_
     intro a F;refine Bf F M Az 1 ?_;clear F M a;intro w a M F;change Mem w0 ap (rB au [vS U out.length out.length] 54::rB b4 [sN] 54::_::_::_::((C0 U out.length N::Lo)++(Rn++L))) _ at M;revert a;refine Dq rfl<|Fl<|Fu<|?_
     refine fun a F=>B1 F M (k:=1) rfl rfl Az rfl rfl rfl rfl ?_
     exact Gm (Auu Y A tM V tM) ((O.trans aa).trans ac) (M.wn (cN (.cons _ (cN (.cons _ (cN ((List.sublist_append_right _ _).trans (List.sublist_append_right _ _))))))))
    intro aB;have bW:=dT (Ae aB);have bD:(decide (Dp out=0))=true:=(Ae aB);refine wk ?_;intro a F;refine Bf F M Az 1 ?_;clear F M a;intro w a M F;change Mem w0 ap (rB au [vS U out.length out.length] 54::rB b4 [vS U out.length out.length] 54::_::_::_::((C0 U out.length N::Lo)++(Rn++L))) _ at M;revert a;refine Dq rfl<|Fl<|?_
    refine fun a F=>B1 F M (k:=1) rfl rfl Az rfl rfl rfl rfl ?_
    exact ⟨_,_,((O.trans aa).trans ac),M.wn (cN (.cons _ (cN (.cons _ (cN (cC ((sR Lo).append (List.sublist_append_right Rn L)))))))),U,N,Lo,by rw [P1 Y A tM V tM],by rw [P1 Y A tM V tM],by rw [P1 Y A tM V tM];exact Eo⟩
   exact Bl
  refine A0 ?_ rfl ?_
  ·skip
   revert a;refine B0 M Az rfl rfl<|?_;clear M;intro av w M
   refine Ao<|?_
   refine eK (C':=Keep a4 [rB b4 [sN] 54,rB b3 [vB D,iI E,vS ta xs.length tc,kv,mv] 207,rB b2 [vS a1 l.length c1] 54,rB b1 [vS H c.kZ.length I,iI c.cap] 51]) (Aw M) (fun w h=>h.mono (Gle.refl _) (by simp))<|fun a F=>A0 ?_ rfl Bl
   rw [aK] at F;refine S9 F aG (caps:=mc) rfl rfl rfl (aH _ _ _ _ _ O M Sq22) ?_;clear F M a;rintro _ aN w a ah M ⟨bu,b5,rfl,Sq36⟩ F;replace SC:=SC.mono Ai ah;replace T:=T.mono Ac ah;revert a;refine Ao<|?_
   refine eK (C':=Keep aN [rB b4 [sN] 54,rB b3 [vB D,iI E,vS ta xs.length tc,kv,mv] 207,rB b2 [vS a1 l.length c1] 54,rB b1 [vS H c.kZ.length I,iI c.cap] 51]) (Aw M) (fun w h=>h.mono ah (by simp))<|fun a F=>A0 ?_ rfl Bl
   refine Cs F Aea rfl rfl (Ru M Sq36 (a3 A) (a0 A V)) ?_;clear F M a;rintro _ aq _ w a ae M ⟨U,N,Lo,rfl,rfl,Eo⟩ F;replace SC:=SC.mono Ai ae;replace T:=T.mono Ac ae;have M:=M.perm (Bk (C0 U out.length N::Lo) [rB av [sN] 54,rB b4 [sN] 54,rB b3 [vB D,iI E,vS ta xs.length tc,kv,mv] 207,rB b2 [vS a1 l.length c1] 54,rB b1 [vS H c.kZ.length I,iI c.cap] 51] (Rn++L));replace M:=z_M M;revert a;refine Ao<|?_
   refine eK (C':=Keep aq [rB b4 [sN] 54,rB b3 [vB D,iI E,vS ta xs.length tc,kv,mv] 207,rB b2 [vS a1 l.length c1] 54,rB b1 [vS H c.kZ.length I,iI c.cap] 51]) (Aw M) (fun w h=>h.mono ae (by simp))<|fun a F=>A0 ?_ rfl Bl
   refine Bf F M Az 0<|sZ ?_;clear F M a;intro w M;refine Ao<|?_
   refine eK (C':=Keep aq [rB b4 [sN] 54,rB b3 [vB D,iI E,vS ta xs.length tc,kv,mv] 207,rB b2 [vS a1 l.length c1] 54,rB b1 [vS H c.kZ.length I,iI c.cap] 51]) (Aw M) (fun w h=>h.mono (Gle.refl _) (by simp))<|wk ?_;have M:=M.perm (Bk [rB av [vS U out.length out.length] 54,rB b4 [sN] 54,rB b3 [vB D,iI E,vS ta xs.length tc,kv,mv] 207,rB b2 [vS a1 l.length c1] 54,rB b1 [vS H c.kZ.length I,iI c.cap] 51] (C0 U out.length N::Lo) (Rn++L));refine A2 X5 rfl rfl (Rv M Eo)<|?_;clear M;rintro _ w M rfl
   have M:=M.perm (Bk (C0 U out.length N::Lo) [rB av [vS U out.length out.length] 54,rB b4 [sN] 54,rB b3 [vB D,iI E,vS ta xs.length tc,kv,mv] 207,rB b2 [vS a1 l.length c1] 54,rB b1 [vS H c.kZ.length I,iI c.cap] 51] (Rn++L));replace M:=z_M M;refine wk ?_;refine Ag rfl ?_ ?_
   ·intro aC;have bX:=dF (Ad aC);have bF:(decide (Dp out=0))=false:=(Ad aC);refine Bt<|?_
    refine Ak (fun a F=>Am (cs:=[sN]) Az.k rfl Az (F.evp rfl) rfl) rfl<|?_
    refine Cd rfl<|?_
    intro a F;refine Bf F M Az 1 ?_;clear F M a;intro w a M F;change Mem w0 aq (rB av [vS U out.length out.length] 54::rB b4 [sN] 54::_::_::_::((C0 U out.length N::Lo)++(Rn++L))) _ at M;revert a;refine Dq rfl<|Fl<|Fu<|?_
    refine fun a F=>B1 F M (k:=1) rfl rfl Az rfl rfl rfl rfl ?_
    exact Gm (Auu Y A tM V tM) ((O.trans ah).trans ae) (M.wn (cN (.cons _ (cN (.cons _ (cN ((List.sublist_append_right _ _).trans (List.sublist_append_right _ _))))))))
   intro aD;have bY:=dT (Ae aD);have bG:(decide (Dp out=0))=true:=(Ae aD);refine wk ?_;intro a F;refine Bf F M Az 1 ?_;clear F M a;intro w a M F;change Mem w0 aq (rB av [vS U out.length out.length] 54::rB b4 [vS U out.length out.length] 54::_::_::_::((C0 U out.length N::Lo)++(Rn++L))) _ at M;revert a;refine Dq rfl<|Fl<|?_
   refine fun a F=>B1 F M (k:=1) rfl rfl Az rfl rfl rfl rfl ?_
   exact ⟨_,_,((O.trans ah).trans ae),M.wn (cN (.cons _ (cN (.cons _ (cN (cC ((sR Lo).append (List.sublist_append_right Rn L)))))))),U,N,Lo,by rw [P1 Y A tM V tM],by rw [P1 Y A tM V tM],by rw [P1 Y A tM V tM];exact Eo⟩
  exact Bl
 refine A0 ?_ rfl ?_
 ·skip
  revert a;refine B0 M Az rfl rfl<|?_;clear M;intro aw w M
  refine Ao<|?_
  refine eK (C':=Keep G [rB b4 [sN] 54,rB b3 [vB D,iI E,vS ta xs.length tc,kv,mv] 207,rB b2 [vS a1 l.length c1] 54,rB b1 [vS H c.kZ.length I,iI c.cap] 51]) (Aw M) (fun w h=>h.mono (Gle.refl _) (by simp))<|fun a F=>A0 ?_ rfl Bl
  revert a;refine C3 A0w rfl rfl (Xu (c:=c) (xs:=xs) M SC T tM aT)<|?_;clear M;rintro _ aO w ai M ⟨bv,b6,rfl,Sq42⟩
  refine Ao<|?_
  refine eK (C':=Keep aO [rB b4 [sN] 54,rB b3 [vB D,iI E,vS ta xs.length tc,kv,mv] 207,rB b2 [vS a1 l.length c1] 54,rB b1 [vS H c.kZ.length I,iI c.cap] 51]) (Aw M) (fun w h=>h.mono ai (by simp))<|fun a F=>A0 ?_ rfl Bl
  rw [aK] at F;refine S9 F aG (caps:=mc) rfl rfl rfl (aH _ _ _ _ _ ai M Sq42) ?_;clear F M a;rintro _ aP w a aj M ⟨bw,b7,rfl,Sq43⟩ F;revert a;refine Ao<|?_
  refine eK (C':=Keep aP [rB b4 [sN] 54,rB b3 [vB D,iI E,vS ta xs.length tc,kv,mv] 207,rB b2 [vS a1 l.length c1] 54,rB b1 [vS H c.kZ.length I,iI c.cap] 51]) (Aw M) (fun w h=>h.mono aj (by simp))<|fun a F=>A0 ?_ rfl Bl
  refine Cs F Aea rfl rfl (Ru M Sq43 (a3 A) (a0 A V)) ?_;clear F M a;rintro _ ar _ w a ag M ⟨U,N,Lo,rfl,rfl,Eo⟩ F;have M:=M.perm (Bk (C0 U out.length N::Lo) [rB aw [sN] 54,rB b4 [sN] 54,rB b3 [vB D,iI E,vS ta xs.length tc,kv,mv] 207,rB b2 [vS a1 l.length c1] 54,rB b1 [vS H c.kZ.length I,iI c.cap] 51] (Rn++L));replace M:=z_M M;revert a;refine Ao<|?_
  refine eK (C':=Keep ar [rB b4 [sN] 54,rB b3 [vB D,iI E,vS ta xs.length tc,kv,mv] 207,rB b2 [vS a1 l.length c1] 54,rB b1 [vS H c.kZ.length I,iI c.cap] 51]) (Aw M) (fun w h=>h.mono ag (by simp))<|fun a F=>A0 ?_ rfl Bl
  refine Bf F M Az 0<|sZ ?_;clear F M a;intro w M;refine Ao<|?_
  refine eK (C':=Keep ar [rB b4 [sN] 54,rB b3 [vB D,iI E,vS ta xs.length tc,kv,mv] 207,rB b2 [vS a1 l.length c1] 54,rB b1 [vS H c.kZ.length I,iI c.cap] 51]) (Aw M) (fun w h=>h.mono (Gle.refl _) (by simp))<|wk ?_;have M:=M.perm (Bk [rB aw [vS U out.length out.length] 54,rB b4 [sN] 54,rB b3 [vB D,iI E,vS ta xs.length tc,kv,mv] 207,rB b2 [vS a1 l.length c1] 54,rB b1 [vS H c.kZ.length I,iI c.cap] 51] (C0 U out.length N::Lo) (Rn++L));refine A2 X5 rfl rfl (Rv M Eo)<|?_;clear M;rintro _ w M rfl
  have M:=M.perm (Bk (C0 U out.length N::Lo) [rB aw [vS U out.length out.length] 54,rB b4 [sN] 54,rB b3 [vB D,iI E,vS ta xs.length tc,kv,mv] 207,rB b2 [vS a1 l.length c1] 54,rB b1 [vS H c.kZ.length I,iI c.cap] 51] (Rn++L));replace M:=z_M M;refine wk ?_;refine Ag rfl ?_ ?_
  ·intro aE;have bZ:=dF (Ad aE);have bH:(decide (Dp out=0))=false:=(Ad aE);refine Bt<|?_
   refine Ak (fun a F=>Am (cs:=[sN]) Az.k rfl Az (F.evp rfl) rfl) rfl<|?_
   refine Cd rfl<|?_
   intro a F;refine Bf F M Az 1 ?_;clear F M a;intro w a M F;change Mem w0 ar (rB aw [vS U out.length out.length] 54::rB b4 [sN] 54::_::_::_::((C0 U out.length N::Lo)++(Rn++L))) _ at M;revert a;refine Dq rfl<|Fl<|Fu<|?_
   refine fun a F=>B1 F M (k:=1) rfl rfl Az rfl rfl rfl rfl ?_
   exact Gm (Auu Y A tM V tM) ((ai.trans aj).trans ag) (M.wn (cN (.cons _ (cN (.cons _ (cN ((List.sublist_append_right _ _).trans (List.sublist_append_right _ _))))))))
  intro aF;have ca:=dT (Ae aF);have bI:(decide (Dp out=0))=true:=(Ae aF);refine wk ?_;intro a F;refine Bf F M Az 1 ?_;clear F M a;intro w a M F;change Mem w0 ar (rB aw [vS U out.length out.length] 54::rB b4 [vS U out.length out.length] 54::_::_::_::((C0 U out.length N::Lo)++(Rn++L))) _ at M;revert a;refine Dq rfl<|Fl<|?_
  refine fun a F=>B1 F M (k:=1) rfl rfl Az rfl rfl rfl rfl ?_
  exact ⟨_,_,((ai.trans aj).trans ag),M.wn (cN (.cons _ (cN (.cons _ (cN (cC ((sR Lo).append (List.sublist_append_right Rn L)))))))),U,N,Lo,by rw [P1 Y A tM V tM],by rw [P1 Y A tM V tM],by rw [P1 Y A tM V tM];exact Eo⟩
 exact Bl
end Go.Proofs.YtmmhmcplegpenaaGreatDoor
