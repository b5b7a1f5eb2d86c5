/- Own lemmas and walks. -/
import Derived.Test.YtmmhmcplegpenaaGreatDoorJ11
import Derived.Test.YtmmhmcplegpenaaGreatDoorJ17
set_option linter.unusedSimpArgs false
set_option linter.unusedVariables false
set_option maxRecDepth 10000
set_option maxHeartbeats 1600000
open Go.Value renaming slice→vS,string→vT,int→vI,bool→vB,pointer→vP
open Go.IntKind renaming i64→kI,u64→kU
open Go.Lib renaming cut→xC
open Go.Proofs.Tryz renaming prog→pG
open Go.Y.Res renaming blk→rB,row→rR
open Go.Y (pP qT iI iB iU sN)
open List renaming length_append→lA,length_cons→lC,length_nil→lN,length_take→lT,length_drop→lD,mem_of_getElem?→mG,mem_cons→mC,length_map→lM
namespace Go.Proofs.YtmmhmcplegpenaaGreatDoor
open Go Go.Y Go.Proofs
section
variable {c:RulesD} {l:List EntD} {ns:List NotD}
theorem Vy {k:Nat}:∀ {i:Nat},i≤k→Ck c l (ns.take k) i=Ck c l ns i
 | 0,_=>rfl
 | i+1,h=>by
  have ih:=Vy (k:=k) (i:=i) tM;simp only [Ck,ih,List.getElem?_take,if_pos (show i < k by omega)]
theorem V6 {k:Nat} (h:(Ck c l ns k).2=0):∀ {j:Nat},Ck c (Ck c l ns k).1 (ns.drop k) j=Ck c l ns (k+j)
 | 0=>by show ((Ck c l ns k).1,(0:Int))=Ck c l ns k;rw [← h]
 | j+1=>by
  have ih:=V6 (k:=k) h (j:=j);rw [show k+(j+1)=(k+j)+1 by omega,Ck,ih,Ck,List.getElem?_drop]
theorem Zq {k:Nat}:∀ {i:Nat},i≤k→Jt c l (ns.take k) i=Jt c l ns i
 | 0,_=>rfl
 | i+1,h=>by
  have ih:=Zq (k:=k) (i:=i) tM;simp only [Jt,Vy h,ih]
theorem Zr {k:Nat} (h:(Ck c l ns k).2=0):∀ {j:Nat},Jt c l ns (k+j)=k+Jt c (Ck c l ns k).1 (ns.drop k) j
 | 0=>Amm h
 | j+1=>by
  have ih:=Zr (k:=k) h (j:=j);have e:=V6 h (j:=j+1);have e2:Jt c l ns (k+(j+1))=if (Ck c l ns (k+(j+1))).2=0 then k+(j+1) else Jt c l ns (k+j):=rfl;have e3:Jt c (Ck c l ns k).1 (ns.drop k) (j+1)=if (Ck c (Ck c l ns k).1 (ns.drop k) (j+1)).2=0 then j+1 else Jt c (Ck c l ns k).1 (ns.drop k) j:=rfl;rw [e2,e3,e,ih]
  by_cases h1:(Ck c l ns (k+(j+1))).2=0
  ·rw [if_pos h1,if_pos h1]
  ·rw [if_neg h1,if_neg h1]
theorem Aqp {k:Nat} (h:(Ck c l ns k).2≠0):∀ j,k≤j→Jt c l ns j=Jt c l ns k:=by
 intro j A
 induction j with
 | zero =>
  have:k=0:=by omega
  subst this;rfl
 | succ j ih =>
  rcases Nat.eq_or_lt_of_le A with e | e
  ·rw [e]
  ·rw [Jt,N5 h _ A,if_neg h,ih tM]
theorem Avk {k:Nat} (Y:ns.length≤32) (N:k≤ns.length) :
  ((Ax c l (ns.take k)).2.2≠0→(Ax c l (ns.take k)).2.2=(Ax c l ns).2.2∧(Ax c l (ns.take k)).2.1=(Ax c l ns).2.1) ∧
  ((Ax c l (ns.take k)).2.2=0→(Ax c l (ns.take k)).2.1=k∧(Ax c (Ax c l (ns.take k)).1 (ns.drop k)).2.2=(Ax c l ns).2.2 ∧
   (Ax c l ns).2.1=k+(Ax c (Ax c l (ns.take k)).1 (ns.drop k)).2.1∧(Ax c (Ax c l (ns.take k)).1 (ns.drop k)).1=(Ax c l ns).1):=by
 have A:(ns.take k).length=k:=by rw [lT];omega
 have E:Ck c l (ns.take k) k=Ck c l ns k:=Vy (Nat.le_refl _)
 by_cases h0:(Ck c l ns k).2=0
 ·have D:Ax c l (ns.take k)=((Ck c l ns k).1,k,0):=by rw [Abh (i:=k) tM (by rw [E];exact h0) A.symm,E,A]
  rw [D];refine ⟨fun h=>absurd rfl h,fun _=>⟨rfl,?_⟩⟩;have V:(ns.drop k).length=ns.length - k:=lD;have H:=V6 h0 (j:=ns.length - k);have I:=Zr h0 (j:=ns.length - k);rw [show k+(ns.length - k)=ns.length by omega] at H I;have T:Ax c l ns=if (Ck c l ns ns.length).2=0 then ((Ck c l ns ns.length).1,ns.length,0) else ([],Jt c l ns ns.length,(Ck c l ns ns.length).2):=by
   unfold Ax;rw [if_neg (show ¬ 32 < ns.length by omega)]
  have S:Ax c (Ck c l ns k).1 (ns.drop k)=if (Ck c l ns ns.length).2=0 then ((Ck c l ns ns.length).1,ns.length - k,0) else ([],Jt c (Ck c l ns k).1 (ns.drop k) (ns.length - k),(Ck c l ns ns.length).2):=by
   unfold Ax;rw [if_neg (show ¬ 32 < (ns.drop k).length by omega),V,H]
  show (Ax c (Ck c l ns k).1 (ns.drop k)).2.2=_∧_=k+(Ax c (Ck c l ns k).1 (ns.drop k)).2.1∧(Ax c (Ck c l ns k).1 (ns.drop k)).1=_
  rw [T,S]
  by_cases h4:(Ck c l ns ns.length).2=0
  ·rw [if_pos h4,if_pos h4]
   exact ⟨rfl,by show ns.length=k+(ns.length - k);omega,rfl⟩
  rw [if_neg h4,if_neg h4]
  exact ⟨rfl,I,rfl⟩
 have U:=N5 h0 ns.length N;have D:Ax c l (ns.take k)=([],Jt c l ns k,(Ck c l ns k).2):=by
  unfold Ax;rw [if_neg tM,A,E,if_neg h0,Zq (Nat.le_refl _)]
 have O:Ax c l ns=([],Jt c l ns k,(Ck c l ns k).2):=by
  unfold Ax;rw [if_neg tM,U,if_neg h0,Aqp h0 _ N]
 rw [D,O]
 exact ⟨fun _=>⟨rfl,rfl⟩,fun h=>absurd h h0⟩
theorem Amn:∀ i,Jt c l ns i≤i
 | 0=>Nat.le_refl _
 | i+1=>by
  have ih:=Amn i;rw [Jt];split <;> omega
theorem A2d:(Ax c l ns).2.1≤ns.length:=by
 unfold Ax
 split
 ·exact Nat.zero_le _
 split
 ·exact Nat.le_refl _
 exact Amn _
end
structure Q5 where
 a:Nat
 b:Nat
 c:Nat
 d:Nat
 e:Nat
def rdQ5:Rd Q5:=fun _ cs q=>cs=[iB ((q.a:Nat):Int),iB ((q.b:Nat):Int),iB ((q.c:Nat):Int),iB ((q.d:Nat):Int),iB ((q.e:Nat):Int)]∧q.a < 256∧q.b < 256∧q.c < 256∧q.d < 256∧q.e < 256
theorem Cf:Hx rdQ5:=fun _ _ _ _ _ h=>h
theorem Ake (a b:Nat):∃ p:Nat,((a:Nat):Int) % (((b:Nat):Int)+1)=((p:Nat):Int)∧p≤b :=
 ⟨a % (b+1),rfl,Nat.le_of_lt_succ (Nat.mod_lt _ (Nat.succ_pos _))⟩
theorem Amp (a b p:Nat) (h:p≤b):∃ k:Nat,((a:Nat):Int) % (((b:Nat):Int) - ((p:Nat):Int)+1)=((k:Nat):Int)∧p+k≤b:=by
 obtain ⟨k,A,D⟩:=Ake a (b - p);refine ⟨k,?_,tM⟩;rw [← A,show ((b:Nat):Int) - ((p:Nat):Int)=((b - p:Nat):Int) by omega]
variable {w0 w:World} {G:Av} {L:List Res}
theorem Akr (M:Mem w0 G L w) {q:Q4} {X:ItemD} {za zb E H:Int} (V:q.a < 256∧q.b < 256∧q.c < 256∧q.d < 256) (N:za=((q.a:Nat):Int)) (O:zb=((q.b:Nat):Int)) (S:E=((q.c:Nat):Int)) (T:H=((q.d:Nat):Int)) (U:X=Gq q):Calls pG 60 #[.agg #[iB za,iB zb,iB E,iB H]] w (Ret w0 G L fun I v=>∃ (A:Option Addr) (D:Nat),v=.agg #[iU ((X.key:Nat):Int),iB ((X.typ:Nat):Int),qT X.text,vS A X.mZ.length D]∧Aj Cr 1 I (vS A X.mZ.length D) X.mZ):=by
 subst U N O S T;exact Wu M V
theorem H0 {E:Av} {k n D:Nat} {a b t:Int} {xs:List ItemD} {A:Option Addr} {v:Value} (O:k < 256) (H:-9223372036854775808≤a∧a≤9223372036854775807) (I:-9223372036854775808≤b∧b≤9223372036854775807) (N:-9223372036854775808≤t∧t≤9223372036854775807) (T:xs.length≤1030) (U:n=xs.length)
  (S:Aj Bp 4 E (vS A n D) xs) (V:v=.agg #[iB ((k:Nat):Int),iI a,iI b,iI t,vS A n D]):∃ (x:NotD) (A:Option Addr) (D:Nat),v=.agg #[iB ((x.kind:Nat):Int),iI x.at_,iI x.count,iI x.to,vS A x.iZ.length D]∧(x.kind < 256∧Al .i64 x.at_∧Al .i64 x.count∧Al .i64 x.to∧x.iZ.length≤9223372036854775807)∧Aj Bp 4 E (vS A x.iZ.length D) x.iZ∧x.iZ.length≤1030:=by
 subst U
 exact ⟨⟨k,a,b,t,xs⟩,A,D,V,⟨O,Bi H.1 H.2,Bi I.1 I.2,Bi N.1 N.2,by show xs.length≤_;omega⟩,S,T⟩
set_option maxHeartbeats 4000000 in
theorem Akq (M:Mem w0 G L w) {q:Q5} (hq:q.a < 256∧q.b < 256∧q.c < 256∧q.d < 256∧q.e < 256) {a1:Option Addr} {c1:Nat} {l:List EntD} (S:Aj Bj 6 G (vS a1 l.length c1) l) (dO:l.length≤1024) {n:Nat} (hn:n≤6):Calls pG 76 #[.agg #[iB ((q.a:Nat):Int),iB ((q.b:Nat):Int),iB ((q.c:Nat):Int),iB ((q.d:Nat):Int),iB ((q.e:Nat):Int)],vS a1 l.length c1,iI ((n:Nat):Int)] w (Ret w0 G L fun G' v=>∃ (x:NotD) (na:Option Addr) (nc:Nat),v=.agg #[iB ((x.kind:Nat):Int),iI x.at_,iI x.count,iI x.to,vS na x.iZ.length nc]∧(x.kind < 256∧Al .i64 x.at_∧Al .i64 x.count∧Al .i64 x.to∧x.iZ.length≤9223372036854775807)∧Aj Bp 4 G' (vS na x.iZ.length nc) x.iZ∧x.iZ.length≤1030):=by
 have bS:=S.bound;obtain ⟨dR,dS,dU,dV,dW⟩:=id hq;refine Ap (vs:=[_,_,_]) Tryz.func76 rfl (n:=216) rfl rfl<|?_
 refine Bt<|?_
 refine Ch M rfl rfl rfl<|?_;clear M;intro b1 w M
 refine B0 M Ba rfl rfl<|?_;clear M;intro b2 w M
 refine wk ?_;refine Ak (fun a F=>Br (j:=1) F0.k Cp rfl (F.ev rfl) (F.ev rfl) tR tD) rfl<|wk ?_;refine Ak (fun a F=>Bb Cj.k ⟨_,by rw [Be Cp.k]⟩ (F.ev rfl) (Bi tM tM)) rfl<|wk ?_;refine Ak (fun a F=>C5 (F.ev rfl) (F.ev rfl) tM tM) rfl<|?_
 obtain ⟨p,hp,cL⟩:=Ake q.b l.length;intro a F;rw [hp] at F;revert a;refine wk ?_;refine Ak (fun a F=>Br (j:=2) F0.k Cp rfl (F.ev rfl) (F.ev rfl) tR tD) rfl<|wk ?_;refine Ak (fun a F=>Bb Cj.k ⟨_,by rw [Be Cp.k]⟩ (F.ev rfl) (Bi tM tM)) rfl<|wk ?_;refine Ak (fun a F=>C5 (F.ev rfl) (F.ev rfl) tM tM) rfl<|?_
 obtain ⟨k,hk,dN⟩:=Amp q.c l.length p cL;intro a F;rw [hk] at F;revert a;refine wk ?_;have M:=M.nilrow 26 4;replace M:=z_M M;intro a F;refine Bd (fun m a' w'=>∃ (i:Nat),∃ (af:Option Addr),∃ (nf:Nat),∃ (cf:Nat),∃ (aq:List Value),∃ (fs:List ItemD),m=4 - i∧∃ G4,Gle G G4∧Fits 216 a' [(1,vS a1 l.length c1),(2,iI ((n:Nat):Int)),(3,pP b1),(6,pP b2),(7,iI ((p:Nat):Int)),(8,iI ((k:Nat):Int)),(9,vS af nf cf),(10,iI ((i:Nat):Int))]∧Mem w0 G4 (rR (vS af nf cf) (nf) (aq) 26 4::rB b2 [iB 0,iI 0,iI 0,iI 0,sN] 65::rB b1 [iB ((q.a:Nat):Int),iB ((q.b:Nat):Int),iB ((q.c:Nat):Int),iB ((q.d:Nat):Int),iB ((q.e:Nat):Int)] 93::L) w'∧(i≤3)∧(Els Bp 4 G4 aq fs)∧(nf=fs.length)∧(fs.length≤i)) _ ⟨0,none,0,0,[],[],rfl,G,Gle.refl _,fU,M,tM,Els.nil,rfl,tD⟩ ?_;clear F M;rintro m a w ⟨i,af,nf,cf,aq,fs,rfl,G4,N,F,M,hi,Ef,cK,dJ⟩;replace S:=S.mono Ab N;revert a;refine wk ?_;refine Ak (fun a F=>Br (j:=2) F0.k Cp rfl (F.ev rfl) (F.ev rfl) tR tD) rfl<|wk ?_;refine Ak (fun a F=>C5 (F.ev rfl) (F.ev rfl) tM tM) rfl<|Ak (fun a F=>Bb Cj.k ⟨_,by rw [Be Cp.k]⟩ (F.ev rfl) (Bi tM tM)) rfl<|wk ?_;refine qD rfl ?_ ?_
 ·intro h5;refine wk ?_;refine Ak (fun a F=>Br (j:=4) F0.k Cp rfl (F.ev rfl) (F.ev rfl) tR tD) rfl<|wk ?_;refine Ak (fun a F=>Bb Cp.k ⟨_,by rw [Be Cj.k]⟩ (F.ev rfl) (Ho tM tM)) rfl<|Ak (fun a F=>Ld (F.ev rfl) (F.ev rfl)) rfl<|?_
  obtain ⟨z6,dY,cP⟩:=Rb (((q.e:Nat):Int)+((i:Nat):Int));intro a F;rw [cP] at F;revert a;refine Ak (fun a F=>Br (j:=3) F0.k Cp rfl (F.ev rfl) (F.ev rfl) tR tD) rfl<|wk ?_;refine Ak (fun a F=>Br (j:=4) F0.k Cp rfl (F.ev rfl) (F.ev rfl) tR tD) rfl<|wk ?_;refine Ak (fun a F=>Iq (F.ev rfl) (F.ev rfl) tM tM (Ho tM tM)) rfl<|Ak (fun a F=>C9 F (cs:=[iB 0,iB ((z6:Nat):Int),iB ((q.d:Nat):Int),iB (((q.e:Nat):Int) / 2)]) Hd.k Hd Cp rfl rfl) rfl<|?_
  obtain ⟨H,aP⟩:∃ X,X=Gq (⟨0,z6,q.d,q.e / 2⟩:Q4):=⟨_,rfl⟩;have aO:(H.key < 18446744073709551616∧H.typ < 256∧H.text.length≤9223372036854775807):=by rw [aP];exact Acx _
  refine C3 Apn rfl rfl (Akr (q:=(⟨0,z6,q.d,q.e / 2⟩:Q4)) M ⟨by show 0 < 256;omega,by show z6 < 256;omega,by show q.d < 256;omega,by show q.e / 2 < 256;omega⟩ (show (0:Int)=((0:Nat):Int) by omega) rfl rfl (show (((q.e:Nat):Int) / 2:Int)=((q.e / 2:Nat):Int) by omega) aP)<|?_;clear M;rintro _ bz w av M ⟨aj,ak,rfl,aH⟩
  replace S:=S.mono Ab av;replace Ef:=Ef.mono Ac av;refine B0 M Bc rfl rfl<|?_;clear M;intro b8 w M
  intro a F;refine Bf F M Bc 0<|sZ ?_;clear F M a;intro w M;refine wk ?_;refine Ak (fun a F=>Hy (F.ev rfl) (F.ev rfl) (Bi tM tM)) rfl<|wk ?_;refine Ak (fun a F=>Bb Gh.k ⟨_,by rw [Be Cj.k]⟩ (F.ev rfl) (Gn tM tM)) rfl<|Ak (fun a F=>Fx (F.ev rfl) (F.ev rfl) (Gn tM tM)) rfl<|wk ?_;refine D0 Gh M 0 rfl rfl rfl rfl rfl rfl<|?_;clear M;intro w M
  refine wk ?_;intro a F;refine Ar F M Ci.k Bc rfl rfl (cs:=[iU (100+((10 * ((n:Nat):Int))+((i:Nat):Int))),iB ((H.typ:Nat):Int),qT H.text,vS aj H.mZ.length ak]) rfl rfl tS tD rfl ?_;clear F M a;intro dZ w a M F;obtain ⟨da,dj,rfl,ck,bV,c5⟩:=M.rS (k:=0) rfl;have aQ:(100+((10 * ((n:Nat):Int))+((i:Nat):Int)):Int)=(((100+(10 * n+i)):Nat):Int):=by first | rfl | omega
  have bn:Els Bp 4 bz [iU (100+((10 * ((n:Nat):Int))+((i:Nat):Int))),iB ((H.typ:Nat):Int),qT H.text,vS aj H.mZ.length ak] [(⟨100+(10 * n+i),H.typ,H.text,H.mZ⟩:ItemD)]:=⟨[iU (100+((10 * ((n:Nat):Int))+((i:Nat):Int))),iB ((H.typ:Nat):Int),qT H.text,vS aj H.mZ.length ak],[],rfl,rfl,⟨aj,ak,by rw [aQ],by show 100+(10 * n+i) < _;omega,aO.2.1,aO.2.2,(by have h_:=aH.bound;show H.mZ.length≤_;omega),aH⟩,rfl⟩;refine A4 F M (k:=2) (k2:=0) rfl rfl Ci.k Bc rfl rfl tD rfl rfl tX tO rfl ?_;clear F M a;intro ea w a M F;have bq:=Els.append Ef bn;obtain ⟨b9,bK,rfl,cl,bW,c6⟩:=M.rS (k:=2) rfl;revert a;refine wk ?_;intro a F
  exact ⟨_,tM,i+1,(b9),(nf+1),(bK),aq++([iU (100+((10 * ((n:Nat):Int))+((i:Nat):Int))),iB ((H.typ:Nat):Int),qT H.text,vS aj H.mZ.length ak]),fs++([(⟨100+(10 * n+i),H.typ,H.text,H.mZ⟩:ItemD)]),rfl,bz,(N.trans av),fU,(M.wn tW),tM,bq,by simp only [lA,lC,lN];omega,by simp only [lA,lC,lN];omega⟩
 intro dv;refine wk ?_;refine Ak (fun a F=>Br (j:=0) F0.k Cp rfl (F.ev rfl) (F.ev rfl) tR tD) rfl<|wk ?_;refine Ak (fun a F=>C5 (F.ev rfl) (F.ev rfl) tM tM) rfl<|wk ?_;refine qD rfl ?_ ?_
 ·intro dw;refine wk ?_;refine Ak (fun a F=>Am (cs:=[iB 1,iI ((p:Nat):Int),iI 0,iI 0,vS af nf cf]) Ba.k rfl Ba (F.evp rfl) rfl) rfl<|fun a F=>?_
  refine Bf F M Ba 1<|sZ ?_;clear F M a;intro w M;refine wk ?_;obtain ⟨a3,cS,bC,bN,aw,ba,b0,M⟩:=M.fZ Ac (k:=0) rfl Ef tD;clear ba bC bN;replace S:=S.mono Ab aw;have a9:nf=fs.length:=a3;replace M:=z_M M;intro a F;refine Hf F M (k:=0) rfl rfl Ba rfl rfl rfl ?_
  exact ⟨_,(N.trans aw),M.wn dS2,H0 (k:=1) (a:=((p:Nat):Int)) (b:=0) (t:=0) (xs:=fs) tM ⟨tM,tM⟩ ⟨tM,tM⟩ ⟨tM,tM⟩ tO a3 b0 rfl⟩
 intro dx;refine wk ?_;refine qD rfl ?_ ?_
 ·intro dy;refine wk ?_;refine Ak (fun a F=>Zm (b:=k) (c:=3) (F.ev rfl) (F.ev rfl)) rfl<|Ak (fun a F=>Am (cs:=[iB 2,iI ((p:Nat):Int),iI ((min k 3:Nat):Int),iI 0,sN]) Ba.k rfl Ba (F.evp rfl) rfl) rfl<|fun a F=>?_
  refine Bf F M Ba 1<|sZ ?_;clear F M a;intro w M;refine wk ?_;replace M:=z_M M;intro a F;refine Hf F M (k:=1) rfl rfl Ba rfl rfl rfl ?_
  exact ⟨_,N,M.wn dS3,H0 (k:=2) (a:=((p:Nat):Int)) (b:=((min k 3:Nat):Int)) (t:=0) (xs:=([]:List ItemD)) tM ⟨tM,tM⟩ ⟨tM,tM⟩ ⟨tM,tM⟩ tO rfl Aj.nil rfl⟩
 intro dz;refine wk ?_;refine qD rfl ?_ ?_
 ·intro d0;refine wk ?_;refine Ak (fun a F=>Br (j:=3) F0.k Cp rfl (F.ev rfl) (F.ev rfl) tR tD) rfl<|wk ?_;refine Ak (fun a F=>Bb Cj.k ⟨_,by rw [Be Cp.k]⟩ (F.ev rfl) (Bi tM tM)) rfl<|wk ?_;refine Ak (fun a F=>C5 (F.ev rfl) (F.ev rfl) tM tM) rfl<|?_
  obtain ⟨u,hu,dX⟩:=Amp q.d l.length k tM;intro a F;rw [hu] at F;revert a;refine Ak (fun a F=>Am (cs:=[iB 3,iI ((p:Nat):Int),iI ((k:Nat):Int),iI ((u:Nat):Int),sN]) Ba.k rfl Ba (F.evp rfl) rfl) rfl<|fun a F=>?_
  refine Bf F M Ba 1<|sZ ?_;clear F M a;intro w M;refine wk ?_;replace M:=z_M M;intro a F;refine Hf F M (k:=1) rfl rfl Ba rfl rfl rfl ?_
  exact ⟨_,N,M.wn dS3,H0 (k:=3) (a:=((p:Nat):Int)) (b:=((k:Nat):Int)) (t:=((u:Nat):Int)) (xs:=([]:List ItemD)) tM ⟨tM,tM⟩ ⟨tM,tM⟩ ⟨tM,tM⟩ tO rfl Aj.nil rfl⟩
 intro d1;refine wk ?_;refine qD rfl ?_ ?_
 ·intro d2;refine wk ?_;refine Ak (fun a F=>Am (cs:=[iB 4,iI ((p:Nat):Int),iI 0,iI 0,sN]) Ba.k rfl Ba (F.evp rfl) rfl) rfl<|B0 M Ba rfl rfl<|?_;clear M;intro bJ w M
  intro a F;refine Bf F M Ba 0<|sZ ?_;clear F M a;intro w M;refine wk ?_;have M:=M.nilrow 26 4;replace M:=z_M M;intro a F;refine Bd (fun m a' w'=>∃ (i:Nat),∃ (ag:Option Addr),∃ (ng:Nat),∃ (cg:Nat),∃ (aC:List Value),∃ (gs:List ItemD),m=4 - i∧∃ aB,Gle G4 aB∧Fits 216 a' [(1,vS a1 l.length c1),(2,iI ((n:Nat):Int)),(3,pP b1),(6,pP b2),(7,iI ((p:Nat):Int)),(8,iI ((k:Nat):Int)),(13,pP bJ),(14,iI ((i:Nat):Int))]∧Mem w0 aB (rR (vS ag ng cg) (ng) (aC) 26 4::rB bJ [iB 4,iI ((p:Nat):Int),iI 0,iI 0,vS ag ng cg] 65::rR (vS af nf cf) (nf) (aq) 26 4::rB b2 [iB 0,iI 0,iI 0,iI 0,sN] 65::rB b1 [iB ((q.a:Nat):Int),iB ((q.b:Nat):Int),iB ((q.c:Nat):Int),iB ((q.d:Nat):Int),iB ((q.e:Nat):Int)] 93::L) w'∧(i≤3)∧(Els Bp 4 aB aC gs)∧(ng=gs.length)∧(gs.length≤i)) _ ⟨0,none,0,0,[],[],rfl,G4,Gle.refl _,fU,M,tM,Els.nil,rfl,tD⟩ ?_;clear F M;rintro m a w ⟨i,ag,ng,cg,aC,gs,rfl,aB,ap,F,M,dM,Eg,dP,dK⟩;replace S:=S.mono Ab ap;replace Ef:=Ef.mono Ac ap;revert a;refine wk ?_;refine Ak (fun a F=>Zm (b:=k) (c:=3) (F.ev rfl) (F.ev rfl)) rfl<|wk ?_;refine qD rfl ?_ ?_
  ·intro d3;refine wk ?_;refine Ak (fun a F=>Br (j:=3) F0.k Cp rfl (F.ev rfl) (F.ev rfl) tR tD) rfl<|wk ?_;refine Ak (fun a F=>Bb Cp.k ⟨_,by rw [Be Cj.k]⟩ (F.ev rfl) (Ho tM tM)) rfl<|Ak (fun a F=>Ld (F.ev rfl) (F.ev rfl)) rfl<|?_
   obtain ⟨aA,dq,bU⟩:=Rb (((q.d:Nat):Int)+((i:Nat):Int));intro a F;rw [bU] at F;revert a;refine Ak (fun a F=>Br (j:=4) F0.k Cp rfl (F.ev rfl) (F.ev rfl) tR tD) rfl<|wk ?_;refine Ak (fun a F=>Br (j:=4) F0.k Cp rfl (F.ev rfl) (F.ev rfl) tR tD) rfl<|wk ?_;refine Ak (fun a F=>C9 F (cs:=[iB 0,iB ((aA:Nat):Int),iB ((q.e:Nat):Int),iB ((q.e:Nat):Int)]) Hd.k Hd Cp rfl rfl) rfl<|?_
   obtain ⟨D,az⟩:∃ X,X=Gq (⟨0,aA,q.e,q.e⟩:Q4):=⟨_,rfl⟩;have ay:(D.key < 18446744073709551616∧D.typ < 256∧D.text.length≤9223372036854775807):=by rw [az];exact Acx _
   refine C3 Apn rfl rfl (Akr (q:=(⟨0,aA,q.e,q.e⟩:Q4)) M ⟨by show 0 < 256;omega,by show aA < 256;omega,by show q.e < 256;omega,by show q.e < 256;omega⟩ (show (0:Int)=((0:Nat):Int) by omega) rfl rfl rfl az)<|?_;clear M;rintro _ aG w aa M ⟨U,Y,rfl,au⟩
   replace S:=S.mono Ab aa;replace Ef:=Ef.mono Ac aa;replace Eg:=Eg.mono Ac aa;refine B0 M Bc rfl rfl<|?_;clear M;intro du w M
   intro a F;refine Bf F M Bc 0<|sZ ?_;clear F M a;intro w M;refine wk ?_;obtain ⟨I,aY⟩:=Aq (xs:=l) (i:=p+i) tM;obtain ⟨dh,dr,_,cY,_,cQ,aW⟩:=S.at aY;obtain ⟨cy,aE,aU,aS⟩:=aW;obtain ⟨cM,cO,rfl,a2,bj,bl,cI,cx⟩:=aU;subst aE;have c0:(I.item.key < 18446744073709551616∧I.item.typ < 256∧I.item.text.length≤9223372036854775807):=⟨a2,bj,bl⟩;have c2:-9223372036854775808≤I.size∧I.size≤9223372036854775807:=aS;refine wk ?_;refine D0 Gh M 0 rfl rfl rfl rfl rfl rfl<|?_;clear M;intro w M
   refine wk ?_;intro a F;refine Ar F M Ci.k Bc rfl rfl (cs:=[iU ((I.item.key:Nat):Int),iB ((D.typ:Nat):Int),qT D.text,vS U D.mZ.length Y]) rfl rfl tS tD rfl ?_;clear F M a;intro eb w a M F;obtain ⟨db,dk,rfl,cm,bX,c7⟩:=M.rS (k:=0) rfl;have aR:(((I.item.key:Nat):Int):Int)=(((I.item.key):Nat):Int):=by first | rfl | omega
   have bo:Els Bp 4 aG [iU ((I.item.key:Nat):Int),iB ((D.typ:Nat):Int),qT D.text,vS U D.mZ.length Y] [(⟨I.item.key,D.typ,D.text,D.mZ⟩:ItemD)]:=⟨[iU ((I.item.key:Nat):Int),iB ((D.typ:Nat):Int),qT D.text,vS U D.mZ.length Y],[],rfl,rfl,⟨U,Y,by rw [aR],by show I.item.key < _;exact a2,ay.2.1,ay.2.2,(by have h_:=au.bound;show D.mZ.length≤_;omega),au⟩,rfl⟩;refine A4 F M (k:=2) (k2:=0) rfl rfl Ci.k Bc rfl rfl tD rfl rfl tX tO rfl ?_;clear F M a;intro ec w a M F;have br:=Els.append Eg bo;obtain ⟨bA,bL,rfl,cn,bY,c8⟩:=M.rS (k:=2) rfl;revert a;refine wk ?_;refine D0 Ci M 3 rfl rfl rfl rfl rfl rfl<|?_;clear M;intro w M
   refine wk ?_;intro a F
   exact ⟨_,tM,i+1,(bA),(ng+1),(bL),aC++([iU ((I.item.key:Nat):Int),iB ((D.typ:Nat):Int),qT D.text,vS U D.mZ.length Y]),gs++([(⟨I.item.key,D.typ,D.text,D.mZ⟩:ItemD)]),rfl,aG,(ap.trans aa),fU,(M.wn tW),tM,br,by simp only [lA,lC,lN];omega,by simp only [lA,lC,lN];omega⟩
  intro d4;refine wk ?_;intro a F;refine Bf F M Ba 3<|sZ ?_;clear F M a;intro w M;refine wk ?_;obtain ⟨a4,cT,bD,bO,am,bb,b3,M⟩:=M.fZ Ac (k:=0) rfl Eg tD;clear bb bD bO;replace S:=S.mono Ab am;replace Ef:=Ef.mono Ac am;have a9:ng=gs.length:=a4;replace M:=z_M M;intro a F;refine Hf F M (k:=2) rfl rfl Ba rfl rfl rfl ?_
  exact ⟨_,((N.trans ap).trans am),M.wn dS4,H0 (k:=4) (a:=((p:Nat):Int)) (b:=0) (t:=0) (xs:=gs) tM ⟨tM,tM⟩ ⟨tM,tM⟩ ⟨tM,tM⟩ tO a4 b3 rfl⟩
 intro d5;refine wk ?_;refine qD rfl ?_ ?_
 ·intro d6;refine wk ?_;refine fun a F=>Bd (fun m a' w'=>∃ (j:Nat),∃ (ah:Option Addr),∃ (nh:Nat),∃ (ch:Nat),∃ (aD:List Value),∃ (hs:List ItemD),m=k - j∧Fits 216 a' [(1,vS a1 l.length c1),(2,iI ((n:Nat):Int)),(3,pP b1),(6,pP b2),(7,iI ((p:Nat):Int)),(8,iI ((k:Nat):Int)),(9,vS ah nh ch),(16,iI ((j:Nat):Int))]∧Mem w0 G4 (rR (vS ah nh ch) (nh) (aD) 26 4::rB b2 [iB 0,iI 0,iI 0,iI 0,sN] 65::rB b1 [iB ((q.a:Nat):Int),iB ((q.b:Nat):Int),iB ((q.c:Nat):Int),iB ((q.d:Nat):Int),iB ((q.e:Nat):Int)] 93::L) w'∧(j≤k)∧(Els Bp 4 G4 aD hs)∧(nh=hs.length)∧(hs.length≤3+j)) _ ⟨0,(af),(nf),(cf),aq,fs,rfl,fU,M,tM,Ef,cK,tM⟩ ?_;clear F M;rintro m a w ⟨j,ah,nh,ch,aD,hs,rfl,F,M,hj,Eh,dQ,dL⟩;revert a;refine wk ?_;refine qD rfl ?_ ?_
  ·intro d7;refine wk ?_;obtain ⟨A,aZ⟩:=Aq (xs:=l) (i:=p+j) tM;obtain ⟨di,dt,_,cZ,_,cR,aX⟩:=S.at aZ;obtain ⟨cz,aF,aV,aT⟩:=aX;obtain ⟨T,V,rfl,bi,bk,bm,cJ,ar⟩:=aV;subst aF;have an:(A.item.key < 18446744073709551616∧A.item.typ < 256∧A.item.text.length≤9223372036854775807):=⟨bi,bk,bm⟩;have c4:-9223372036854775808≤A.size∧A.size≤9223372036854775807:=aT;refine wk ?_;intro a F;refine Ar F M Ci.k Bc rfl rfl (cs:=[iU ((A.item.key:Nat):Int),iB ((A.item.typ:Nat):Int),qT A.item.text,vS T A.item.mZ.length V]) rfl rfl tS tD rfl ?_;clear F M a;intro ed w a M F;obtain ⟨dc,dl,rfl,co,bZ,c9⟩:=M.rS (k:=0) rfl;have bp:Els Bp 4 G4 [iU ((A.item.key:Nat):Int),iB ((A.item.typ:Nat):Int),qT A.item.text,vS T A.item.mZ.length V] [A.item]:=⟨[iU ((A.item.key:Nat):Int),iB ((A.item.typ:Nat):Int),qT A.item.text,vS T A.item.mZ.length V],[],rfl,rfl,⟨T,V,rfl,an.1,an.2.1,an.2.2,(by have h_:=ar.bound;show A.item.mZ.length≤_;omega),ar⟩,rfl⟩;refine A4 F M (k:=1) (k2:=0) rfl rfl Ci.k Bc rfl rfl tD rfl rfl tX tO rfl ?_;clear F M a;intro ee w a M F
   have bt:=Els.append Eh bp;obtain ⟨bB,bM,rfl,cp,ca,cA⟩:=M.rS (k:=1) rfl;revert a;refine wk ?_;intro a F
   exact ⟨_,tM,j+1,(bB),(nh+1),(bM),aD++([iU ((A.item.key:Nat):Int),iB ((A.item.typ:Nat):Int),qT A.item.text,vS T A.item.mZ.length V]),hs++([A.item]),rfl,fU,(M.wn tW),tM,bt,by simp only [lA,lC,lN];omega,by simp only [lA,lC,lN];omega⟩
  intro d8;refine wk ?_;refine Ak (fun a F=>Am (cs:=[iB 5,iI 0,iI 0,iI 0,vS ah nh ch]) Ba.k rfl Ba (F.evp rfl) rfl) rfl<|fun a F=>?_
  refine Bf F M Ba 1<|sZ ?_;clear F M a;intro w M;refine wk ?_;obtain ⟨a5,cU,bF,bP,ax,be,b4,M⟩:=M.fZ Ac (k:=0) rfl Eh tD;clear be bF bP;have a9:nh=hs.length:=a5;replace M:=z_M M;intro a F;refine Hf F M (k:=0) rfl rfl Ba rfl rfl rfl ?_
  exact ⟨_,(N.trans ax),M.wn dS2,H0 (k:=5) (a:=0) (b:=0) (t:=0) (xs:=hs) tM ⟨tM,tM⟩ ⟨tM,tM⟩ ⟨tM,tM⟩ tO a5 b4 rfl⟩
 intro d9;refine wk ?_;refine qD rfl ?_ ?_
 ·intro dA;refine wk ?_;refine Ak (fun a F=>Br (j:=1) F0.k Cp rfl (F.ev rfl) (F.ev rfl) tR tD) rfl<|wk ?_;refine Ak (fun a F=>Br (j:=2) F0.k Cp rfl (F.ev rfl) (F.ev rfl) tR tD) rfl<|wk ?_;refine Ak (fun a F=>Br (j:=3) F0.k Cp rfl (F.ev rfl) (F.ev rfl) tR tD) rfl<|wk ?_;refine Ak (fun a F=>Br (j:=4) F0.k Cp rfl (F.ev rfl) (F.ev rfl) tR tD) rfl<|wk ?_;refine Ak (fun a F=>C9 F (cs:=[iB ((q.b:Nat):Int),iB ((q.c:Nat):Int),iB ((q.d:Nat):Int),iB ((q.e:Nat):Int)]) Hd.k Hd Cp rfl rfl) rfl<|?_
  obtain ⟨E,a0⟩:∃ X,X=Gq (⟨q.b,q.c,q.d,q.e⟩:Q4):=⟨_,rfl⟩;have ao:(E.key < 18446744073709551616∧E.typ < 256∧E.text.length≤9223372036854775807):=by rw [a0];exact Acx _
  refine C3 Apn rfl rfl (Akr (q:=(⟨q.b,q.c,q.d,q.e⟩:Q4)) M ⟨by show q.b < 256;omega,by show q.c < 256;omega,by show q.d < 256;omega,by show q.e < 256;omega⟩ rfl rfl rfl rfl a0)<|?_;clear M;rintro _ bx w al M ⟨ae,ai,rfl,SMk47⟩
  replace Ef:=Ef.mono Ac al;intro a F;refine Ar F M Ci.k Bc rfl rfl (cs:=[iU ((E.key:Nat):Int),iB ((E.typ:Nat):Int),qT E.text,vS ae E.mZ.length ai]) rfl rfl tS tD rfl ?_;clear F M a;intro ef w a M F;obtain ⟨de,dm,rfl,cq,cb,cB⟩:=M.rS (k:=0) rfl;have Eb49:Els Bp 4 bx [iU ((E.key:Nat):Int),iB ((E.typ:Nat):Int),qT E.text,vS ae E.mZ.length ai] [E]:=⟨[iU ((E.key:Nat):Int),iB ((E.typ:Nat):Int),qT E.text,vS ae E.mZ.length ai],[],rfl,rfl,⟨ae,ai,rfl,ao.1,ao.2.1,ao.2.2,(by have h_:=SMk47.bound;show E.mZ.length≤_;omega),SMk47⟩,rfl⟩;refine A4 F M (k:=1) (k2:=0) rfl rfl Ci.k Bc rfl rfl tD rfl rfl tX tO rfl ?_;clear F M a;intro eg w a M F;have bu:=Els.append Ef Eb49;obtain ⟨aI,aL,rfl,cr,cc,cD⟩:=M.rS (k:=1) rfl;revert a;refine Ak (fun a F=>Am (cs:=[iB 1,iI ((p:Nat):Int),iI 0,iI 0,vS aI (nf+1) (aL)]) Ba.k rfl Ba (F.evp rfl) rfl) rfl<|fun a F=>?_
  refine Bf F M Ba 2<|sZ ?_;clear F M a;intro w M;refine wk ?_;obtain ⟨a6,cV,bG,bQ,O,bf,b5,M⟩:=M.fZ Ac (k:=1) rfl bu tD;clear bf bG bQ;replace Ef:=Ef.mono Ac O;have a9:nf+1=(fs++([E])).length:=a6;replace M:=z_M M;intro a F;refine Hf F M (k:=1) rfl rfl Ba rfl rfl rfl ?_
  exact ⟨_,((N.trans al).trans O),M.wn dS3,H0 (k:=1) (a:=((p:Nat):Int)) (b:=0) (t:=0) (xs:=fs++([E])) tM ⟨tM,tM⟩ ⟨tM,tM⟩ ⟨tM,tM⟩ tO a6 b5 rfl⟩
 intro dB;refine wk ?_;refine qD rfl ?_ ?_
 ·intro dC;refine Bt<|?_
  refine Ak (fun a F=>Br (j:=1) F0.k Cp rfl (F.ev rfl) (F.ev rfl) tR tD) rfl<|wk ?_;refine Ak (fun a F=>C5 (F.ev rfl) (F.ev rfl) tM tM) rfl<|Ak (fun a F=>Br (j:=2) F0.k Cp rfl (F.ev rfl) (F.ev rfl) tR tD) rfl<|wk ?_;refine Ak (fun a F=>C5 (F.ev rfl) (F.ev rfl) tM tM) rfl<|Ak (fun a F=>Bb Cj.k ⟨_,by rw [Be Cp.k]⟩ (F.ev rfl) (Bi tM tM)) rfl<|?_
  refine Amh rfl rfl<|?_
  refine Ak (fun a F=>Br (j:=3) F0.k Cp rfl (F.ev rfl) (F.ev rfl) tR tD) rfl<|wk ?_;refine Ak (fun a F=>C5 (F.ev rfl) (F.ev rfl) tM tM) rfl<|Ak (fun a F=>Bb Cj.k ⟨_,by rw [Be Cp.k]⟩ (F.ev rfl) (Bi tM tM)) rfl<|?_
  refine Amh rfl rfl<|?_
  refine Ak (fun a F=>Br (j:=4) F0.k Cp rfl (F.ev rfl) (F.ev rfl) tR tD) rfl<|wk ?_;refine Ak (fun a F=>C5 (F.ev rfl) (F.ev rfl) tM tM) rfl<|Ak (fun a F=>Bb Cj.k ⟨_,by rw [Be Cp.k]⟩ (F.ev rfl) (Bi tM tM)) rfl<|Ak (fun a F=>Am (cs:=[iB (((q.b:Nat):Int) % 8),iI ((((q.c:Nat):Int) % 8) - 2),iI ((((q.d:Nat):Int) % 4) - 1),iI (((q.e:Nat):Int) % 3),sN]) Ba.k rfl Ba (F.evp rfl) rfl) rfl<|fun a F=>?_
  refine Bf F M Ba 1<|sZ ?_;clear F M a;intro w M;refine wk ?_;replace M:=z_M M;intro a F;refine Hf F M (k:=1) rfl rfl Ba rfl rfl rfl ?_
  exact ⟨_,N,M.wn dS3,H0 (k:=q.b % 8) (a:=(((q.c:Nat):Int) % 8) - 2) (b:=(((q.d:Nat):Int) % 4) - 1) (t:=((q.e:Nat):Int) % 3) (xs:=([]:List ItemD)) tM ⟨tM,tM⟩ ⟨tM,tM⟩ ⟨tM,tM⟩ tO rfl Aj.nil rfl⟩
 intro dD;refine wk ?_;refine qD rfl ?_ ?_
 ·intro dE;refine wk ?_;refine Ak (fun a F=>Am (cs:=[iB 2,iI ((p:Nat):Int),iI (((k:Nat):Int)+1),iI 0,sN]) Ba.k rfl Ba (F.evp rfl) rfl) rfl<|fun a F=>?_
  refine Bf F M Ba 1<|sZ ?_;clear F M a;intro w M;refine wk ?_;replace M:=z_M M;intro a F;refine Hf F M (k:=1) rfl rfl Ba rfl rfl rfl ?_
  exact ⟨_,N,M.wn dS3,H0 (k:=2) (a:=((p:Nat):Int)) (b:=((k:Nat):Int)+1) (t:=0) (xs:=([]:List ItemD)) tM ⟨tM,tM⟩ ⟨tM,tM⟩ ⟨tM,tM⟩ tO rfl Aj.nil rfl⟩
 intro dG;refine wk ?_;refine qD rfl ?_ ?_
 ·intro dH;refine wk ?_;refine Ak (fun a F=>Am (cs:=[iU 1,iB 0,qT [],sN]) Bc.k rfl Bc (F.evp rfl) rfl) rfl<|fun a F=>?_
  refine Ar F M Ci.k Bc rfl rfl (cs:=[iU 1,iB 0,qT [],sN]) rfl rfl tS tD rfl ?_;clear F M a;intro eh w a M F;obtain ⟨df,dn,rfl,ct,cd,cE⟩:=M.rS (k:=0) rfl;have Eb59:Els Bp 4 G4 [iU 1,iB 0,qT [],sN] [(⟨1,0,[],[]⟩:ItemD)]:=⟨_,[],rfl,rfl,⟨none,0,rfl,by first | decide | (show 0 < 18446744073709551616;omega),by first | decide | exact hq.2.2.2.2,Nat.zero_le _,Nat.zero_le _,Aj.nil⟩,rfl⟩;refine A4 F M (k:=1) (k2:=0) rfl rfl Ci.k Bc rfl rfl tD rfl rfl tX tO rfl ?_;clear F M a;intro ei w a M F;have bv:=Els.append Ef Eb59;obtain ⟨aJ,aM,rfl,cu,ce,cF⟩:=M.rS (k:=1) rfl;revert a;refine Ak (fun a F=>Am (cs:=[iB 4,iI ((p:Nat):Int),iI 0,iI 0,vS aJ (nf+1) (aM)]) Ba.k rfl Ba (F.evp rfl) rfl) rfl<|fun a F=>?_
  refine Bf F M Ba 2<|sZ ?_;clear F M a;intro w M;refine wk ?_;obtain ⟨a7,cW,bH,bR,ab,bg,b6,M⟩:=M.fZ Ac (k:=1) rfl bv tD;clear bg bH bR;replace Ef:=Ef.mono Ac ab;have a9:nf+1=(fs++([(⟨1,0,[],[]⟩:ItemD)])).length:=a7;replace M:=z_M M;intro a F;refine Hf F M (k:=1) rfl rfl Ba rfl rfl rfl ?_
  exact ⟨_,(N.trans ab),M.wn dS3,H0 (k:=4) (a:=((p:Nat):Int)) (b:=0) (t:=0) (xs:=fs++([(⟨1,0,[],[]⟩:ItemD)])) tM ⟨tM,tM⟩ ⟨tM,tM⟩ ⟨tM,tM⟩ tO a7 b6 rfl⟩
 intro dI;refine wk ?_;refine Ak (fun a F=>Br (j:=4) F0.k Cp rfl (F.ev rfl) (F.ev rfl) tR tD) rfl<|wk ?_;refine Ak (fun a F=>Am (cs:=[iU 0,iB ((q.e:Nat):Int),qT [],sN]) Bc.k rfl Bc (F.evp rfl) rfl) rfl<|fun a F=>?_
 refine Ar F M Ci.k Bc rfl rfl (cs:=[iU 0,iB ((q.e:Nat):Int),qT [],sN]) rfl rfl tS tD rfl ?_;clear F M a;intro ej w a M F;obtain ⟨dg,dp,rfl,cv,ci,cG⟩:=M.rS (k:=0) rfl;have Eb64:Els Bp 4 G4 [iU 0,iB ((q.e:Nat):Int),qT [],sN] [(⟨0,q.e,[],[]⟩:ItemD)]:=⟨_,[],rfl,rfl,⟨none,0,rfl,by first | decide | (show 0 < 18446744073709551616;omega),by first | decide | exact hq.2.2.2.2,Nat.zero_le _,Nat.zero_le _,Aj.nil⟩,rfl⟩;refine A4 F M (k:=1) (k2:=0) rfl rfl Ci.k Bc rfl rfl tD rfl rfl tX tO rfl ?_;clear F M a;intro ek w a M F;have bw:=Els.append Ef Eb64;obtain ⟨aK,aN,rfl,cw,cj,cH⟩:=M.rS (k:=1) rfl;revert a;refine Ak (fun a F=>Am (cs:=[iB 1,iI ((p:Nat):Int),iI 0,iI 0,vS aK (nf+1) (aN)]) Ba.k rfl Ba (F.evp rfl) rfl) rfl<|fun a F=>?_
 refine Bf F M Ba 2<|sZ ?_;clear F M a;intro w M;refine wk ?_;obtain ⟨a8,cX,bI,bT,ac,bh,b7,M⟩:=M.fZ Ac (k:=1) rfl bw tD;clear bh bI bT;have a9:nf+1=(fs++([(⟨0,q.e,[],[]⟩:ItemD)])).length:=a8;replace M:=z_M M;intro a F;refine Hf F M (k:=1) rfl rfl Ba rfl rfl rfl ?_
 exact ⟨_,(N.trans ac),M.wn dS3,H0 (k:=1) (a:=((p:Nat):Int)) (b:=0) (t:=0) (xs:=fs++([(⟨0,q.e,[],[]⟩:ItemD)])) tM ⟨tM,tM⟩ ⟨tM,tM⟩ ⟨tM,tM⟩ tO a8 b7 rfl⟩
theorem Aik (M:Mem w0 G L w) {ba:Option Addr} {bc:Nat} {bs:List Q5} (SB:Aj rdQ5 5 G (vS ba bs.length bc) bs) {c:RulesD} {ao:Option Addr} {ap:Nat} (SC:Aj Cq 9 G (vS ao c.kZ.length ap) c.kZ) {a1:Option Addr} {c1:Nat} {l:List EntD} (S:Aj Bj 6 G (vS a1 l.length c1) l) (aH:Bh c l=0):Calls pG 29 #[.agg #[vS ba bs.length bc],.agg #[vS ao c.kZ.length ap,iI c.cap],.agg #[vS a1 l.length c1]] w (Ret w0 G L fun G' v=>∃ (ns:List NotD) (a:Option Addr) (cc:Nat),v=vS a ns.length cc∧Aj Ct 5 G' (vS a ns.length cc) ns∧ns.length≤6∧∀ x∈ns,x.iZ.length≤1030):=by
 have bS:=S.bound;have bB:=SB.bound;refine Ap (vs:=[_,_,_]) Tryz.func29 rfl (n:=49) rfl rfl<|?_
 refine Bt<|?_
 refine Ch M rfl rfl rfl<|?_;clear M;intro b1 w M
 refine Ch M rfl rfl rfl<|?_;clear M;intro b2 w M
 refine Ch M rfl rfl rfl<|?_;clear M;intro b3 w M
 refine wk ?_;have M:=M.nilrow 65 5;replace M:=z_M M;intro a F;refine Bd (fun m a' w'=>∃ (i:Nat),∃ (ar:Option Addr),∃ (nr:Nat),∃ (cr:Nat),∃ (Y:List Value),∃ (ns:List NotD),∃ (aw:Option Addr),∃ (cw:Nat),∃ (O:List EntD),m=6 - i∧∃ G4,Gle G G4∧Fits 49 a' [(3,pP b1),(4,pP b2),(5,pP b3),(8,vS aw O.length cw),(7,vS ar nr cr),(9,iI ((i:Nat):Int))]∧Mem w0 G4 (rR (vS ar nr cr) (nr) (Y) 65 5::rB b3 [vS a1 l.length c1] 54::rB b2 [vS ao c.kZ.length ap,iI c.cap] 51::rB b1 [vS ba bs.length bc] 73::L) w'∧(i≤6)∧(Els Ct 5 G4 Y ns)∧(nr=ns.length)∧(∀ y∈ns,y.iZ.length≤1030)∧(ns.length≤i)∧(Aj Bj 6 G4 (vS aw O.length cw) O)∧(Bh c O=0)) _ ⟨0,none,0,0,[],[],a1,c1,l,rfl,G,Gle.refl _,fU,M,tM,Els.nil,rfl,(fun y hy=>by cases hy),tD,S,aH⟩ ?_;clear F M;rintro m a w ⟨i,ar,nr,cr,Y,ns,aw,cw,O,rfl,G4,T,F,M,hi,Er,ab,hA,hnl,Sw,V⟩;replace SC:=SC.mono Ai T;replace SB:=SB.mono Cf T;revert a;refine Ca<|Bt<|Cd rfl<|Io T9.k rfl rfl<|Ns Zd M 3 rfl rfl rfl rfl<|Afh Zd.k rfl<|Awj rfl rfl<|Cd rfl<|?_
 rcases bE (decide (((i:Nat):Int) < ((bs.length:Nat):Int))) with aa | a4
 ·skip
  have h5:=dT aa;refine g_t rfl aa<|Cd rfl<|g_t rfl aa<|Awj rfl rfl<|Aql rfl aa rfl<|Ao<|Gd<|?_
  refine qD rfl ?_ ?_
  ·intro h6;refine D8<|Ca<|H2<|Ca<|?_
   have aT:=(Dz V).2.1;refine Hg<|Io T9.k rfl rfl<|Ns Zd M 3 rfl rfl rfl rfl<|Cd rfl<|?_
   obtain ⟨U,a5⟩:=Aq (xs:=bs) (i:=i) tM;obtain ⟨aO,aU,_,aG,_,Ae7,⟨rfl,a6,a7,a8,a9,aA⟩⟩:=SB.at a5;refine Mx Zd.k F0 aG rfl rfl<|Ak (fun a F=>Cv F0 rfl (F.ev rfl) (cs:=[iB ((U.a:Nat):Int),iB ((U.b:Nat):Int),iB ((U.c:Nat):Int),iB ((U.d:Nat):Int),iB ((U.e:Nat):Int)]) rfl (M.cellsA Ae7 0 tM rfl)) rfl<|Cd rfl<|Cd rfl<|?_
   refine C3 ent76 rfl rfl (Akq (q:=U) (l:=O) M ⟨a6,a7,a8,a9,aA⟩ Sw tM (n:=i) tM)<|?_;clear M;rintro _ aF w E M ⟨A,I,N,rfl,H,SIq8,aj⟩
   replace SC:=SC.mono Ai E;replace Er:=Er.mono Aa E;replace Sw:=Sw.mono Ab E;replace Ae7:=Ae7.mono E;refine B0 M Ba rfl rfl<|?_;clear M;intro b9 w M
   intro a F;refine Bf F M Ba 0<|sZ ?_;clear F M a;intro w M;refine wk ?_;intro a F;refine Ar F M Du.k Ba rfl rfl (cs:=[iB ((A.kind:Nat):Int),iI A.at_,iI A.count,iI A.to,vS I A.iZ.length N]) rfl rfl tS tD rfl ?_;clear F M a;intro aV w a M F;obtain ⟨aM,aN,rfl,aD,aB,aI⟩:=M.rS (k:=0) rfl;have Eb12:Els Ct 5 aF [iB ((A.kind:Nat):Int),iI A.at_,iI A.count,iI A.to,vS I A.iZ.length N] [A]:=⟨[iB ((A.kind:Nat):Int),iI A.at_,iI A.count,iI A.to,vS I A.iZ.length N],[],rfl,rfl,⟨I,N,rfl,H.1,H.2.1,H.2.2.1,H.2.2.2.1,H.2.2.2.2,SIq8⟩,rfl⟩;refine A4 F M (k:=2) (k2:=0) rfl rfl Du.k Ba rfl rfl tD rfl rfl tX tO rfl ?_;clear F M a;intro aW w a M F;have Ev13:=Els.append Er Eb12;obtain ⟨ah,ai,rfl,aE,aC,aJ⟩:=M.rS (k:=2) rfl;revert a;refine wk ?_;refine C3 A0k rfl rfl (Od (c:=c) (l:=O) M SC Sw V H SIq8 tM)<|?_;clear M;rintro _ ac w D M ⟨ax,a0,rfl,av⟩
   replace Er:=Er.mono Aa D;replace Sw:=Sw.mono Ab D;replace Ae7:=Ae7.mono D;replace Ev13:=Ev13.mono Aa D;refine wk ?_;refine qD rfl ?_ ?_
   ·intro aP;refine wk ?_;intro a F
    exact ⟨_,tM,i+1,(ah),(nr+1),(ai),Y++([iB ((A.kind:Nat):Int),iI A.at_,iI A.count,iI A.to,vS I A.iZ.length N]),ns++([A]),(ax),(a0),(Ga c O A).1,rfl,ac,((T.trans E).trans D),fU,(M.wn tW),tM,Ev13,by simp only [lA,lC,lN];omega,(fun y hy=>by rcases List.mem_append.1 hy with h_ | h_;exact hA y h_;rw [List.mem_singleton.1 h_];exact aj),by simp only [lA,lC,lN];omega,av,by first | exact T2 V tM | exact V⟩
   intro aQ;refine wk ?_;intro a F
   exact ⟨_,tM,i+1,(ah),(nr+1),(ai),Y++([iB ((A.kind:Nat):Int),iI A.at_,iI A.count,iI A.to,vS I A.iZ.length N]),ns++([A]),(aw),(cw),O,rfl,ac,((T.trans E).trans D),fU,(M.wn tW),tM,Ev13,by simp only [lA,lC,lN];omega,(fun y hy=>by rcases List.mem_append.1 hy with h_ | h_;exact hA y h_;rw [List.mem_singleton.1 h_];exact aj),by simp only [lA,lC,lN];omega,Sw,by first | exact T2 V tM | exact V⟩
  intro aR;refine wk ?_;refine Af rfl rfl<|?_
  obtain ⟨aK,aq,ay,a2,ak,am,ae,M⟩:=M.fZ Aa (k:=0) rfl Er tD;clear am ay a2
  exact ⟨aq,T.trans ak,M.wn dS3,ns,ar,cr,by rw [ab],by rw [ab] at ae;exact ae,tM,hA⟩
 have aS:=dF a4;refine wk ?_;refine Af rfl rfl<|?_
 obtain ⟨aL,au,az,a3,al,an,ag,M⟩:=M.fZ Aa (k:=0) rfl Er tD;clear an az a3
 exact ⟨au,T.trans al,M.wn dS3,ns,ar,cr,by rw [ab],by rw [ab] at ag;exact ag,tM,hA⟩
theorem Afd {w0 w:World} {G:Av} {L:List Res} (M:Mem w0 G L w) (HG:Globs 0 1 2 3 G) {n:Nat} (hn:n < 256) {qa:Option Addr} {qc:Nat} {qs:List Q4} (SQ:Aj Akh 4 G (vS qa qs.length qc) qs) {za:Option Addr} {zc:Nat} {zs:List UInt8} (SZ:Aj rdB 1 G (vS za zs.length zc) zs) {ba:Option Addr} {bc:Nat} {bs:List Q5} (SB:Aj rdQ5 5 G (vS ba bs.length bc) bs) {m:Nat} (hm:m < 256):Calls pG 5 #[.agg #[vS qa qs.length qc,vS za zs.length zc,iB ((n:Nat):Int)],.agg #[vS ba bs.length bc],iB ((m:Nat):Int)] w (Ret w0 G L fun G' v=>v=vB true):=by
 have bQ:=SQ.bound;have bZ:=SZ.bound;have bB:=SB.bound;obtain ⟨c,hc⟩:∃ c,c=Ej n:=⟨_,rfl⟩;obtain ⟨l,hl⟩:∃ l,l=Mj c zs qs:=⟨_,rfl⟩;have br:Dd c:=by rw [hc];exact N8 n
 have a3:Bh c l=0:=by rw [hl,hc];exact Xd
 have cx:l.length≤12:=by rw [hl];exact Aae
 refine Ap (vs:=[_,_,_]) Tryz.func5 rfl (n:=102) rfl rfl<|?_
 refine Bt<|?_
 refine Ch M rfl rfl rfl<|?_;clear M;intro b1 w M
 refine Ch M rfl rfl rfl<|?_;clear M;intro b2 w M
 refine Dq rfl<|Bt<|Vw L8 M 1 rfl rfl rfl rfl<|?_
 refine C3 Apr rfl rfl (Pl M hc hn SQ SZ hl)<|?_;clear M;rintro _ cy w aw M ⟨D,E,H,I,rfl,SC,SLq3⟩
 replace HG:=HG.mono aw;replace SB:=SB.mono Cf aw;refine wk ?_;refine B0 M Fo rfl rfl<|?_;clear M;intro b4 w M
 refine B0 M Az rfl rfl<|?_;clear M;intro b6 w M
 intro a F;refine Bf F M Fo 1 ?_;clear F M a;intro w a M F;replace M:=z_M M;refine Bf F M Az 0<|sZ ?_;clear F M a;intro w M;refine Bt<|Vw T9 M 2 rfl rfl rfl rfl<|Vw Fo M 1 rfl rfl rfl rfl<|Vw Az M 0 rfl rfl rfl rfl<|?_
 refine C3 ent29 rfl rfl (Aik (c:=c) (l:=l) (bs:=bs) M SB SC SLq3 a3)<|?_;clear M;rintro _ cz w av M ⟨ns,bS,bW,rfl,SN,c6,hA⟩
 replace HG:=HG.mono av;replace SC:=SC.mono Ai av;replace SLq3:=SLq3.mono Ab av;have a2:∀ x∈ns,x.iZ.length≤900000:=fun x hx=>by have h_:=hA x hx;omega
 refine wk ?_;refine Ak (fun a F=>Bb Cj.k ⟨_,by rw [Be Cp.k]⟩ (F.ev rfl) (Bi tM tM)) rfl<|wk ?_;refine Ak (fun a F=>C5 (F.ev rfl) (F.ev rfl) tM tM) rfl<|?_
 obtain ⟨k,hk,b8⟩:=Ake m ns.length;intro a F;rw [hk] at F;revert a;refine wk ?_;have aO:=Avk (c:=c) (l:=l) (ns:=ns) (k:=k) tM b8;refine wk ?_;intro a F;refine Cs F K0 rfl rfl (Hn (c:=c) (l:=l) (ns:=ns) M SC SLq3 a3 SN a2) ?_;clear F M a;rintro _ c0 _ w a au M ⟨A,aR,aQ,rfl,rfl,aY⟩ F;replace HG:=HG.mono au;replace SC:=SC.mono Ai au;replace SLq3:=SLq3.mono Ab au;replace SN:=SN.mono Aa au;have M:=M.perm (Bk (C0 A (Ax c l ns).1.length aR::aQ) [rB b6 [vS H l.length I] 54,rB b4 [vS D c.kZ.length E,iI c.cap] 51,rB b2 [vS ba bs.length bc] 73,rB b1 [vS qa qs.length qc,vS za zs.length zc,iB ((n:Nat):Int)] 46] L);obtain ⟨aP,aa,M,Sgq9⟩:=Gl (M.perm (Bk [rB b6 [vS H l.length I] 54,rB b4 [vS D c.kZ.length E,iI c.cap] 51,rB b2 [vS ba bs.length bc] 73,rB b1 [vS qa qs.length qc,vS za zs.length zc,iB ((n:Nat):Int)] 46] (C0 A (Ax c l ns).1.length aR::aQ) L)) aY;replace HG:=HG.mono aa;replace SC:=SC.mono Ai aa;replace SLq3:=SLq3.mono Ab aa;replace SN:=SN.mono Aa aa;replace M:=z_M M;revert a;refine wk ?_;refine B0 M Az rfl rfl<|?_;clear M;intro Y w M
 intro a F;refine Bf F M Az 0<|sZ ?_;clear F M a;intro w M;refine wk ?_;refine fun a F=>Ik (.run 0 (.run 1 (.run 2 (.run 3 (.run 4 (.act 5 (.run 6 (.run 7 (.run 8 (.run 9 (.act 10 (.act 11 (.run 12 (.run 13 .fin)) .no) .no))))) (.act 10 (.act 5 (.run 6 (.run 7 (.run 8 (.run 9 (.act 11 (.run 12 (.run 13 .fin)) .no))))) .no) .no))))))) (Keep aP [rB Y [vS A ((Ax c l ns).1.length) ((Ax c l ns).1.length)] 54,rB b6 [vS H l.length I] 54,rB b4 [vS D c.kZ.length E,iI c.cap] 51,rB b2 [vS ba bs.length bc] 73,rB b1 [vS qa qs.length qc,vS za zs.length zc,iB ((n:Nat):Int)] 46]) rfl kR kF (Aw (M.drew _)) ?_;replace M:=M.drew (w.drawn+1);revert a;refine wk ?_;obtain ⟨bT,bX,aZ,bA,bv,Ss12⟩:=SN.partT (k) tM;refine t_r (fun a F w M=>Gu Du.k Ba aZ (F.ev rfl) (h:=k) (kl:=.i64) (zl:=0) rfl ⟨(F.ev rfl),tM⟩ tM tM) rfl<|fun a F=>A0 ?_ rfl ?_
 ·skip
  have bl:k - 0=(ns.take (k)).length:=by first | (rw [lT];omega) | (rw [lD])
  rw [bl] at F Ss12;refine Cs F K0 rfl rfl (Hn (c:=c) (l:=l) (ns:=ns.take (k)) M SC SLq3 a3 Ss12 (fun x hx=>a2 x (List.mem_of_mem_take hx))) ?_;clear F M a;rintro _ bF _ w a ab M ⟨an,aI,a8,rfl,rfl,aS⟩ F;replace HG:=HG.mono ab;replace SC:=SC.mono Ai ab;replace SLq3:=SLq3.mono Ab ab;replace SN:=SN.mono Aa ab;replace Sgq9:=Sgq9.mono Ab ab;replace Ss12:=Ss12.mono Aa ab;have M:=M.perm (Bk (C0 an (Ax c l (ns.take (k))).1.length aI::a8) [rB Y [vS A ((Ax c l ns).1.length) ((Ax c l ns).1.length)] 54,rB b6 [vS H l.length I] 54,rB b4 [vS D c.kZ.length E,iI c.cap] 51,rB b2 [vS ba bs.length bc] 73,rB b1 [vS qa qs.length qc,vS za zs.length zc,iB ((n:Nat):Int)] 46] L);obtain ⟨az,N,M,Sgq14⟩:=Gl (M.perm (Bk [rB Y [vS A ((Ax c l ns).1.length) ((Ax c l ns).1.length)] 54,rB b6 [vS H l.length I] 54,rB b4 [vS D c.kZ.length E,iI c.cap] 51,rB b2 [vS ba bs.length bc] 73,rB b1 [vS qa qs.length qc,vS za zs.length zc,iB ((n:Nat):Int)] 46] (C0 an (Ax c l (ns.take (k))).1.length aI::a8) L)) aS;replace HG:=HG.mono N;replace SC:=SC.mono Ai N;replace SLq3:=SLq3.mono Ab N;replace SN:=SN.mono Aa N;replace Sgq9:=Sgq9.mono Ab N
  replace Ss12:=Ss12.mono Aa N;replace M:=z_M M;revert a;refine Ao<|?_
  refine eK (C':=Keep az [rB Y [vS A ((Ax c l ns).1.length) ((Ax c l ns).1.length)] 54,rB b6 [vS H l.length I] 54,rB b4 [vS D c.kZ.length E,iI c.cap] 51,rB b2 [vS ba bs.length bc] 73,rB b1 [vS qa qs.length qc,vS za zs.length zc,iB ((n:Nat):Int)] 46]) (Aw M) (fun w h=>h.mono (ab.trans N) (by simp))<|wk ?_;refine fun a F=>A0 ?_ rfl Bl;revert a;refine B0 M Az rfl rfl<|?_;clear M;intro ay w M
  refine Ao<|?_
  refine eK (C':=Keep az [rB Y [vS A ((Ax c l ns).1.length) ((Ax c l ns).1.length)] 54,rB b6 [vS H l.length I] 54,rB b4 [vS D c.kZ.length E,iI c.cap] 51,rB b2 [vS ba bs.length bc] 73,rB b1 [vS qa qs.length qc,vS za zs.length zc,iB ((n:Nat):Int)] 46]) (Aw M) (fun w h=>h.mono (Gle.refl _) (by simp))<|fun a F=>A0 ?_ rfl Bl
  refine Bf F M Az 0<|sZ ?_;clear F M a;intro w M;refine Ao<|?_
  refine eQ (Aw M)<|wk ?_;refine Ag rfl ?_ ?_
  ·intro bh;have bt:=dF (Ad bh);obtain ⟨bz,b0⟩:=aO.1 bt;refine wk ?_;have cb:(decide ((Ax c l (ns.take (k))).2.2=(Ax c l ns).2.2))=true:=(decide_eq_true (by (first | omega | rfl | (rw [if_pos ar]) | decide)));refine wk ?_;have cc:(decide ((((Ax c l (ns.take (k))).2.1:Nat):Int)=(((Ax c l ns).2.1:Nat):Int)))=true:=(decide_eq_true (by (first | omega | rfl | (rw [if_pos ar]) | decide)));refine wk ?_;refine C3 K1 rfl rfl (Da M HG)<|?_;clear M;rintro _ bG w ap M rfl
   replace HG:=HG.mono ap;replace SC:=SC.mono Ai ap;replace SLq3:=SLq3.mono Ab ap;replace SN:=SN.mono Aa ap;replace Sgq9:=Sgq9.mono Ab ap;replace Ss12:=Ss12.mono Aa ap;replace Sgq14:=Sgq14.mono Ab ap;refine wk ?_;refine Af rfl rfl<|?_
   exact ⟨_,((((((aw.trans av).trans au).trans aa).trans ab).trans N).trans ap),M.wn dS6,rfl⟩
  intro bi;have c4:=dT (Ae bi);obtain ⟨b3,b5,b7,ar⟩:=aO.2 tM;have a1:=T3 (ns:=(ns.take (k))) a3 br;have b9:=A2d (c:=c) (l:=l) (ns:=ns);refine wk ?_;refine fun a F=>Ik (.run 0 (.run 1 (.run 2 (.run 3 (.run 4 (.act 5 (.run 6 (.run 7 (.run 8 (.run 9 (.act 10 (.act 11 (.run 12 (.run 13 .fin)) .no) .no))))) (.act 10 (.act 5 (.run 6 (.run 7 (.run 8 (.run 9 (.act 11 (.run 12 (.run 13 .fin)) .no))))) .no) .no))))))) (Keep az [rB ay [vS an ((Ax c l (ns.take (k))).1.length) ((Ax c l (ns.take (k))).1.length)] 54,rB Y [vS A ((Ax c l ns).1.length) ((Ax c l ns).1.length)] 54,rB b6 [vS H l.length I] 54,rB b4 [vS D c.kZ.length E,iI c.cap] 51,rB b2 [vS ba bs.length bc] 73,rB b1 [vS qa qs.length qc,vS za zs.length zc,iB ((n:Nat):Int)] 46]) rfl kR kF (Aw (M.drew _)) ?_;replace M:=M.drew (w.drawn+1);revert a;refine wk ?_;obtain ⟨bU,bY,bb,bC,bw,Ss22⟩:=SN.partD (k) tM;refine t_r (fun a F w M=>Gu Du.k Ba bb (F.ev rfl) (h:=ns.length) (kh:=.i64) (zh:=0) ⟨(F.ev rfl),tM⟩ tM tM tM) rfl<|fun a F=>A0 ?_ rfl ?_
  ·skip
   have bm:ns.length - k=(ns.drop (k)).length:=by first | (rw [lT];omega) | (rw [lD])
   rw [bm] at F Ss22;refine Cs F K0 rfl rfl (Hn (c:=c) (l:=(Ax c l (ns.take (k))).1) (ns:=ns.drop (k)) M SC Sgq14 a1 Ss22 (fun x hx=>a2 x (List.mem_of_mem_drop hx))) ?_;clear F M a;rintro _ bH _ w a ac M ⟨aE,aJ,a9,rfl,rfl,aT⟩ F;replace HG:=HG.mono ac;replace SC:=SC.mono Ai ac;replace SLq3:=SLq3.mono Ab ac;replace SN:=SN.mono Aa ac;replace Sgq9:=Sgq9.mono Ab ac;replace Ss12:=Ss12.mono Aa ac;replace Sgq14:=Sgq14.mono Ab ac;replace Ss22:=Ss22.mono Aa ac;have M:=M.perm (Bk (C0 aE (Ax c ((Ax c l (ns.take (k))).1) (ns.drop (k))).1.length aJ::a9) [rB ay [vS an ((Ax c l (ns.take (k))).1.length) ((Ax c l (ns.take (k))).1.length)] 54,rB Y [vS A ((Ax c l ns).1.length) ((Ax c l ns).1.length)] 54,rB b6 [vS H l.length I] 54,rB b4 [vS D c.kZ.length E,iI c.cap] 51,rB b2 [vS ba bs.length bc] 73,rB b1 [vS qa qs.length qc,vS za zs.length zc,iB ((n:Nat):Int)] 46] L);obtain ⟨a4,O,M,Sgq24⟩:=Gl (M.perm (Bk [rB ay [vS an ((Ax c l (ns.take (k))).1.length) ((Ax c l (ns.take (k))).1.length)] 54,rB Y [vS A ((Ax c l ns).1.length) ((Ax c l ns).1.length)] 54,rB b6 [vS H l.length I] 54,rB b4 [vS D c.kZ.length E,iI c.cap] 51,rB b2 [vS ba bs.length bc] 73,rB b1 [vS qa qs.length qc,vS za zs.length zc,iB ((n:Nat):Int)] 46] (C0 aE (Ax c ((Ax c l (ns.take (k))).1) (ns.drop (k))).1.length aJ::a9) L)) aT
   replace HG:=HG.mono O;replace SC:=SC.mono Ai O;replace SLq3:=SLq3.mono Ab O;replace SN:=SN.mono Aa O;replace Sgq9:=Sgq9.mono Ab O;replace Ss12:=Ss12.mono Aa O;replace Sgq14:=Sgq14.mono Ab O;replace Ss22:=Ss22.mono Aa O;replace M:=z_M M;revert a;refine Ao<|?_
   refine eK (C':=Keep a4 [rB ay [vS an ((Ax c l (ns.take (k))).1.length) ((Ax c l (ns.take (k))).1.length)] 54,rB Y [vS A ((Ax c l ns).1.length) ((Ax c l ns).1.length)] 54,rB b6 [vS H l.length I] 54,rB b4 [vS D c.kZ.length E,iI c.cap] 51,rB b2 [vS ba bs.length bc] 73,rB b1 [vS qa qs.length qc,vS za zs.length zc,iB ((n:Nat):Int)] 46]) (Aw M) (fun w h=>h.mono (ac.trans O) (by simp))<|wk ?_;refine fun a F=>A0 ?_ rfl Bl;revert a;refine B0 M Az rfl rfl<|?_;clear M;intro c1 w M
   refine Ao<|?_
   refine eK (C':=Keep a4 [rB ay [vS an ((Ax c l (ns.take (k))).1.length) ((Ax c l (ns.take (k))).1.length)] 54,rB Y [vS A ((Ax c l ns).1.length) ((Ax c l ns).1.length)] 54,rB b6 [vS H l.length I] 54,rB b4 [vS D c.kZ.length E,iI c.cap] 51,rB b2 [vS ba bs.length bc] 73,rB b1 [vS qa qs.length qc,vS za zs.length zc,iB ((n:Nat):Int)] 46]) (Aw M) (fun w h=>h.mono (Gle.refl _) (by simp))<|fun a F=>A0 ?_ rfl Bl
   refine Bf F M Az 0<|sZ ?_;clear F M a;intro w M;refine Ao<|?_
   refine eQ (Aw M)<|wk ?_;have cd:(decide ((((Ax c l (ns.take (k))).2.1:Nat):Int)=((k:Nat):Int)))=true:=(decide_eq_true (by (first | omega | rfl | (rw [if_pos ar]) | decide)));refine wk ?_;have ce:(decide ((Ax c ((Ax c l (ns.take (k))).1) (ns.drop (k))).2.2=(Ax c l ns).2.2))=true:=(decide_eq_true (by (first | omega | rfl | (rw [if_pos ar]) | decide)));refine wk ?_;have cf:(decide ((((Ax c l ns).2.1:Nat):Int)=((k:Nat):Int)+((((Ax c ((Ax c l (ns.take (k))).1) (ns.drop (k))).2.1:Nat):Int))))=true:=(decide_eq_true (by (first | omega | rfl | (rw [if_pos ar]) | decide)));refine wk ?_;refine A2 X0 rfl rfl (Hl (xs:=(Ax c ((Ax c l (ns.take (k))).1) (ns.drop (k))).1) (ys:=(Ax c l ns).1) M Sgq24 Sgq9)<|?_;clear M;rintro _ w M rfl
   refine wk ?_;have cg:(decide ((if ((Ax c ((Ax c l (ns.take (k))).1) (ns.drop (k))).1)=((Ax c l ns).1) then (1:Int) else 0)=1))=true:=(decide_eq_true (by (first | omega | rfl | (rw [if_pos ar]) | decide)));refine wk ?_;refine C3 K1 rfl rfl (Da M HG)<|?_;clear M;rintro _ bI w ae M rfl
   replace HG:=HG.mono ae;replace SC:=SC.mono Ai ae;replace SLq3:=SLq3.mono Ab ae;replace SN:=SN.mono Aa ae;replace Sgq9:=Sgq9.mono Ab ae;replace Ss12:=Ss12.mono Aa ae;replace Sgq14:=Sgq14.mono Ab ae;replace Ss22:=Ss22.mono Aa ae;refine wk ?_;refine Af rfl rfl<|?_
   exact ⟨_,((((((((aw.trans av).trans au).trans aa).trans ab).trans N).trans ac).trans O).trans ae),M.wn dS7,rfl⟩
  refine A0 ?_ rfl ?_
  ·skip
   revert a;refine B0 M Az rfl rfl<|?_;clear M;intro bf w M
   refine Ao<|?_
   refine eK (C':=Keep az [rB ay [vS an ((Ax c l (ns.take (k))).1.length) ((Ax c l (ns.take (k))).1.length)] 54,rB Y [vS A ((Ax c l ns).1.length) ((Ax c l ns).1.length)] 54,rB b6 [vS H l.length I] 54,rB b4 [vS D c.kZ.length E,iI c.cap] 51,rB b2 [vS ba bs.length bc] 73,rB b1 [vS qa qs.length qc,vS za zs.length zc,iB ((n:Nat):Int)] 46]) (Aw M) (fun w h=>h.mono (Gle.refl _) (by simp))<|fun a F=>A0 ?_ rfl Bl
   have bn:ns.length - k=(ns.drop (k)).length:=by first | (rw [lT];omega) | (rw [lD])
   rw [bn] at F Ss22;refine Cs F K0 rfl rfl (Hn (c:=c) (l:=(Ax c l (ns.take (k))).1) (ns:=ns.drop (k)) M SC Sgq14 a1 Ss22 (fun x hx=>a2 x (List.mem_of_mem_drop hx))) ?_;clear F M a;rintro _ bJ _ w a ag M ⟨aF,aK,aA,rfl,rfl,aU⟩ F;replace HG:=HG.mono ag;replace SC:=SC.mono Ai ag;replace SLq3:=SLq3.mono Ab ag;replace SN:=SN.mono Aa ag;replace Sgq9:=Sgq9.mono Ab ag;replace Ss12:=Ss12.mono Aa ag;have M:=M.perm (Bk (C0 aF (Ax c ((Ax c l (ns.take (k))).1) (ns.drop (k))).1.length aK::aA) [rB bf [sN] 54,rB ay [vS an ((Ax c l (ns.take (k))).1.length) ((Ax c l (ns.take (k))).1.length)] 54,rB Y [vS A ((Ax c l ns).1.length) ((Ax c l ns).1.length)] 54,rB b6 [vS H l.length I] 54,rB b4 [vS D c.kZ.length E,iI c.cap] 51,rB b2 [vS ba bs.length bc] 73,rB b1 [vS qa qs.length qc,vS za zs.length zc,iB ((n:Nat):Int)] 46] L);obtain ⟨a5,S,M,Sgq35⟩:=Gl (M.perm (Bk [rB bf [sN] 54,rB ay [vS an ((Ax c l (ns.take (k))).1.length) ((Ax c l (ns.take (k))).1.length)] 54,rB Y [vS A ((Ax c l ns).1.length) ((Ax c l ns).1.length)] 54,rB b6 [vS H l.length I] 54,rB b4 [vS D c.kZ.length E,iI c.cap] 51,rB b2 [vS ba bs.length bc] 73,rB b1 [vS qa qs.length qc,vS za zs.length zc,iB ((n:Nat):Int)] 46] (C0 aF (Ax c ((Ax c l (ns.take (k))).1) (ns.drop (k))).1.length aK::aA) L)) aU
   replace HG:=HG.mono S;replace SC:=SC.mono Ai S;replace SLq3:=SLq3.mono Ab S;replace SN:=SN.mono Aa S;replace Sgq9:=Sgq9.mono Ab S;replace Ss12:=Ss12.mono Aa S;replace M:=z_M M;revert a;refine Ao<|?_
   refine eK (C':=Keep a5 [rB ay [vS an ((Ax c l (ns.take (k))).1.length) ((Ax c l (ns.take (k))).1.length)] 54,rB Y [vS A ((Ax c l ns).1.length) ((Ax c l ns).1.length)] 54,rB b6 [vS H l.length I] 54,rB b4 [vS D c.kZ.length E,iI c.cap] 51,rB b2 [vS ba bs.length bc] 73,rB b1 [vS qa qs.length qc,vS za zs.length zc,iB ((n:Nat):Int)] 46]) (Aw M) (fun w h=>h.mono (ag.trans S) (by simp))<|wk ?_;refine fun a F=>A0 ?_ rfl Bl;refine Bf F M Az 0<|sZ ?_;clear F M a;intro w M;refine Ao<|?_
   refine eK (C':=Keep a5 [rB ay [vS an ((Ax c l (ns.take (k))).1.length) ((Ax c l (ns.take (k))).1.length)] 54,rB Y [vS A ((Ax c l ns).1.length) ((Ax c l ns).1.length)] 54,rB b6 [vS H l.length I] 54,rB b4 [vS D c.kZ.length E,iI c.cap] 51,rB b2 [vS ba bs.length bc] 73,rB b1 [vS qa qs.length qc,vS za zs.length zc,iB ((n:Nat):Int)] 46]) (Aw M) (fun w h=>h.mono (Gle.refl _) (by simp))<|wk ?_;have ci:(decide ((((Ax c l (ns.take (k))).2.1:Nat):Int)=((k:Nat):Int)))=true:=(decide_eq_true (by (first | omega | rfl | (rw [if_pos ar]) | decide)));refine wk ?_;have cj:(decide ((Ax c ((Ax c l (ns.take (k))).1) (ns.drop (k))).2.2=(Ax c l ns).2.2))=true:=(decide_eq_true (by (first | omega | rfl | (rw [if_pos ar]) | decide)));refine wk ?_;have ck:(decide ((((Ax c l ns).2.1:Nat):Int)=((k:Nat):Int)+((((Ax c ((Ax c l (ns.take (k))).1) (ns.drop (k))).2.1:Nat):Int))))=true:=(decide_eq_true (by (first | omega | rfl | (rw [if_pos ar]) | decide)));refine wk ?_;refine A2 X0 rfl rfl (Hl (xs:=(Ax c ((Ax c l (ns.take (k))).1) (ns.drop (k))).1) (ys:=(Ax c l ns).1) M Sgq35 Sgq9)<|?_;clear M;rintro _ w M rfl
   refine wk ?_;have cl:(decide ((if ((Ax c ((Ax c l (ns.take (k))).1) (ns.drop (k))).1)=((Ax c l ns).1) then (1:Int) else 0)=1))=true:=(decide_eq_true (by (first | omega | rfl | (rw [if_pos ar]) | decide)));refine wk ?_;refine C3 K1 rfl rfl (Da M HG)<|?_;clear M;rintro _ bK w ah M rfl
   replace HG:=HG.mono ah;replace SC:=SC.mono Ai ah;replace SLq3:=SLq3.mono Ab ah;replace SN:=SN.mono Aa ah;replace Sgq9:=Sgq9.mono Ab ah;replace Ss12:=Ss12.mono Aa ah;refine wk ?_;refine Af rfl rfl<|?_
   exact ⟨_,((((((((aw.trans av).trans au).trans aa).trans ab).trans N).trans ag).trans S).trans ah),M.wn dS7,rfl⟩
  exact Bl
 refine A0 ?_ rfl ?_
 ·skip
  revert a;refine B0 M Az rfl rfl<|?_;clear M;intro ax w M
  refine Ao<|?_
  refine eK (C':=Keep aP [rB Y [vS A ((Ax c l ns).1.length) ((Ax c l ns).1.length)] 54,rB b6 [vS H l.length I] 54,rB b4 [vS D c.kZ.length E,iI c.cap] 51,rB b2 [vS ba bs.length bc] 73,rB b1 [vS qa qs.length qc,vS za zs.length zc,iB ((n:Nat):Int)] 46]) (Aw M) (fun w h=>h.mono (Gle.refl _) (by simp))<|fun a F=>A0 ?_ rfl Bl
  have bo:k - 0=(ns.take (k)).length:=by first | (rw [lT];omega) | (rw [lD])
  rw [bo] at F Ss12;refine Cs F K0 rfl rfl (Hn (c:=c) (l:=l) (ns:=ns.take (k)) M SC SLq3 a3 Ss12 (fun x hx=>a2 x (List.mem_of_mem_take hx))) ?_;clear F M a;rintro _ bL _ w a ai M ⟨ao,aL,aB,rfl,rfl,aV⟩ F;replace HG:=HG.mono ai;replace SC:=SC.mono Ai ai;replace SN:=SN.mono Aa ai;replace Sgq9:=Sgq9.mono Ab ai;have M:=M.perm (Bk (C0 ao (Ax c l (ns.take (k))).1.length aL::aB) [rB ax [sN] 54,rB Y [vS A ((Ax c l ns).1.length) ((Ax c l ns).1.length)] 54,rB b6 [vS H l.length I] 54,rB b4 [vS D c.kZ.length E,iI c.cap] 51,rB b2 [vS ba bs.length bc] 73,rB b1 [vS qa qs.length qc,vS za zs.length zc,iB ((n:Nat):Int)] 46] L);obtain ⟨a0,T,M,Sgq44⟩:=Gl (M.perm (Bk [rB ax [sN] 54,rB Y [vS A ((Ax c l ns).1.length) ((Ax c l ns).1.length)] 54,rB b6 [vS H l.length I] 54,rB b4 [vS D c.kZ.length E,iI c.cap] 51,rB b2 [vS ba bs.length bc] 73,rB b1 [vS qa qs.length qc,vS za zs.length zc,iB ((n:Nat):Int)] 46] (C0 ao (Ax c l (ns.take (k))).1.length aL::aB) L)) aV;replace HG:=HG.mono T;replace SC:=SC.mono Ai T
  replace SN:=SN.mono Aa T;replace Sgq9:=Sgq9.mono Ab T;replace M:=z_M M;revert a;refine Ao<|?_
  refine eK (C':=Keep a0 [rB Y [vS A ((Ax c l ns).1.length) ((Ax c l ns).1.length)] 54,rB b6 [vS H l.length I] 54,rB b4 [vS D c.kZ.length E,iI c.cap] 51,rB b2 [vS ba bs.length bc] 73,rB b1 [vS qa qs.length qc,vS za zs.length zc,iB ((n:Nat):Int)] 46]) (Aw M) (fun w h=>h.mono (ai.trans T) (by simp))<|wk ?_;refine fun a F=>A0 ?_ rfl Bl;refine Bf F M Az 0<|sZ ?_;clear F M a;intro w M;refine Ao<|?_
  refine eK (C':=Keep a0 [rB Y [vS A ((Ax c l ns).1.length) ((Ax c l ns).1.length)] 54,rB b6 [vS H l.length I] 54,rB b4 [vS D c.kZ.length E,iI c.cap] 51,rB b2 [vS ba bs.length bc] 73,rB b1 [vS qa qs.length qc,vS za zs.length zc,iB ((n:Nat):Int)] 46]) (Aw M) (fun w h=>h.mono (Gle.refl _) (by simp))<|wk ?_;refine Ag rfl ?_ ?_
  ·intro bj;have bu:=dF (Ad bj);obtain ⟨bz,b0⟩:=aO.1 bu;refine wk ?_;have cm:(decide ((Ax c l (ns.take (k))).2.2=(Ax c l ns).2.2))=true:=(decide_eq_true (by (first | omega | rfl | (rw [if_pos ar]) | decide)));refine wk ?_;have cn:(decide ((((Ax c l (ns.take (k))).2.1:Nat):Int)=(((Ax c l ns).2.1:Nat):Int)))=true:=(decide_eq_true (by (first | omega | rfl | (rw [if_pos ar]) | decide)));refine wk ?_;refine C3 K1 rfl rfl (Da M HG)<|?_;clear M;rintro _ bM w aq M rfl
   replace HG:=HG.mono aq;replace SC:=SC.mono Ai aq;replace SN:=SN.mono Aa aq;replace Sgq9:=Sgq9.mono Ab aq;replace Sgq44:=Sgq44.mono Ab aq;refine wk ?_;refine Af rfl rfl<|?_
   exact ⟨_,((((((aw.trans av).trans au).trans aa).trans ai).trans T).trans aq),M.wn dS6,rfl⟩
  intro bk;have c5:=dT (Ae bk);obtain ⟨b3,b5,b7,ar⟩:=aO.2 tM;have a1:=T3 (ns:=(ns.take (k))) a3 br;have b9:=A2d (c:=c) (l:=l) (ns:=ns);refine wk ?_;refine fun a F=>Ik (.run 0 (.run 1 (.run 2 (.run 3 (.run 4 (.act 5 (.run 6 (.run 7 (.run 8 (.run 9 (.act 10 (.act 11 (.run 12 (.run 13 .fin)) .no) .no))))) (.act 10 (.act 5 (.run 6 (.run 7 (.run 8 (.run 9 (.act 11 (.run 12 (.run 13 .fin)) .no))))) .no) .no))))))) (Keep a0 [rB ax [vS ao ((Ax c l (ns.take (k))).1.length) ((Ax c l (ns.take (k))).1.length)] 54,rB Y [vS A ((Ax c l ns).1.length) ((Ax c l ns).1.length)] 54,rB b6 [vS H l.length I] 54,rB b4 [vS D c.kZ.length E,iI c.cap] 51,rB b2 [vS ba bs.length bc] 73,rB b1 [vS qa qs.length qc,vS za zs.length zc,iB ((n:Nat):Int)] 46]) rfl kR kF (Aw (M.drew _)) ?_;replace M:=M.drew (w.drawn+1);revert a;refine wk ?_;obtain ⟨bV,ca,be,bD,bx,Ss50⟩:=SN.partD (k) tM;refine t_r (fun a F w M=>Gu Du.k Ba be (F.ev rfl) (h:=ns.length) (kh:=.i64) (zh:=0) ⟨(F.ev rfl),tM⟩ tM tM tM) rfl<|fun a F=>A0 ?_ rfl ?_
  ·skip
   have bp:ns.length - k=(ns.drop (k)).length:=by first | (rw [lT];omega) | (rw [lD])
   rw [bp] at F Ss50;refine Cs F K0 rfl rfl (Hn (c:=c) (l:=(Ax c l (ns.take (k))).1) (ns:=ns.drop (k)) M SC Sgq44 a1 Ss50 (fun x hx=>a2 x (List.mem_of_mem_drop hx))) ?_;clear F M a;rintro _ bN _ w a aj M ⟨aG,aM,aC,rfl,rfl,aW⟩ F;replace HG:=HG.mono aj;replace SC:=SC.mono Ai aj;replace Sgq9:=Sgq9.mono Ab aj;replace Sgq44:=Sgq44.mono Ab aj;replace Ss50:=Ss50.mono Aa aj;have M:=M.perm (Bk (C0 aG (Ax c ((Ax c l (ns.take (k))).1) (ns.drop (k))).1.length aM::aC) [rB ax [vS ao ((Ax c l (ns.take (k))).1.length) ((Ax c l (ns.take (k))).1.length)] 54,rB Y [vS A ((Ax c l ns).1.length) ((Ax c l ns).1.length)] 54,rB b6 [vS H l.length I] 54,rB b4 [vS D c.kZ.length E,iI c.cap] 51,rB b2 [vS ba bs.length bc] 73,rB b1 [vS qa qs.length qc,vS za zs.length zc,iB ((n:Nat):Int)] 46] L);obtain ⟨a6,U,M,Sgq52⟩:=Gl (M.perm (Bk [rB ax [vS ao ((Ax c l (ns.take (k))).1.length) ((Ax c l (ns.take (k))).1.length)] 54,rB Y [vS A ((Ax c l ns).1.length) ((Ax c l ns).1.length)] 54,rB b6 [vS H l.length I] 54,rB b4 [vS D c.kZ.length E,iI c.cap] 51,rB b2 [vS ba bs.length bc] 73,rB b1 [vS qa qs.length qc,vS za zs.length zc,iB ((n:Nat):Int)] 46] (C0 aG (Ax c ((Ax c l (ns.take (k))).1) (ns.drop (k))).1.length aM::aC) L)) aW
   replace HG:=HG.mono U;replace SC:=SC.mono Ai U;replace Sgq9:=Sgq9.mono Ab U;replace Sgq44:=Sgq44.mono Ab U;replace Ss50:=Ss50.mono Aa U;replace M:=z_M M;revert a;refine Ao<|?_
   refine eK (C':=Keep a6 [rB ax [vS ao ((Ax c l (ns.take (k))).1.length) ((Ax c l (ns.take (k))).1.length)] 54,rB Y [vS A ((Ax c l ns).1.length) ((Ax c l ns).1.length)] 54,rB b6 [vS H l.length I] 54,rB b4 [vS D c.kZ.length E,iI c.cap] 51,rB b2 [vS ba bs.length bc] 73,rB b1 [vS qa qs.length qc,vS za zs.length zc,iB ((n:Nat):Int)] 46]) (Aw M) (fun w h=>h.mono (aj.trans U) (by simp))<|wk ?_;refine fun a F=>A0 ?_ rfl Bl;revert a;refine B0 M Az rfl rfl<|?_;clear M;intro c2 w M
   refine Ao<|?_
   refine eK (C':=Keep a6 [rB ax [vS ao ((Ax c l (ns.take (k))).1.length) ((Ax c l (ns.take (k))).1.length)] 54,rB Y [vS A ((Ax c l ns).1.length) ((Ax c l ns).1.length)] 54,rB b6 [vS H l.length I] 54,rB b4 [vS D c.kZ.length E,iI c.cap] 51,rB b2 [vS ba bs.length bc] 73,rB b1 [vS qa qs.length qc,vS za zs.length zc,iB ((n:Nat):Int)] 46]) (Aw M) (fun w h=>h.mono (Gle.refl _) (by simp))<|fun a F=>A0 ?_ rfl Bl
   refine Bf F M Az 0<|sZ ?_;clear F M a;intro w M;refine Ao<|?_
   refine eQ (Aw M)<|wk ?_;have co:(decide ((((Ax c l (ns.take (k))).2.1:Nat):Int)=((k:Nat):Int)))=true:=(decide_eq_true (by (first | omega | rfl | (rw [if_pos ar]) | decide)));refine wk ?_;have cp:(decide ((Ax c ((Ax c l (ns.take (k))).1) (ns.drop (k))).2.2=(Ax c l ns).2.2))=true:=(decide_eq_true (by (first | omega | rfl | (rw [if_pos ar]) | decide)));refine wk ?_;have cq:(decide ((((Ax c l ns).2.1:Nat):Int)=((k:Nat):Int)+((((Ax c ((Ax c l (ns.take (k))).1) (ns.drop (k))).2.1:Nat):Int))))=true:=(decide_eq_true (by (first | omega | rfl | (rw [if_pos ar]) | decide)));refine wk ?_;refine A2 X0 rfl rfl (Hl (xs:=(Ax c ((Ax c l (ns.take (k))).1) (ns.drop (k))).1) (ys:=(Ax c l ns).1) M Sgq52 Sgq9)<|?_;clear M;rintro _ w M rfl
   refine wk ?_;have cr:(decide ((if ((Ax c ((Ax c l (ns.take (k))).1) (ns.drop (k))).1)=((Ax c l ns).1) then (1:Int) else 0)=1))=true:=(decide_eq_true (by (first | omega | rfl | (rw [if_pos ar]) | decide)));refine wk ?_;refine C3 K1 rfl rfl (Da M HG)<|?_;clear M;rintro _ bO w ak M rfl
   replace HG:=HG.mono ak;replace SC:=SC.mono Ai ak;replace Sgq9:=Sgq9.mono Ab ak;replace Sgq44:=Sgq44.mono Ab ak;replace Ss50:=Ss50.mono Aa ak;refine wk ?_;refine Af rfl rfl<|?_
   exact ⟨_,((((((((aw.trans av).trans au).trans aa).trans ai).trans T).trans aj).trans U).trans ak),M.wn dS7,rfl⟩
  refine A0 ?_ rfl ?_
  ·skip
   revert a;refine B0 M Az rfl rfl<|?_;clear M;intro bg w M
   refine Ao<|?_
   refine eK (C':=Keep a0 [rB ax [vS ao ((Ax c l (ns.take (k))).1.length) ((Ax c l (ns.take (k))).1.length)] 54,rB Y [vS A ((Ax c l ns).1.length) ((Ax c l ns).1.length)] 54,rB b6 [vS H l.length I] 54,rB b4 [vS D c.kZ.length E,iI c.cap] 51,rB b2 [vS ba bs.length bc] 73,rB b1 [vS qa qs.length qc,vS za zs.length zc,iB ((n:Nat):Int)] 46]) (Aw M) (fun w h=>h.mono (Gle.refl _) (by simp))<|fun a F=>A0 ?_ rfl Bl
   have bq:ns.length - k=(ns.drop (k)).length:=by first | (rw [lT];omega) | (rw [lD])
   rw [bq] at F Ss50;refine Cs F K0 rfl rfl (Hn (c:=c) (l:=(Ax c l (ns.take (k))).1) (ns:=ns.drop (k)) M SC Sgq44 a1 Ss50 (fun x hx=>a2 x (List.mem_of_mem_drop hx))) ?_;clear F M a;rintro _ bP _ w a al M ⟨aH,aN,aD,rfl,rfl,aX⟩ F;replace HG:=HG.mono al;replace Sgq9:=Sgq9.mono Ab al;have M:=M.perm (Bk (C0 aH (Ax c ((Ax c l (ns.take (k))).1) (ns.drop (k))).1.length aN::aD) [rB bg [sN] 54,rB ax [vS ao ((Ax c l (ns.take (k))).1.length) ((Ax c l (ns.take (k))).1.length)] 54,rB Y [vS A ((Ax c l ns).1.length) ((Ax c l ns).1.length)] 54,rB b6 [vS H l.length I] 54,rB b4 [vS D c.kZ.length E,iI c.cap] 51,rB b2 [vS ba bs.length bc] 73,rB b1 [vS qa qs.length qc,vS za zs.length zc,iB ((n:Nat):Int)] 46] L);obtain ⟨a7,V,M,Sgq63⟩:=Gl (M.perm (Bk [rB bg [sN] 54,rB ax [vS ao ((Ax c l (ns.take (k))).1.length) ((Ax c l (ns.take (k))).1.length)] 54,rB Y [vS A ((Ax c l ns).1.length) ((Ax c l ns).1.length)] 54,rB b6 [vS H l.length I] 54,rB b4 [vS D c.kZ.length E,iI c.cap] 51,rB b2 [vS ba bs.length bc] 73,rB b1 [vS qa qs.length qc,vS za zs.length zc,iB ((n:Nat):Int)] 46] (C0 aH (Ax c ((Ax c l (ns.take (k))).1) (ns.drop (k))).1.length aN::aD) L)) aX
   replace HG:=HG.mono V;replace Sgq9:=Sgq9.mono Ab V;replace M:=z_M M;revert a;refine Ao<|?_
   refine eK (C':=Keep a7 [rB ax [vS ao ((Ax c l (ns.take (k))).1.length) ((Ax c l (ns.take (k))).1.length)] 54,rB Y [vS A ((Ax c l ns).1.length) ((Ax c l ns).1.length)] 54,rB b6 [vS H l.length I] 54,rB b4 [vS D c.kZ.length E,iI c.cap] 51,rB b2 [vS ba bs.length bc] 73,rB b1 [vS qa qs.length qc,vS za zs.length zc,iB ((n:Nat):Int)] 46]) (Aw M) (fun w h=>h.mono (al.trans V) (by simp))<|wk ?_;refine fun a F=>A0 ?_ rfl Bl;refine Bf F M Az 0<|sZ ?_;clear F M a;intro w M;refine Ao<|?_
   refine eK (C':=Keep a7 [rB ax [vS ao ((Ax c l (ns.take (k))).1.length) ((Ax c l (ns.take (k))).1.length)] 54,rB Y [vS A ((Ax c l ns).1.length) ((Ax c l ns).1.length)] 54,rB b6 [vS H l.length I] 54,rB b4 [vS D c.kZ.length E,iI c.cap] 51,rB b2 [vS ba bs.length bc] 73,rB b1 [vS qa qs.length qc,vS za zs.length zc,iB ((n:Nat):Int)] 46]) (Aw M) (fun w h=>h.mono (Gle.refl _) (by simp))<|wk ?_;have ct:(decide ((((Ax c l (ns.take (k))).2.1:Nat):Int)=((k:Nat):Int)))=true:=(decide_eq_true (by (first | omega | rfl | (rw [if_pos ar]) | decide)));refine wk ?_;have cu:(decide ((Ax c ((Ax c l (ns.take (k))).1) (ns.drop (k))).2.2=(Ax c l ns).2.2))=true:=(decide_eq_true (by (first | omega | rfl | (rw [if_pos ar]) | decide)));refine wk ?_;have cv:(decide ((((Ax c l ns).2.1:Nat):Int)=((k:Nat):Int)+((((Ax c ((Ax c l (ns.take (k))).1) (ns.drop (k))).2.1:Nat):Int))))=true:=(decide_eq_true (by (first | omega | rfl | (rw [if_pos ar]) | decide)));refine wk ?_;refine A2 X0 rfl rfl (Hl (xs:=(Ax c ((Ax c l (ns.take (k))).1) (ns.drop (k))).1) (ys:=(Ax c l ns).1) M Sgq63 Sgq9)<|?_;clear M;rintro _ w M rfl
   refine wk ?_;have cw:(decide ((if ((Ax c ((Ax c l (ns.take (k))).1) (ns.drop (k))).1)=((Ax c l ns).1) then (1:Int) else 0)=1))=true:=(decide_eq_true (by (first | omega | rfl | (rw [if_pos ar]) | decide)));refine wk ?_;refine C3 K1 rfl rfl (Da M HG)<|?_;clear M;rintro _ bR w am M rfl
   replace HG:=HG.mono am;refine wk ?_;refine Af rfl rfl<|?_
   exact ⟨_,((((((((aw.trans av).trans au).trans aa).trans ai).trans T).trans al).trans V).trans am),M.wn dS7,rfl⟩
  exact Bl
 exact Bl
end Go.Proofs.YtmmhmcplegpenaaGreatDoor
