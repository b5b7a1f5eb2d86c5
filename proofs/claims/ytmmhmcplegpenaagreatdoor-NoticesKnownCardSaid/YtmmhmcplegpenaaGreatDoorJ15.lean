/- Own lemmas and walks. -/
import Derived.Test.YtmmhmcplegpenaaGreatDoorJ14
import Derived.Test.YtmmhmcplegpenaaGreatDoorJ13
import Derived.Test.YtmmhmcplegpenaaGreatDoorJ11
set_option linter.unusedSimpArgs false
set_option linter.unusedVariables false
set_option maxRecDepth 10000
set_option maxHeartbeats 1600000
open Go.Value renaming slice→vS,string→vT,int→vI,bool→vB,pointer→vP
open Go.IntKind renaming i64→kI,u64→kU
open Go.Lib renaming cut→xC
open Go.Proofs.Tryz renaming prog→pG
open Go.Y.Res renaming blk→rB,row→rR
open Go.Y (pP qT iI iB iU sN)
open List renaming length_append→lA,length_cons→lC,length_nil→lN,length_take→lT,length_drop→lD,mem_of_getElem?→mG,mem_cons→mC,length_map→lM
namespace Go.Proofs.YtmmhmcplegpenaaGreatDoor
open Go Go.Y Go.Proofs
variable {w0 w:World} {G:Av} {L:List Res}
theorem Ade (M:Mem w0 G L w) {ns:List NotD} {R:List EntD × Nat × Int} (hR:O2 c3 l3 ns=R) {ka N E:Option Addr} {I O H:Nat} (U:Aj Cq 9 G (vS ka c3.kZ.length I) c3.kZ) (V:Aj Bj 6 G (vS N l3.length O) l3) (Y:Aj Ct 5 G (vS E ns.length H) ns) (A:∀ x∈ns,x.iZ.length≤900000) :
  Calls pG 25 #[.agg #[vS ka c3.kZ.length I,iI 1],.agg #[vS N l3.length O],vS E ns.length H] w (I5 w0 G (fun S T v=>∃ (a:Option Addr) (cs:List Value) (D:List Res),v=.tuple #[.agg #[vS a (R).1.length (R).1.length],iI (((R).2.1:Nat):Int),iI R.2.2]∧T = (C0 a (R).1.length cs::(D++L))∧Els (Nt D) 6 S cs (R).1)):=by
 rw [← hR]
 exact Z9 (c:=c3) M U V Y A
theorem hnl {k:Nat} {a b t:Int} {l:List ItemD} (h:k < 256∧(0≤a∧a≤9)∧(0≤b∧b≤9)∧(0≤t∧t≤9)∧l.length≤9):(⟨k,a,b,t,l⟩:NotD).kind < 256∧Al .i64 (⟨k,a,b,t,l⟩:NotD).at_∧Al .i64 (⟨k,a,b,t,l⟩:NotD).count∧Al .i64 (⟨k,a,b,t,l⟩:NotD).to∧(⟨k,a,b,t,l⟩:NotD).iZ.length≤9223372036854775807 :=
 ⟨h.1,Bi (by show _≤a;omega) (by show a≤_;omega),Bi (by show _≤b;omega) (by show b≤_;omega),Bi (by show _≤t;omega) (by show t≤_;omega),(by have:=h.2.2.2.2;show l.length≤_;omega)⟩
theorem rdn {G:Av} {k:Nat} {a b t:Int} {l:List ItemD} {ad:Option Addr} {c n:Nat} (h:k < 256∧(0≤a∧a≤9)∧(0≤b∧b≤9)∧(0≤t∧t≤9)∧l.length≤9) (N:n=l.length) (S:Aj Bp 4 G (vS ad n c) l) :
  Ct G [iB ((k:Nat):Int),iI a,iI b,iI t,vS ad n c] ⟨k,a,b,t,l⟩:=by
 subst N;obtain ⟨A,D,E,H,I⟩:=hnl h
 exact ⟨ad,c,rfl,A,D,E,H,I,S⟩
theorem Td (M:Mem w0 G L w) {k:Nat} {a b t z:Int} (h:k < 256∧(0≤a∧a≤9)∧(0≤b∧b≤9)∧(0≤t∧t≤9)∧([]:List ItemD).length≤9) (A:Dm ⟨k,a,b,t,[]⟩=z) :
  Calls pG 37 #[.agg #[iB ((k:Nat):Int),iI a,iI b,iI t,sN]] w (B5 w0 G L fun v=>v=iI z):=by
 rw [← A]
 exact Ia (x:=⟨k,a,b,t,[]⟩) M (hnl h) Aj.nil
theorem ln_cell {i n:Nat} (h:lnN[i]?=some n):(#[iI 2,iI 1,iI 2]:Array Value)[i]?=some (iI ((n:Nat):Int)):=by
 rcases i with _ | _ | _ | i <;> simp only [lnN,List.getElem?_cons_zero,List.getElem?_cons_succ,List.getElem?_nil,Option.some.injEq,reduceCtorEq] at h
 ·subst h;rfl
 ·subst h;rfl
 subst h;rfl
theorem Da (M:Mem w0 G L w) (HG:Globs 0 1 2 3 G):Calls pG 22 #[] w (Ret w0 G L fun G' v=>v=vB true):=by
 refine Ap (vs:=[]) Tryz.func22 rfl (n:=148) rfl rfl<|wk ?_;refine C3 ent36 rfl rfl (Vo M)<|?_;clear M;rintro _ b7 w ay M ⟨ae,ag,ah,ai,rfl,SCq1,SLq1⟩
 replace HG:=HG.mono ay;refine wk ?_;refine B0 M Fo rfl rfl<|?_;clear M;intro b2 w M
 refine B0 M Az rfl rfl<|?_;clear M;intro b4 w M
 intro a F;refine Bf F M Fo 1 ?_;clear F M a;intro w a M F;replace M:=z_M M;refine Bf F M Az 0<|sZ ?_;clear F M a;intro w M;refine wk ?_;refine Ak (fun a F=>Am (cs:=[iB 2,iI 0,iI 1,iI 0,sN]) Ba.k rfl Ba (F.evp rfl) rfl) rfl<|Ak (fun a F=>Am (cs:=[iU 9,iB 0,qT [],sN]) Bc.k rfl Bc (F.evp rfl) rfl) rfl<|fun a F=>?_
 refine Ar F M Ci.k Bc rfl rfl (cs:=[iU 9,iB 0,qT [],sN]) rfl rfl tS tD rfl ?_;clear F M a;intro v6 w a M F;obtain ⟨al,am,rfl,bO,bM,c9⟩:=M.rS (k:=0) rfl;have b6:Els Bp 4 b7 [iU 9,iB 0,qT [],sN] [it3 9]:=⟨[iU 9,iB 0,qT [],sN],_,rfl,rfl,⟨none,0,rfl,tD,tD,tD,tD,Aj.nil⟩,rfl⟩;obtain ⟨cB,b8,b9,bF,ak,br,Sz8,M⟩:=M.fZ Ac (k:=0) rfl b6 tD;clear br b9 bF;replace HG:=HG.mono ak;replace SCq1:=SCq1.mono Ai ak;replace SLq1:=SLq1.mono Ab ak;revert a;refine Ak (fun a F=>Am (cs:=[iB 1,iI 2,iI 0,iI 0,vS al 1 (am)]) Ba.k rfl Ba (F.evp rfl) rfl) rfl<|Ak (fun a F=>Am (cs:=[iB 3,iI 0,iI 1,iI 2,sN]) Ba.k rfl Ba (F.evp rfl) rfl) rfl<|fun a F=>?_
 refine Bw F M Du.k Ba (ps:=[(0,.agg #[iB 2,iI 0,iI 1,iI 0,sN]),(1,.agg #[iB 1,iI 2,iI 0,iI 0,vS al 1 (am)]),(2,.agg #[iB 3,iI 0,iI 1,iI 2,sN])]) (cs:=[[iB 2,iI 0,iI 1,iI 0,sN],[iB 1,iI 2,iI 0,iI 0,vS al 1 (am)],[iB 3,iI 0,iI 1,iI 2,sN]]) (fl:=[iB 2,iI 0,iI 1,iI 0,sN,iB 1,iI 2,iI 0,iI 0,vS al 1 (am),iB 3,iI 0,iI 1,iI 2,sN]) rfl rfl (by simp [Gt,Value.cells]) (by simp [Awa]) rfl tS tD tD rfl ?_;clear F M a;intro v9 w a M F;obtain ⟨cH,cI,rfl,bP,bN,cA⟩:=M.rS (k:=0) rfl;have aV:Els Ct 5 b8 [iB 2,iI 0,iI 1,iI 0,sN,iB 1,iI 2,iI 0,iI 0,vS al 1 (am),iB 3,iI 0,iI 1,iI 2,sN] Ud:=⟨_,_,rfl,rfl,rdn tD rfl Aj.nil,⟨_,_,rfl,rfl,rdn tD rfl Sz8,⟨_,_,rfl,rfl,rdn tD rfl Aj.nil,rfl⟩⟩⟩;obtain ⟨bY,cn,bf,bl,aa,aF,Sz11,M⟩:=M.fZ Aa (k:=0) rfl aV tD;clear aF bf bl;replace HG:=HG.mono aa;replace SCq1:=SCq1.mono Ai aa;replace SLq1:=SLq1.mono Ab aa;revert a;refine wk ?_;intro a F;refine Cs F K0 rfl rfl (Ade (ns:=Ud) M all3 SCq1 SLq1 Sz11 tD) ?_;clear F M a;rintro _ cl _ w a V M ⟨Y,ap,an,rfl,rfl,a0⟩ F
 replace HG:=HG.mono V;replace SCq1:=SCq1.mono Ai V;replace SLq1:=SLq1.mono Ab V;have M:=M.perm (Bk (C0 Y (([en3 3,en3 9,en3 2]:List EntD),(3:Nat),(0:Int)).1.length ap::an) [rB b4 [vS ah l3.length ai] 54,rB b2 [vS ae c3.kZ.length ag,iI 1] 51] L);obtain ⟨a3,T,M,Sgq12⟩:=Gl (M.perm (Bk [rB b4 [vS ah l3.length ai] 54,rB b2 [vS ae c3.kZ.length ag,iI 1] 51] (C0 Y (([en3 3,en3 9,en3 2]:List EntD),(3:Nat),(0:Int)).1.length ap::an) L)) a0;replace HG:=HG.mono T;replace SCq1:=SCq1.mono Ai T;replace SLq1:=SLq1.mono Ab T;replace M:=z_M M;revert a;refine wk ?_;refine B0 M Az rfl rfl<|?_;clear M;intro a5 w M
 intro a F;refine Bf F M Az 0<|sZ ?_;clear F M a;intro w M;refine wk ?_;refine Ak (fun a F=>Am (cs:=[iB 2,iI 0,iI 1,iI 0,sN]) Ba.k rfl Ba (F.evp rfl) rfl) rfl<|Ak (fun a F=>Am (cs:=[iB 2,iI 2,iI 1,iI 0,sN]) Ba.k rfl Ba (F.evp rfl) rfl) rfl<|fun a F=>?_
 refine Bw F M Du.k Ba (ps:=[(0,.agg #[iB 2,iI 0,iI 1,iI 0,sN]),(1,.agg #[iB 2,iI 2,iI 1,iI 0,sN])]) (cs:=[[iB 2,iI 0,iI 1,iI 0,sN],[iB 2,iI 2,iI 1,iI 0,sN]]) (fl:=[iB 2,iI 0,iI 1,iI 0,sN,iB 2,iI 2,iI 1,iI 0,sN]) rfl rfl (by simp [Gt,Value.cells]) (by simp [Awa]) rfl tS tD tD rfl ?_;clear F M a;intro cL w a M F;obtain ⟨cx,c4,rfl,bz,bu,bR⟩:=M.rS (k:=0) rfl;have aW:Els Ct 5 a3 [iB 2,iI 0,iI 1,iI 0,sN,iB 2,iI 2,iI 1,iI 0,sN] Z6:=⟨_,_,rfl,rfl,rdn tD rfl Aj.nil,⟨_,_,rfl,rfl,rdn tD rfl Aj.nil,rfl⟩⟩;obtain ⟨bZ,co,bg,bm,U,aG,Sz17,M⟩:=M.fZ Aa (k:=0) rfl aW tD;clear aG bg bm;replace HG:=HG.mono U;replace SCq1:=SCq1.mono Ai U;replace SLq1:=SLq1.mono Ab U;replace Sgq12:=Sgq12.mono Ab U;refine Cs F K0 rfl rfl (Ade (ns:=Z6) M all3b SCq1 SLq1 Sz17 tD) ?_;clear F M a;rintro _ cm _ w a S M ⟨aj,aq,ao,rfl,rfl,a1⟩ F;replace HG:=HG.mono S; replace Sgq12:=Sgq12.mono Ab S;have M:=M.perm (Bk (C0 aj (([]:List EntD),(1:Nat),(4:Int)).1.length aq::ao) [rB a5 [vS Y ((([en3 3,en3 9,en3 2]:List EntD),(3:Nat),(0:Int)).1.length) ((([en3 3,en3 9,en3 2]:List EntD),(3:Nat),(0:Int)).1.length)] 54,rB b4 [vS ah l3.length ai] 54,rB b2 [vS ae c3.kZ.length ag,iI 1] 51] L);obtain ⟨a4,O,M,Sgq18⟩:=Gl (M.perm (Bk [rB a5 [vS Y ((([en3 3,en3 9,en3 2]:List EntD),(3:Nat),(0:Int)).1.length) ((([en3 3,en3 9,en3 2]:List EntD),(3:Nat),(0:Int)).1.length)] 54,rB b4 [vS ah l3.length ai] 54,rB b2 [vS ae c3.kZ.length ag,iI 1] 51] (C0 aj (([]:List EntD),(1:Nat),(4:Int)).1.length aq::ao) L)) a1;replace HG:=HG.mono O;replace Sgq12:=Sgq12.mono Ab O;replace M:=z_M M;revert a;refine wk ?_;refine B0 M Az rfl rfl<|?_;clear M;intro bA w M
 intro a F;refine Bf F M Az 0<|sZ ?_;clear F M a;intro w M;refine wk ?_;refine Ak (fun a F=>Am (cs:=[iB 2,iI 0,iI 0,iI 1,sN]) Ba.k rfl Ba (F.evp rfl) rfl) rfl<|A2 Ahw rfl rfl (Td (k:=2) (a:=0) (b:=0) (t:=1) (z:=5) M tD tD)<|?_;clear M;rintro _ w M rfl
 refine wk ?_;refine Ak (fun a F=>Am (cs:=[iB 6,iI 0,iI 0,iI 0,sN]) Ba.k rfl Ba (F.evp rfl) rfl) rfl<|wk ?_;refine A2 Ahw rfl rfl (Td (k:=6) (a:=0) (b:=0) (t:=0) (z:=1) M tD tD)<|?_;clear M;rintro _ w M rfl
 refine wk ?_;refine Ak (fun a F=>Am (cs:=[iB 5,iI 0,iI 0,iI 0,sN]) Ba.k rfl Ba (F.evp rfl) rfl) rfl<|wk ?_;refine A2 Ahw rfl rfl (Td (k:=5) (a:=0) (b:=0) (t:=0) (z:=0) M tD tD)<|?_;clear M;rintro _ w M rfl
 refine wk ?_;have c6:(!(decide ((((([en3 3,en3 9,en3 2]:List EntD),(3:Nat),(0:Int)).1.length:Nat):Int)=3)))=false:=(Ge (decide_eq_true (by (first | omega | rfl | decide))));refine wk ?_;obtain ⟨cz,cD,_,cq,_,Ae22,aC⟩:=Sgq12.at (show ([en3 3,en3 9,en3 2]:List EntD)[0]?=some (en3 3) from rfl);obtain ⟨bB,au,a9,a6⟩:=aC;obtain ⟨ce,ci,rfl,aK,aO,aR,bV,SMe22⟩:=a9;subst au;have bG:(((en3 3).item).key < 18446744073709551616∧((en3 3).item).typ < 256∧((en3 3).item).text.length≤9223372036854775807):=⟨aK,aO,aR⟩;have bJ:-9223372036854775808≤(en3 3).size∧(en3 3).size≤9223372036854775807:=a6;refine wk ?_;have c7:(!(decide (((((en3 3).item).key:Nat):Int)=3)))=false:=(Ge (decide_eq_true (by (first | omega | rfl | decide))));refine wk ?_;obtain ⟨c0,cE,_,cr,_,Ae24,aD⟩:=Sgq12.at (show ([en3 3,en3 9,en3 2]:List EntD)[1]?=some (en3 9) from rfl);obtain ⟨bC,av,aA,a7⟩:=aD;obtain ⟨cf,cj,rfl,aL,aP,aS,bW,SMe24⟩:=aA;subst av;have bH:(((en3 9).item).key < 18446744073709551616∧((en3 9).item).typ < 256∧((en3 9).item).text.length≤9223372036854775807):=⟨aL,aP,aS⟩;have bK:-9223372036854775808≤(en3 9).size∧(en3 9).size≤9223372036854775807:=a7;refine wk ?_;have c8:(!(decide (((((en3 9).item).key:Nat):Int)=9)))=false:=(Ge (decide_eq_true (by (first | omega | rfl | decide))));refine wk ?_;obtain ⟨c1,cF,_,ct,_,Ae26,aE⟩:=Sgq12.at (show ([en3 3,en3 9,en3 2]:List EntD)[2]?=some (en3 2) from rfl)
 obtain ⟨bD,aw,aB,a8⟩:=aE;obtain ⟨cg,ck,rfl,aM,aQ,aT,bX,SMe26⟩:=aB;subst aw;have bI:(((en3 2).item).key < 18446744073709551616∧((en3 2).item).typ < 256∧((en3 2).item).text.length≤9223372036854775807):=⟨aM,aQ,aT⟩;have bL:-9223372036854775808≤(en3 2).size∧(en3 2).size≤9223372036854775807:=a8;refine wk ?_;refine Ak (fun a F=>Am (cs:=[iU 9,iB 0,qT [120],sN]) Bc.k rfl Bc (F.evp rfl) rfl) rfl<|fun a F=>?_
 refine Ar F M Ci.k Bc rfl rfl (cs:=[iU 9,iB 0,qT [120],sN]) rfl rfl tS tD rfl ?_;clear F M a;intro cM w a M F;obtain ⟨ab,ac,rfl,b0,bv,bS⟩:=M.rS (k:=0) rfl;have aU:Els Bp 4 a4 [iU 9,iB 0,qT [120],sN] [⟨9,0,[120],[]⟩]:=⟨[iU 9,iB 0,qT [120],sN],_,rfl,rfl,⟨none,0,rfl,tD,tD,tD,tD,Aj.nil⟩,rfl⟩;obtain ⟨ca,ba,bh,bn,I,aH,Sz29,M⟩:=M.fZ Ac (k:=0) rfl aU tD;clear aH bh bn;replace HG:=HG.mono I;replace Ae22:=Ae22.mono I;replace Ae24:=Ae24.mono I;replace Ae26:=Ae26.mono I;revert a;refine Ak (fun a F=>Am (cs:=[iB 1,iI 2,iI 0,iI 0,vS ab 1 (ac)]) Ba.k rfl Ba (F.evp rfl) rfl) rfl<|Ak (fun a F=>Am (cs:=[iB 2,iI 0,iI 1,iI 0,sN]) Ba.k rfl Ba (F.evp rfl) rfl) rfl<|fun a F=>?_
 refine Bw F M Du.k Ba (ps:=[(0,.agg #[iB 1,iI 2,iI 0,iI 0,vS ab 1 (ac)]),(1,.agg #[iB 2,iI 0,iI 1,iI 0,sN])]) (cs:=[[iB 1,iI 2,iI 0,iI 0,vS ab 1 (ac)],[iB 2,iI 0,iI 1,iI 0,sN]]) (fl:=[iB 1,iI 2,iI 0,iI 0,vS ab 1 (ac),iB 2,iI 0,iI 1,iI 0,sN]) rfl rfl (by simp [Gt,Value.cells]) (by simp [Awa]) rfl tS tD tD rfl ?_;clear F M a;intro cO w a M F;obtain ⟨cy,c5,rfl,b1,bw,bT⟩:=M.rS (k:=0) rfl;have aX:Els Ct 5 ba [iB 1,iI 2,iI 0,iI 0,vS ab 1 (ac),iB 2,iI 0,iI 1,iI 0,sN] N2:=⟨_,_,rfl,rfl,rdn tD rfl Sz29,⟨_,_,rfl,rfl,rdn tD rfl Aj.nil,rfl⟩⟩;obtain ⟨cb,cp,bi,bo,H,aI,Sz32,M⟩:=M.fZ Aa (k:=0) rfl aX tD;clear aI bi bo;replace HG:=HG.mono H;replace Ae22:=Ae22.mono H;replace Ae24:=Ae24.mono H;replace Ae26:=Ae26.mono H; revert a;refine C3 Uv rfl rfl (H5 (ns:=N2) M HG Sz32)<|?_;clear M;rintro _ aY w D M rfl
 replace HG:=HG.mono D;replace Ae22:=Ae22.mono D;replace Ae24:=Ae24.mono D;replace Ae26:=Ae26.mono D;intro a F;rw [Aew.1,Aew.2] at F;revert a;refine wk ?_;intro a F;refine Bw F M Dx.k Dg (ps:=[(0,qT [105,110,115,101,114,116,32,48,32,49,10]),(1,qT [114,101,109,111,118,101,32,48,10]),(2,qT [114,101,115,101,116,32,48,10,102,111,111,10])]) (cs:=[[qT [105,110,115,101,114,116,32,48,32,49,10]],[qT [114,101,109,111,118,101,32,48,10]],[qT [114,101,115,101,116,32,48,10,102,111,111,10]]]) (fl:=[qT [105,110,115,101,114,116,32,48,32,49,10],qT [114,101,109,111,118,101,32,48,10],qT [114,101,115,101,116,32,48,10,102,111,111,10]]) rfl rfl (by simp [Gt,Value.cells]) (by simp [ti9]) rfl tS tD tD rfl ?_;clear F M a;intro cP w a M F;obtain ⟨be,bk,rfl,b3,bx,bU⟩:=M.rS (k:=0) rfl;have Et:Els Cr 1 aY [qT [105,110,115,101,114,116,32,48,32,49,10],qT [114,101,109,111,118,101,32,48,10],qT [114,101,115,101,116,32,48,10,102,111,111,10]] Avi:=Hp Avi (by intro y hy;simp only [Avi,mC,List.not_mem_nil,or_false] at hy;rcases hy with rfl | rfl | rfl <;> decide)
 obtain ⟨cc,ax,bj,bp,E,aJ,Sz35,M⟩:=M.fZ Au (k:=0) rfl Et tD;clear aJ bj bp;replace HG:=HG.mono E;replace Ae22:=Ae22.mono E;replace Ae24:=Ae24.mono E;replace Ae26:=Ae26.mono E;revert a;refine wk ?_;refine fun a F=>Bd (fun m a' w'=>∃ (i:Nat),m=3 - i∧∃ a2,Gle ax a2∧Fits 148 a' [(6,iI 0),(10,qT [105,110,115,101,114,116,32,50,32,49,10,57,32,48,32,45,32,120,10,114,101,109,111,118,101,32,48,32,49,10]),(119,vS be 3 (bk)),(120,iI ((3:Nat):Int)),(121,iI ((i:Nat):Int))]∧Mem w0 a2 (rB bA [vS aj ((([]:List EntD),(1:Nat),(4:Int)).1.length) ((([]:List EntD),(1:Nat),(4:Int)).1.length)] 54::rB a5 [vS Y ((([en3 3,en3 9,en3 2]:List EntD),(3:Nat),(0:Int)).1.length) ((([en3 3,en3 9,en3 2]:List EntD),(3:Nat),(0:Int)).1.length)] 54::rB b4 [vS ah l3.length ai] 54::rB b2 [vS ae c3.kZ.length ag,iI 1] 51::L) w'∧(i≤3)) _ ⟨0,rfl,ax,Gle.refl _,fU,M,tM⟩ ?_;clear F M;rintro m a w ⟨i,rfl,a2,N,F,M,hi⟩;replace HG:=HG.mono N
 replace Ae22:=Ae22.mono N;replace Ae24:=Ae24.mono N;replace Ae26:=Ae26.mono N;replace Sz35:=Sz35.mono Au N;revert a;refine wk ?_;refine qD rfl ?_ ?_
 ·intro cJ;refine wk ?_;obtain ⟨bb,ar⟩:=Aq (xs:=Avi) (i:=i) tM;obtain ⟨c2,cG,_,cu,_,Ae38,⟨rfl,b5⟩⟩:=Sz35.at ar;refine wk ?_;obtain ⟨ln,bQ,cd⟩:=A2c ar;refine C3 Xz rfl rfl (Hm (s:=bb) M HG (by first | assumption | omega))<|?_;clear M;rintro _ aZ w A M ⟨cw,bt,az,bq,rfl,cv,aN⟩
  replace HG:=HG.mono A;replace Ae22:=Ae22.mono A;replace Ae24:=Ae24.mono A;replace Ae26:=Ae26.mono A;replace Ae38:=Ae38.mono A;obtain ⟨rfl,rfl,rfl⟩:bt=[]∧az=ln∧bq=5:=by have h_:=aN.uniq cd;simpa only [Prod.mk.injEq] using h_
  refine wk ?_;refine Ak (fun a F=>C9 F (cs:=[iI 2,iI 1,iI 2]) Abv.k Abv Cj rfl rfl) rfl<|wk ?_;refine Ak (fun a F=>V2 (j:=i) (v:=iI (((az:Nat)):Int)) Abv.k Cj rfl rfl (F.ev rfl) (F.ev rfl) rfl tM (ln_cell bQ)) rfl<|wk ?_;intro a F
  exact ⟨_,tM,i+1,rfl,aZ,(N.trans A),fU,M,tM⟩
 intro cK;refine wk ?_;refine Af rfl rfl<|?_
 exact ⟨_,((((((((((((ay.trans ak).trans aa).trans V).trans T).trans U).trans S).trans O).trans I).trans H).trans D).trans E).trans N),M.wn dS4,by first | rfl | (congr 1;first | rfl | decide | simp_all)⟩
def FewN (ns:List NotD):Prop:=ns.length≤40∧∀ x∈ns,x.iZ.length≤20
theorem Xx {w0 w:World} {G:Av} {L:List Res} (M:Mem w0 G L w) {an:Option Addr} {cn:Nat} {ns:List NotD} (D:Aj Ct 5 G (vS an ns.length cn) ns):Calls pG 21 #[vS an ns.length cn] w (B5 w0 G L fun v=>∃ z:Int,v=iI z∧(z=0∨(z=1∧FewN ns))):=by
 have bN:=D.bound;refine Ap (vs:=[_]) Tryz.func21 rfl (n:=97) rfl rfl<|wk ?_;refine qD rfl ?_ ?_
 ·intro h1;refine wk ?_;refine Af rfl rfl<|?_
  exact ⟨M,_,rfl,Or.inl rfl⟩
 intro h2;refine wk ?_;refine fun a F=>Bd (fun m a' w'=>∃ (i:Nat),∃ (z:Nat),m=ns.length - i∧Fits 97 a' [(0,vS an ns.length cn),(3,iI ((z:Nat):Int)),(4,iI ((i:Nat):Int))]∧Mem w0 G (L) w'∧(i≤ns.length)∧(∀ (q:Nat) (y:NotD),q < i→ns[q]?=some y→y.iZ.length≤20)∧(z≤60)) _ ⟨0,0,rfl,fU,M,Nat.zero_le _,fun q y h=>by omega,tM⟩ ?_;clear F M;rintro m a w ⟨i,z,rfl,F,M,hi,hA,hz⟩;revert a;refine wk ?_;refine qD rfl ?_ ?_
 ·intro h3;refine wk ?_;obtain ⟨X,E⟩:=Aq (xs:=ns) (i:=i) tM
  rcases Nat.lt_or_ge 20 X.iZ.length with cF | d3
  ·skip
   refine wk ?_;obtain ⟨di,d4,_,de,_,cZ,bx⟩:=D.at E;obtain ⟨cG,cK,rfl,ba,bg,bk,bo,bt,cu⟩:=bx;have cA:X.kind < 256∧Al .i64 X.at_∧Al .i64 X.count∧Al .i64 X.to∧X.iZ.length≤9223372036854775807:=⟨ba,bg,bk,bo,bt⟩;refine wk ?_;refine Ak (fun a F=>Ld (F.ev rfl) (F.ev rfl)) rfl<|wk ?_;obtain ⟨dj,d5,_,df,_,da,bz⟩:=D.at E;obtain ⟨cH,cL,rfl,bb,bh,bl,bp,bu,cv⟩:=bz;have cB:X.kind < 256∧Al .i64 X.at_∧Al .i64 X.count∧Al .i64 X.to∧X.iZ.length≤9223372036854775807:=⟨bb,bh,bl,bp,bu⟩;refine wk ?_
   rcases bE (decide (20 < ((X.iZ.length:Nat):Int))) with b8 | b9
   ·skip
    have h6:=dT b8;refine wk ?_;refine Af rfl rfl<|?_
    exact ⟨M,_,rfl,Or.inl rfl⟩
   have h7:=dF b9;intro a F
   omega
  refine wk ?_;obtain ⟨dk,d6,_,dg,_,db,b0⟩:=D.at E;obtain ⟨cI,cM,rfl,be,bi,bm,bq,bv,cw⟩:=b0;have cD:X.kind < 256∧Al .i64 X.at_∧Al .i64 X.count∧Al .i64 X.to∧X.iZ.length≤9223372036854775807:=⟨be,bi,bm,bq,bv⟩;refine wk ?_;obtain ⟨dl,d7,_,dh,_,dc,b1⟩:=D.at E;obtain ⟨cJ,cO,rfl,bf,bj,bn,br,bw,cx⟩:=b1;have cE:X.kind < 256∧Al .i64 X.at_∧Al .i64 X.count∧Al .i64 X.to∧X.iZ.length≤9223372036854775807:=⟨bf,bj,bn,br,bw⟩;refine wk ?_
  rcases bE (decide (20 < ((X.iZ.length:Nat):Int))) with aX | aY
  ·skip
   have dm:=dT aX;refine wk ?_;refine Af rfl rfl<|?_
   exact ⟨M,_,rfl,Or.inl rfl⟩
  have dn:=dF aY;refine wk ?_;refine qD rfl ?_ ?_
  ·intro dp;refine wk ?_;refine Af rfl rfl<|?_
   exact ⟨M,_,rfl,Or.inl rfl⟩
  intro dq;refine wk ?_;refine fun a F=>Bd (fun m a' w'=>∃ (j:Nat),m=X.iZ.length - j∧Fits 97 a' [(0,vS an ns.length cn),(3,iI ((z+X.iZ.length:Nat):Int)),(4,iI ((i:Nat):Int)),(5,iI ((j:Nat):Int))]∧Mem w0 G (L) w'∧(j≤X.iZ.length)) _ ⟨0,rfl,fU,M,Nat.zero_le _⟩ ?_;clear F M;rintro m a w ⟨j,rfl,F,M,hj⟩;revert a;refine wk ?_;obtain ⟨cz,cP,_,co,_,ci,a1⟩:=D.at E;obtain ⟨bX,cc,rfl,T,ac,aj,ap,aw,b4⟩:=a1;have bF:X.kind < 256∧Al .i64 X.at_∧Al .i64 X.count∧Al .i64 X.to∧X.iZ.length≤9223372036854775807:=⟨T,ac,aj,ap,aw⟩;refine wk ?_;refine qD rfl ?_ ?_
  ·intro dr;refine D8<|Ca<|H2<|Ca<|Ca<|?_
   obtain ⟨Y,hY⟩:=Aq (xs:=X.iZ) (i:=j) tM;refine Hg<|Cd rfl<|Cd rfl<|?_
   obtain ⟨c0,cQ,_,aS,_,aN,a2⟩:=D.at E;obtain ⟨bY,cd,rfl,U,ae,ak,aq,ax,H⟩:=a2;have bG:X.kind < 256∧Al .i64 X.at_∧Al .i64 X.count∧Al .i64 X.to∧X.iZ.length≤9223372036854775807:=⟨U,ae,ak,aq,ax⟩;refine Mx Du.k Ba aS rfl rfl<|Io Ba.k rfl rfl<|Vv Ci M aN 4 rfl rfl rfl rfl<|Cd rfl<|?_
   obtain ⟨c1,cR,_,aT,_,aO,a3⟩:=H.at hY;obtain ⟨bP,bT,rfl,aB,aF,aJ,bK,b5⟩:=a3;have bA:(Y.key < 18446744073709551616∧Y.typ < 256∧Y.text.length≤9223372036854775807):=⟨aB,aF,aJ⟩;refine Mx Ci.k Bc aT rfl rfl<|Io Bc.k rfl rfl<|Vv Dg M aO 2 rfl rfl rfl rfl<|Ak (fun a F=>Mz Dg.k (F.ev rfl)) rfl<|s_gt rfl rfl<|Cd rfl<|?_
   rcases bE (decide (70 < (((Y.text).length:Nat):Int))) with A | aZ
   ·skip
    have dt:=dT A;refine g_f rfl A<|g_f rfl A<|g_f rfl A<|g_f rfl A<|g_f rfl A<|g_f rfl A<|g_f rfl A<|g_f rfl A<|g_f rfl A<|g_f rfl A<|g_f rfl A<|Aql rfl A rfl<|Aia rfl rfl<|Bt<|Dq rfl<|Fl<|Fu<|Iw<|Fu<|Fu<|Iw<|Iw<|Fu<|Fu<|Iw<|Fu<|?_
    refine Af rfl rfl<|?_
    exact ⟨M,_,rfl,Or.inl rfl⟩
   have du:=dF aZ;refine wk ?_;obtain ⟨c2,cS,_,cp,_,cj,a4⟩:=D.at E;obtain ⟨bZ,ce,rfl,V,ag,al,ar,ay,I⟩:=a4;have bH:X.kind < 256∧Al .i64 X.at_∧Al .i64 X.count∧Al .i64 X.to∧X.iZ.length≤9223372036854775807:=⟨V,ag,al,ar,ay⟩;refine wk ?_;obtain ⟨c4,cT,_,cq,_,ck,a5⟩:=I.at hY;obtain ⟨bQ,bU,rfl,aC,aG,aK,bL,b6⟩:=a5;have bB:(Y.key < 18446744073709551616∧Y.typ < 256∧Y.text.length≤9223372036854775807):=⟨aC,aG,aK⟩;refine wk ?_;refine qD rfl ?_ ?_
   ·intro dv;refine wk ?_;refine Af rfl rfl<|?_
    exact ⟨M,_,rfl,Or.inl rfl⟩
   intro dw;refine wk ?_;refine fun a F=>Bd (fun m a' w'=>∃ (k:Nat),m=Y.mZ.length - k∧Fits 97 a' [(0,vS an ns.length cn),(3,iI ((z+X.iZ.length:Nat):Int)),(4,iI ((i:Nat):Int)),(5,iI ((j:Nat):Int)),(6,iI ((k:Nat):Int))]∧Mem w0 G (L) w'∧(k≤Y.mZ.length)) _ ⟨0,rfl,fU,M,Nat.zero_le _⟩ ?_;clear F M;rintro m a w ⟨k,rfl,F,M,hk⟩;revert a;refine wk ?_;obtain ⟨c5,cU,_,cr,_,cl,a6⟩:=D.at E;obtain ⟨ca,cf,rfl,aa,ah,am,au,az,N⟩:=a6;have bI:X.kind < 256∧Al .i64 X.at_∧Al .i64 X.count∧Al .i64 X.to∧X.iZ.length≤9223372036854775807:=⟨aa,ah,am,au,az⟩;refine wk ?_;obtain ⟨c6,cV,_,ct,_,cm,a7⟩:=N.at hY;obtain ⟨bR,bV,rfl,aD,aH,aL,bM,b7⟩:=a7;have bC:(Y.key < 18446744073709551616∧Y.typ < 256∧Y.text.length≤9223372036854775807):=⟨aD,aH,aL⟩;refine wk ?_;refine qD rfl ?_ ?_
   ·intro dx;refine D8<|Ca<|H2<|Bt<|Cd rfl<|Cd rfl<|?_
    obtain ⟨c7,cW,_,aU,_,aP,a8⟩:=D.at E;obtain ⟨cb,cg,rfl,ab,ai,ao,av,a0,O⟩:=a8;have bJ:X.kind < 256∧Al .i64 X.at_∧Al .i64 X.count∧Al .i64 X.to∧X.iZ.length≤9223372036854775807:=⟨ab,ai,ao,av,a0⟩;refine Mx Du.k Ba aU rfl rfl<|Io Ba.k rfl rfl<|Vv Ci M aP 4 rfl rfl rfl rfl<|Cd rfl<|?_
    obtain ⟨c8,cX,_,aV,_,aQ,a9⟩:=O.at hY;obtain ⟨bS,bW,rfl,aE,aI,aM,bO,S⟩:=a9;have bD:(Y.key < 18446744073709551616∧Y.typ < 256∧Y.text.length≤9223372036854775807):=⟨aE,aI,aM⟩;refine Mx Ci.k Bc aV rfl rfl<|Io Bc.k rfl rfl<|Vv Dx M aQ 3 rfl rfl rfl rfl<|Cd rfl<|?_
    obtain ⟨cy,aA⟩:=Aq (xs:=Y.mZ) (i:=k) tM;obtain ⟨c9,cY,_,aW,_,aR,⟨rfl,b3⟩⟩:=S.at aA;refine Mx Dx.k Dg aW rfl rfl<|Vv Dg M aR 0 rfl rfl tM rfl<|Ak (fun a F=>Mz Dg.k (F.ev rfl)) rfl<|s_gt rfl rfl<|Ao<|Gd<|?_
    refine qD rfl ?_ ?_
    ·intro dy;refine wk ?_;refine Af rfl rfl<|?_
     exact ⟨M,_,rfl,Or.inl rfl⟩
    intro dz;refine wk ?_;intro a F
    exact ⟨_,tM,k+1,rfl,fU,M,tM⟩
   intro d0;refine wk ?_;intro a F
   exact ⟨_,tM,j+1,rfl,fU,M,tM⟩
  intro d1;refine wk ?_;intro a F
  exact ⟨_,tM,i+1,z+X.iZ.length,rfl,fU,M,tM,D9 (p:=fun y:NotD=>y.iZ.length≤20) hA E tM,tM⟩
 intro d2;refine wk ?_;refine Af rfl rfl<|?_
 exact ⟨M,_,rfl,Or.inr ⟨rfl,tM,E3 hA tM⟩⟩
open Go Go.Y Go.RowKit
def Abi (x:NotD):Prop:=Al .i64 x.at_∧Al .i64 x.count∧Al .i64 x.to∧∀ y∈x.iZ,y.key < 18446744073709551616∧y.typ < 256
theorem notes_b {G:Av} {a:Option Addr} {c:Nat} {ns:List NotD} (S:Aj Ct 5 G (vS a ns.length c) ns):∀ x∈ns,Abi x:=by
 intro x T;obtain ⟨i,O⟩:=List.mem_iff_getElem?.1 T;obtain ⟨b,o,_,I,_,A,h⟩:=S.at O;obtain ⟨_,_,_,_,E,H,N,_,D⟩:=h
 exact ⟨E,H,N,Vb D⟩
theorem Z5 {x:NotD} (h:Fz x=0):Dm x=0∧x.iZ.length≤1024∧Ih x.iZ:=by
 by_cases h0:Dm x=0
 ·rw [Jy h0] at h
  exact ⟨h0,(O7 h).1.1,(O7 h).1.2⟩
 rw [Xy h0] at h;exact absurd h h0
theorem Aob:∀ (r p:List NotD),(∀ x∈r,Fz x=0∧Abi x)→p.length+r.length≤32→PR p (Bz r) (p++r,0,0)
 | [],p,_,_=>by rw [List.append_nil];exact PR.done
 | x::r,p,h,hl=>by
  obtain ⟨h1,b1,b2,b3,b4⟩:=h x (by simp);obtain ⟨e1,e2,e3⟩:=Z5 h1;obtain ⟨e4,f1,f2,f3,f4⟩:=Ft.1 e1;have hr:=Aob r (p++[x]) (fun y hy=>h y (by simp [hy])) (by simp only [lA,lC,lN] at hl ⊢;omega);have hx:({ ({ x with iZ:=[] }:NotD) with iZ:=x.iZ }:NotD)=x:=rfl;rw [List.append_assoc,List.singleton_append] at hr;refine PR.step (x:={ x with iZ:=[] }) (sz:=((x.iZ.length:Nat):Int)) (ys:=x.iZ) (r:=Bz r) ⟨e4,f1,f2,f3,f4.imp id (fun h=>by rw [h];rfl),rfl,b1,b2,b3,tM⟩ (by simp only [lC] at hl;omega) ?_ (fun y hy=>⟨e3 y hy,b4 y hy⟩) rfl ?_
  ·show It x++Bz r=_
   unfold It;rw [List.append_assoc];rfl
  ·exact hr
theorem pr_inv {p:List NotD} {c:List UInt8} {q:List NotD × Nat × Int} (h:PR p c q):q.2.2=0→∃ r,q.1=p++r∧q.2.1=0∧c=Bz r∧(∀ x∈r,Fz x=0)∧(p.length≤32→p.length+r.length≤32):=by
 induction h with
 | done=>intro _;exact ⟨[],by simp,rfl,rfl,by simp,by simp⟩
 | nohead=>intro h;cases h
 | full=>intro h;cases h
 | bad=>intro h;cases h
 | @step xs c x sz ys r q hh hn hc hok hs _ ih =>
  intro h;obtain ⟨z,D,S,E,H,I⟩:=ih h;refine ⟨{ x with iZ:=ys }::z,by rw [D];simp,S,?_,?_,?_⟩
  ·rw [hc,E,← hs]
   show _=It _++Bz z
   unfold It;rw [List.append_assoc];rfl
  ·intro y A
   rcases List.mem_cons.1 A with rfl | A
   ·have O:Dm { x with iZ:=ys } = 0:=Ft.2 ⟨hh.kd,hh.fa,hh.fc,hh.ft,hh.fi.imp id (fun h=>by show ys.length=0;omega)⟩;rw [Jy O]
    exact (Mt (l:=ys) (by have:=hh.rs;omega) (fun y A=>(hok y A).1)).1
   ·exact H y A
  ·intro U;have T:xs.length+1≤32:=Nat.lt_of_le_of_ne U hn;have N:=I (by rw [lA];exact T);rw [lA] at N;rw [lC];have V:xs.length+1+z.length≤32:=N;clear ih I h D E H hok hc hs
   omega
theorem Aht {ns:List NotD}:Bv (Ot ns) ns.length=0↔∀ x∈ns,Fz x=0:=by
 rw [Ds]
 constructor
 ·intro h x D;obtain ⟨i,A⟩:=List.mem_iff_getElem?.1 D;have:=h i (A3 A)
  rwa [Tt A] at this
 intro h i A;obtain ⟨x,D⟩:=Aq A;rw [Tt D];exact h x (mG D)
theorem Ko {ns:List NotD}:Dk ns=0↔ns.length≤32∧(∀ x∈ns,Fz x=0)∧(Bz ns).length≤1048576:=by
 rw [← Aht];unfold Dk
 split
 ·rename_i h;exact ⟨fun A=>(by cases A),fun A=>by omega⟩
 rename_i h
 split
 ·rename_i D;exact ⟨fun A=>absurd A D,fun A=>absurd A.2.1 D⟩
 rename_i D
 split
 ·rename_i A;exact ⟨fun E=>(by cases E),fun E=>by omega⟩
 rename_i A;exact ⟨fun _=>⟨tM,Classical.byContradiction fun h=>D h,tM⟩,fun _=>rfl⟩
theorem pr_bad {p:List NotD} {c:List UInt8} {q:List NotD × Nat × Int} (h:PR p c q):q.2.2≠0→q.1=[]:=by
 induction h with
 | done=>intro h;exact absurd rfl h
 | nohead=>intro _;rfl
 | full=>intro _;rfl
 | bad=>intro _;rfl
 | step _ _ _ _ _ _ ih=>exact ih
abbrev ti39:TI:=⟨.array 4 5,4,4,.agg #[iB 0,iB 0,iB 0,iB 0]⟩
theorem Hd:TOK pG 39 ti39:=⟨kR,kR,kR⟩
abbrev ti40:TI:=⟨.slice 39,1,24,sN⟩
theorem Zf:TOK pG 40 ti40:=⟨kR,kR,kR⟩
abbrev ti42:TI:=⟨.struct [(0,1,40)],1,24,.agg #[sN]⟩
theorem Ze:TOK pG 42 ti42:=⟨kR,kR,kR⟩
abbrev ti46:TI:=⟨.struct [(0,1,42),(1,1,32),(2,1,5)],3,56,.agg #[sN,sN,iB 0]⟩
theorem L8:TOK pG 46 ti46:=⟨kR,kR,kR⟩
abbrev ti71:TI:=⟨.slice 93,1,24,sN⟩
theorem Zd:TOK pG 71 ti71:=⟨kR,kR,kR⟩
abbrev ti73:TI:=⟨.struct [(0,1,71)],1,24,.agg #[sN]⟩
theorem T9:TOK pG 73 ti73:=⟨kR,kR,kR⟩
abbrev ti93:TI:=⟨.array 5 5,5,5,.agg #[iB 0,iB 0,iB 0,iB 0,iB 0]⟩
theorem F0:TOK pG 93 ti93:=⟨kR,kR,kR⟩
theorem ent4:Ent pG 4:=.mk' Tryz.func4 kR kR
theorem ent5:Ent pG 5:=.mk' Tryz.func5 kR kR
theorem ent7:Ent pG 7:=.mk' Tryz.func7 kR kR
theorem ent8:Ent pG 8:=.mk' Tryz.func8 kR kR
theorem ent19:Ent pG 19:=.mk' Tryz.func19 kR kR
theorem Apr:Ent pG 23:=.mk' Tryz.func23 kR kR
theorem ent24:Ent pG 24:=.mk' Tryz.func24 kR kR
theorem X0:Ent pG 26:=.mk' Tryz.func26 kR kR
theorem ent29:Ent pG 29:=.mk' Tryz.func29 kR kR
theorem ent31:Ent pG 31:=.mk' Tryz.func31 kR kR
theorem A0i:Ent pG 34:=.mk' Tryz.func34 kR kR
theorem ent35:Ent pG 35:=.mk' Tryz.func35 kR kR
theorem Apn:Ent pG 60:=.mk' Tryz.func60 kR kR
theorem ent65:Ent pG 65:=.mk' Tryz.func65 kR kR
theorem ent76:Ent pG 76:=.mk' Tryz.func76 kR kR
theorem ent91:Ent pG 91:=.mk' Tryz.func91 kR kR
theorem ent138:Ent pG 138:=.mk' Tryz.func138 kR kR
instance:CT pG 39 ti39:=⟨Hd⟩
instance:CT pG 40 ti40:=⟨Zf⟩
instance:CT pG 42 ti42:=⟨Ze⟩
instance:CT pG 46 ti46:=⟨L8⟩
instance:CT pG 71 ti71:=⟨Zd⟩
instance:CT pG 73 ti73:=⟨T9⟩
instance:CT pG 93 ti93:=⟨F0⟩
theorem Abw {ns:List NotD} (h:Dk ns=0) (N:∀ x∈ns,Abi x):PF (D2 ns) (ns,0,0):=by
 obtain ⟨D,E,H⟩:=Ko.1 h;have I:D2 ns=Bz ns:=by unfold D2;rw [if_pos h]
 rw [I]
 exact Or.inr ⟨H,Aob ns [] (fun x A=>⟨E x A,N x A⟩) (by simpa using D)⟩
theorem pf_text {s:List UInt8} {ys:List NotD} {S:Nat} {e:Int} (h:PF s (ys,S,e)) (O:e=0):Dk ys=0∧D2 ys=s:=by
 subst O
 rcases h with ⟨_,h⟩ | ⟨H,h⟩
 ·simp at h
 obtain ⟨r,A,_,D,I,N⟩:=pr_inv h rfl;simp only [List.nil_append] at A;subst A;have E:Dk ys=0:=Ko.2 ⟨by have:=N (by simp);simpa using this,I,by rw [← D];exact H⟩
 exact ⟨E,by unfold D2;rw [if_pos E,D]⟩
theorem pf_bad {s:List UInt8} {ys:List NotD} {D:Nat} {e:Int} (h:PF s (ys,D,e)) (A:e≠0):ys=[]:=by
 rcases h with ⟨_,h⟩ | ⟨_,h⟩
 ·simp only [Prod.mk.injEq] at h;exact h.1
 exact pr_bad h A
theorem Ajh {w0 w:World} {G:Av} {L:List Res} (M:Mem w0 G L w) (HG:Globs 0 1 2 3 G) {a1:Option Addr} {c1:Nat} {xs:List NotD} (SX:Aj Ct 5 G (vS a1 xs.length c1) xs):Calls pG 7 #[vS a1 xs.length c1] w (Ret w0 G L fun G' v=>v=vB true):=by
 have bX:=SX.bound;refine Ap (vs:=[_]) Tryz.func7 rfl (n:=63) rfl rfl<|wk ?_;refine A2 ent21 rfl rfl (Xx (ns:=xs) M SX)<|?_;clear M;rintro _ w M ⟨ap,rfl,ae⟩
 refine wk ?_;refine qD rfl ?_ ?_
 ·intro h2;refine Bt<|?_
  refine C3 K1 rfl rfl (Da M HG)<|?_;clear M;rintro _ ag w E M rfl
  replace HG:=HG.mono E;replace SX:=SX.mono Aa E;refine wk ?_;refine Af rfl rfl<|?_
  exact ⟨_,E,M,rfl⟩
 intro h4;refine wk ?_;refine A2 ent31 rfl rfl (Afn (ns:=xs) M SX)<|?_;clear M;rintro _ w M rfl
 refine wk ?_;refine C3 Uv rfl rfl (H5 (ns:=xs) M HG SX)<|?_;clear M;rintro _ ah w D M rfl
 replace HG:=HG.mono D;replace SX:=SX.mono Aa D;refine wk ?_;refine Ag rfl ?_ ?_
 ·intro Y;have h6:=dF (Ad Y);refine Bt<|?_
  refine C3 K1 rfl rfl (Da M HG)<|?_;clear M;rintro _ ai w H M rfl
  replace HG:=HG.mono H;replace SX:=SX.mono Aa H;refine wk ?_;refine Af rfl rfl<|?_
  exact ⟨_,(D.trans H),M,rfl⟩
 intro aa;have h8:=dT (Ae aa);refine wk ?_;have O:Dk xs=0:=by omega
 have am:(D2 xs).length≤1048576:=by have h_:=Ko.1 O;unfold D2;rw [if_pos O];exact h_.2.2
 refine wk ?_;refine C3 Xz rfl rfl (Hm (s:=(D2 xs)) M HG tM)<|?_;clear M;rintro _ aj w I M ⟨ak,ao,an,al,rfl,Sq9,V⟩
 replace HG:=HG.mono I;replace SX:=SX.mono Aa I;have S:=V.uniq (Abw O (notes_b SX));simp only [Prod.mk.injEq] at S;obtain ⟨N,T,U⟩:=S;have N:=N.symm;subst N;subst T;subst U;refine wk ?_;refine A2 A0i rfl rfl (Km (xs:=xs) (ys:=xs) M Sq9 SX)<|?_;clear M;rintro _ w M rfl
 refine wk ?_;have ac:(decide ((if xs=xs then (1:Int) else 0)=1))=true:=(decide_eq_true (by (first | omega | rfl | exact if_pos rfl | decide)));refine wk ?_;refine Ak (fun a F=>Zp Du.k (F.ev rfl)) rfl<|wk ?_;refine C3 K1 rfl rfl (Da M HG)<|?_;clear M;rintro _ ab w A M rfl
 replace HG:=HG.mono A;refine wk ?_;refine Af rfl rfl<|?_
 exact ⟨_,((D.trans I).trans A),M,rfl⟩
section
variable {ρ:Operand→Value} {P:Program} {d:Option Tmp} {t:TypeId} {p:String} {af:Array Edge} {g:Option (Nat × Bool)} {w:World}
theorem Zo {D A:TypeId} {x:Operand} {k k':IntKind} {a:Int} (E:tk P A=.int k) (H:∃ u,P.underlying D=some u) (N:ρ x=vI k' a) :
  (execOp ρ ⟨d,.convert D A x,t,p,af,g⟩).run P w=.ok (.value (vI k (k.wrap a))) w:=by
 obtain ⟨u,I⟩:=H
 simp [execOp,N,convert,B9 I,B9 (Be E),Conv.intToInt]
theorem Awn {x:Operand} {ty:TypeId} {k:IntKind} {a:Int} (A:ρ x=vI k a):(execOp ρ ⟨d,.unOp .neg ty x,t,p,af,g⟩).run P w=.ok (.value (vI k (k.wrap (-a)))) w:=by
 simp [execOp,A,Op.unary,Op.intArith]
end
theorem Mp (n:Int):Al .i64 (IntKind.i64.wrap n):=by
 simp [Al,IntKind.wrap,IntKind.min,IntKind.max,IntKind.bits,IntKind.signed];omega
theorem Ais {u:Nat} (h:u≤9223372036854775808):IntKind.i64.wrap (-(IntKind.i64.wrap ((u:Nat):Int))) = -((u:Nat):Int):=by
 simp [IntKind.wrap,IntKind.bits,IntKind.signed];omega
theorem Air {u:Nat} (h:u≤9223372036854775807):IntKind.i64.wrap ((u:Nat):Int)=((u:Nat):Int):=K7 (Bi tM tM)
def A2g (s:List UInt8) (z:Int) (b:Bool):Prop:=Al .i64 z∧(b=true→s=Lib.itoa z)∧∀ y,Al .i64 y→s=Lib.itoa y→b=true
theorem nb_45 {c:UInt8}:nb c=45↔c=45:=by
 constructor
 ·intro h
  apply UInt8.toNat_inj.1
  unfold nb at h;have A:(45:UInt8).toNat=45:=rfl
  omega
 rintro rfl;rfl
theorem Aof {s:List UInt8} {u:Nat} {b:Bool} (I:Za 18446744073709551616 s u b) (E:¬ s[0]?=some 45) {y:Int} (N:Al .i64 y) (e:s=Lib.itoa y):b=true∧IntKind.i64.wrap ((u:Nat):Int)=y:=by
 obtain ⟨A,D⟩:=N;have A:-9223372036854775808≤y:=A;have D:y≤9223372036854775807:=D
 by_cases h:y < 0
 ·obtain ⟨m,rfl⟩:∃ m:Nat,y = -(m:Int):=⟨y.natAbs,tM⟩;rw [Lib.itoa_neg m tM] at e;rw [e] at E
  exact absurd rfl E
 obtain ⟨m,rfl⟩:∃ m:Nat,y=(m:Int):=⟨y.toNat,tM⟩;rw [Lib.itoa_nonneg] at e;obtain ⟨H,rfl⟩:=I.2 m tM e
 exact ⟨H,Air tM⟩
theorem Aog {s:List UInt8} {u:Nat} {b:Bool} (I:Za 18446744073709551616 (s.drop 1) u b) (H:s[0]?=some 45) {y:Int} (N:Al .i64 y) (e:s=Lib.itoa y):b=true∧IntKind.i64.wrap (-(IntKind.i64.wrap ((u:Nat):Int)))=y:=by
 obtain ⟨D,E⟩:=N;have D:-9223372036854775808≤y:=D;have E:y≤9223372036854775807:=E
 by_cases h:y < 0
 ·obtain ⟨m,rfl⟩:∃ m:Nat,y = -(m:Int):=⟨y.natAbs,tM⟩;rw [Lib.itoa_neg m tM] at e;obtain ⟨A,rfl⟩:=I.2 m tM (by rw [e];rfl)
  exact ⟨A,Ais tM⟩
 obtain ⟨m,rfl⟩:∃ m:Nat,y=(m:Int):=⟨y.toNat,tM⟩;rw [Lib.itoa_nonneg] at e;rw [e] at H;have A:=Lm m 45 (mG H);unfold Nr at A;have O:(45:UInt8).toNat=45:=rfl
 omega
theorem U6 {s:List UInt8} {v:Int} {b:Bool} (h:∀ y,Al .i64 y→s=Lib.itoa y→b=true∧v=y) (A:b=false∨Lib.itoa v≠s):A2g s 0 false :=
 ⟨Bi tD tD,fun h=>(by cases h),fun y E e=>by
  obtain ⟨D,rfl⟩:=h y E e
  rcases A with A | A
  ·rw [A] at D;cases D
  exact absurd e.symm A⟩
theorem Agg {s:List UInt8} {v:Int} (A:Al .i64 v) (h:Lib.itoa v=s):A2g s v true:=⟨A,fun _=>h.symm,fun _ _ _=>rfl⟩
def Uh (zs:List Int):List UInt8:=(Bn zs).drop 1
theorem Wk {z:Int} {zs:List Int}:Uh (z::zs)=Lib.itoa z++Bn zs:=by unfold Uh Bn;simp
theorem T4 {z:Int} {zs:List Int}:Bn (z::zs)=32::Uh (z::zs):=by rw [Wk];unfold Bn;simp
theorem Aic {z:Int} {zs:List Int}:(xC (Uh (z::zs)) [32]).1=Lib.itoa z∧(xC (Uh (z::zs)) [32]).2.1=Uh zs:=by
 have A:(32:UInt8) ∉ Lib.itoa z:=Xl tD tD;rw [Wk]
 cases zs with
 | nil =>
  have:Lib.itoa z++Bn []=Lib.itoa z:=by simp [Bn]
  rw [this,X9 A]
  exact ⟨rfl,rfl⟩
 | cons y r=>rw [T4,Iy A];exact ⟨rfl,rfl⟩
theorem fm_ne {k:Nat} {x:NotD} {sz:Int} (A:1≤x.kind∧x.kind≤5):∃ z zs,fm (nuK x sz)=z::zs:=by
 unfold fm nuK
 rcases (show x.kind=1∨x.kind=2∨x.kind=3∨x.kind=4∨x.kind=5 by omega) with e | e | e | e | e <;> rw [e] <;> exact ⟨_,_,rfl⟩
theorem Auf {s:List UInt8} {x:NotD} {sz:Int} (h:s++[10]=Cm x sz):s=Cb x.kind++Bn (fm (nuK x sz)):=by
 unfold Cm at h
 exact List.append_cancel_right h
def RdI (s:List UInt8) (k:Nat) (rest:List UInt8) (v:Nat→Int) (i:Nat):Prop:=∀ x sz,Head x sz→s++[10]=Cm x sz→x.kind=k∧rest=Uh (fm ((nuK x sz).drop i))∧∀ j,j < i→v j=nS x sz j
def KdI (name:List UInt8) (k kk:Nat):Prop:=(kk=0∧∀ j,1≤j→j < k→Cb j≠name)∨(1≤kk∧kk < k∧kk≤5∧Cb kk=name)
theorem Ayx {A:List UInt8} {k kk:Nat} (h:KdI A k kk) (D:1≤k∧k≤5) (E:A=Cb k):KdI A (k+1) k:=Or.inr ⟨D.1,tM,D.2,E.symm⟩
theorem kd_no {A:List UInt8} {k kk:Nat} (h:KdI A k kk) (O:¬ A=Cb k):KdI A (k+1) kk:=by
 rcases h with ⟨D,H⟩ | ⟨D,H,I,N⟩
 ·refine Or.inl ⟨D,fun j S T=>?_⟩
  rcases Nat.lt_succ_iff_lt_or_eq.1 T with E | E
  ·exact H j S E
  rw [E];exact fun h=>O h.symm
 exact Or.inr ⟨D,tM,I,N⟩
theorem kd_le {A:List UInt8} {k kk:Nat} (h:KdI A k kk):kk≤5:=by
 rcases h with ⟨D,_⟩ | ⟨_,_,E,_⟩ <;> omega
theorem Axd {s:List UInt8} {k kk:Nat} {v:Nat→Int} (h:KdI (xC s [32]).1 k kk) (V:6≤k):RdI s kk (xC s [32]).2.1 v 0:=by
 intro x sz A T;have H:=Auf T;obtain ⟨z,zs,E⟩:=fm_ne (k:=0) (sz:=sz) A.kd;have I:xC s [32]=(Cb x.kind,Uh (z::zs),true):=by
  rw [H,E,T4,Iy (Te (Or.inr rfl))]
 rw [I] at h ⊢;refine ⟨?_,by rw [List.drop_zero,E],fun j U=>by omega⟩
 rcases h with ⟨_,D⟩ | ⟨N,D,O,S⟩
 ·exact absurd rfl (D x.kind A.kd.1 (by have:=A.kd.2;omega))
 exact Mf A.kd ⟨N,O⟩ S.symm
theorem Ada {x:NotD} {sz:Int} {i:Nat} (h:i < 4):fm ((nuK x sz).drop i)=(if uG x.kind i=1 then [nS x sz i] else [])++fm ((nuK x sz).drop (i+1)):=by
 have D:(nuK x sz).drop i=(decide (uG x.kind i=1),nS x sz i)::(nuK x sz).drop (i+1):=by
  have A:=Axs (x:=x) (sz:=sz) h;have E:=List.drop_eq_getElem_cons (l:=nuK x sz) (i:=i) h;rw [E]
  congr 1
  rw [List.getElem?_eq_getElem (show i < (nuK x sz).length from h)] at A
  exact Option.some.inj A
 rw [D,Aph]
 congr 1
 by_cases hu:uG x.kind i=1
 ·rw [if_pos hu,if_pos (decide_eq_true hu)]
 rw [if_neg hu,if_neg (by rw [decide_eq_false hu];exact Bool.false_ne_true)]
theorem u_01 (k i:Nat):uG k i=0∨uG k i=1:=by unfold uG;split <;> split <;> simp
theorem Aup {x:NotD} {sz:Int} {i:Nat} (h:Head x sz) (D:i < 4) (A:uG x.kind i=0):nS x sz i=0:=by
 rcases (show i=0∨i=1∨i=2∨i=3 by omega) with rfl | rfl | rfl | rfl <;> simp only [uG,Aou] at A <;> simp only [nS]
 ·exact h.fa.resolve_left A
 ·exact h.fc.resolve_left A
 ·exact h.ft.resolve_left A
 exact h.fi.resolve_left A
theorem rd_skip {s:List UInt8} {k i:Nat} {A:List UInt8} {v:Nat→Int} (h:RdI s k A v i) (H:i < 4) (T:uG k i=0) (U:v i=0):RdI s k A v (i+1):=by
 intro x sz E O;obtain ⟨rfl,I,N⟩:=h x sz E O;refine ⟨rfl,?_,fun j S=>?_⟩
 ·rw [I,Ada H,if_neg tM];rfl
 rcases Nat.lt_succ_iff_lt_or_eq.1 S with D | D
 ·exact N j D
 subst D;rw [U,Aup E H T]
def Abn (v:Nat→Int) (i:Nat) (z:Int):Nat→Int:=fun j=>if j=i then z else v j
theorem rd_take {s:List UInt8} {k i:Nat} {A:List UInt8} {v:Nat→Int} {z:Int} {b:Bool} (h:RdI s k A v i) (V:i < 4) (hu:uG k i=1) (H:A2g (xC A [32]).1 z b) (T:b=true):RdI s k (xC A [32]).2.1 (Abn v i z) (i+1):=by
 intro x sz D U;obtain ⟨rfl,I,S⟩:=h x sz D U;rw [Ada V,if_pos hu,List.singleton_append] at I;rw [I] at H ⊢;obtain ⟨N,O⟩:=Aic (z:=nS x sz i) (zs:=fm ((nuK x sz).drop (i+1)));rw [N] at H;have hz:z=nS x sz i:=(Ahi (Akx D.ra D.rc D.rt D.fl.rz) H.1 (H.2.1 T)).symm;refine ⟨rfl,O,fun j Y=>?_⟩;unfold Abn
 rcases Nat.lt_succ_iff_lt_or_eq.1 Y with E | E
 ·rw [if_neg tM];exact S j E
 rw [if_pos E,E,hz]
theorem rd_fail {s:List UInt8} {k i:Nat} {A:List UInt8} {v:Nat→Int} {z:Int} {b:Bool} (h:RdI s k A v i) (O:i < 4) (S:uG k i=1) (H:A2g (xC A [32]).1 z b) (I:b=false):∀ x sz,Head x sz→s++[10]≠Cm x sz:=by
 intro x sz D N;obtain ⟨rfl,E,T⟩:=h x sz D N;rw [Ada O,if_pos S,List.singleton_append] at E;rw [E,Aic.1] at H;have:=H.2.2 _ (Akx D.ra D.rc D.rt D.fl.rz) rfl;rw [I] at this;cases this
structure RdV (k:Nat) (v:Nat→Int) (i:Nat):Prop where
 ink:∀ j,Al .i64 (v j)
 un:∀ j,j < i→uG k j=0→v j=0
 ze:∀ j,i≤j→v j=0
theorem RdV.start (k:Nat):RdV k (fun _=>0) 0:=⟨fun _=>Bi (n:=0) tD tD,fun j h=>by omega,fun _ _=>rfl⟩
theorem RdV.skip {k i:Nat} {v:Nat→Int} (h:RdV k v i):RdV k v (i+1):=⟨h.ink,fun j D E=>by
 rcases Nat.lt_succ_iff_lt_or_eq.1 D with A | A
 ·exact h.un j A E
 exact h.ze j tM,fun j D=>h.ze j tM⟩
theorem RdV.take {k i:Nat} {v:Nat→Int} {z:Int} (h:RdV k v i) (H:Al .i64 z) (I:uG k i=1):RdV k (Abn v i z) (i+1):=⟨fun j=>by unfold Abn;split;exact H;exact h.ink j,fun j E D=>by
 unfold Abn
 rcases Nat.lt_succ_iff_lt_or_eq.1 E with A | A
 ·rw [if_neg tM];exact h.un j A D
 subst A;omega,fun j E=>by unfold Abn;rw [if_neg tM];exact h.ze j tM⟩
def VC (v:Nat→Int):List Value:=[iI (v 0),iI (v 1),iI (v 2),iI (v 3)]
theorem vc_set {v:Nat→Int} {i:Nat} {z:Int} (h:i < 4):(VC v).set (0+i) (iI z)=VC (Abn v i z):=by
 rcases (show i=0∨i=1∨i=2∨i=3 by omega) with rfl | rfl | rfl | rfl <;> simp [VC,Abn]
theorem vc_at {v:Nat→Int} {i:Nat} (h:i < 4):(VC v)[0+i]?=some (iI (v i)):=by
 rcases (show i=0∨i=1∨i=2∨i=3 by omega) with rfl | rfl | rfl | rfl <;> rfl
def rdX (k:Nat) (v:Nat→Int):NotD:=⟨k,v 0,v 1,v 2,[]⟩
theorem Axe {k i:Nat} {v:Nat→Int} (h:RdV k v i) (O:4≤i) (N:1≤k∧k≤5) (I:0≤v 3∧v 3≤1024):Head (rdX k v) (v 3):=by
 have A:=h.un 0 tM;have D:=h.un 1 tM;have E:=h.un 2 tM;have H:=h.un 3 tM;simp only [uG,Aou] at A D E H
 exact ⟨N,Classical.or_iff_not_imp_left.2 A,Classical.or_iff_not_imp_left.2 D,Classical.or_iff_not_imp_left.2 E,Classical.or_iff_not_imp_left.2 H,rfl,h.ink 0,h.ink 1,h.ink 2,I⟩
theorem rd_x {s:List UInt8} {k i:Nat} {A:List UInt8} {v:Nat→Int} (h:RdI s k A v i) (V:4≤i) {x:NotD} {sz:Int} (O:Head x sz) (U:s++[10]=Cm x sz):x=rdX k v∧sz=v 3:=by
 obtain ⟨S,_,D⟩:=h x sz O U;have E:=D 0 tM;have H:=D 1 tM;have I:=D 2 tM;have N:=D 3 tM;simp only [nS] at E H I N;refine ⟨?_,N.symm⟩;have T:=O.it
 cases x
 simp only [rdX,NotD.mk.injEq] at *
 exact ⟨S,E.symm,H.symm,I.symm,T⟩
theorem U2 {s:List UInt8} {k i:Nat} {D:List UInt8} {v:Nat→Int} (h:RdI s k D v i) (N:4≤i) (A:k=0∨v 3 < 0∨1024 < v 3∨Cm (rdX k v) (v 3)≠s++[10]):∀ x sz,Head x sz→s++[10]≠Cm x sz:=by
 intro x sz E H;obtain ⟨rfl,rfl⟩:=rd_x h N E H;have I:=E.kd;have O:=E.rs
 rcases A with A | A | A | A
 ·simp only [rdX] at I;omega
 ·omega
 ·omega
 exact A H.symm
theorem Iz {b:Bool} (h:(if b=true then (1:Int) else 0)=0):b=false:=by cases b;rfl;simp at h
theorem Q8 {b:Bool} (h:¬ (if b=true then (1:Int) else 0)=0):b=true:=by cases b;simp at h;rfl
theorem Ajx (M:Mem w0 G L w) {s:List UInt8} (hs:s.length≤9223372036854775807):Calls pG 138 #[qT s] w (B5 w0 G L fun v=>∃ (z:Int) (b:Bool),v=.tuple #[iI z,iI (if b=true then 1 else 0)]∧A2g s z b):=by
 refine Ap (vs:=[_]) Tryz.func138 rfl (n:=40) rfl rfl<|?_
 refine Bt<|Dq rfl<|Dq rfl<|Bt<|Cd rfl<|Dq rfl<|Dq rfl<|Ca<|Ca<|?_
 refine fun a F=>I6 (fun a' w'=>∃ (U:Bool),Fits 40 a' [(0,qT s),(2,iI 0),(3,iI 0),(4,qT s),(5,iI 0),(17,vB U)]∧Mem w0 G (L) w'∧(U=true↔s[0]?=some 45)) ?_ ?_
 ·skip
  revert a;refine wk ?_
  rcases bE (decide (0 < (((s).length:Nat):Int))) with ai | aj
  ·skip
   have h1:=dT ai;refine wk ?_;obtain ⟨B2,ae⟩:=Aq (xs:=(s)) (i:=0) tM;have a0:=Ry B2;refine Ak (fun a F=>Cu (i:=0) Dg.k (F.ev rfl) (F.ev rfl) ae) rfl<|wk ?_;intro a F
   exact ⟨(decide (nb B2=45)),fU,M,by rw [ae];simp [nb_45]⟩
  have h3:=dF aj;refine wk ?_;intro a F
  exact ⟨false,fU,M,by have h_:s=[]:=List.length_eq_zero_iff.1 tM;subst h_;simp⟩
 clear F M;rintro a w ⟨U,F,M,E⟩;revert a;refine Gd<|?_
 refine Ag rfl ?_ ?_
 ·intro ak;have h4:(U)=true:=ak;have az:=A3 (E.1 tA);refine Hg<|Cd rfl<|?_
  refine Ak (fun a F=>Ip (a:=1) (b:=(s).length) (kb:=.i64) (zb:=0) Dg.k (F.ev rfl) ⟨(F.ev rfl),tM⟩ rfl tM tM) rfl<|?_
  have ag:(s.take ((s).length)).drop 1=s.drop 1:=by rw [List.take_length]
  intro a F;rw [ag] at F;revert a;refine wk ?_;refine A2 Aeb rfl rfl (Pa (s:=s.drop 1) M (by (first | omega | (rw [lD];omega))))<|?_;clear M;rintro _ w M ⟨u6,ah,rfl,H⟩
  refine wk ?_;refine Ak (fun a F=>Zo Vn.k ⟨_,by rw [Be Gh.k]⟩ (F.ev rfl)) rfl<|wk ?_;refine Ak (fun a F=>Awn (F.ev rfl)) rfl<|wk ?_
  rcases bE (decide ((if ah=true then (1:Int) else 0)=0)) with al | am
  ·skip
   have h7:=dT al;refine wk ?_;refine Co rfl rfl rfl<|?_
   exact ⟨M,0,false,rfl,U6 (fun y A S=>Aog H (E.1 tA) A S) (by first | exact Or.inr tA | exact Or.inl (Iz tA))⟩
  have h8:=dF am;refine wk ?_;refine A2 Alp rfl rfl (Tb (z:=IntKind.i64.wrap (-(IntKind.i64.wrap ((u6:Nat):Int)))) M (Mp _))<|?_;clear M;rintro _ w M rfl
  refine wk ?_;refine Ag rfl ?_ ?_
  ·intro ac;have h9:=dF (Ad ac);have ay:(decide ((Lib.itoa (IntKind.i64.wrap (-(IntKind.i64.wrap ((u6:Nat):Int)))))=s))=false:=(Ad ac);refine wk ?_;refine Co rfl rfl rfl<|?_
   exact ⟨M,0,false,rfl,U6 (fun y A S=>Aog H (E.1 tA) A S) (by first | exact Or.inr tA | exact Or.inl (Iz tA))⟩
  intro I;have aq:=dT (Ae I);have an:(decide ((Lib.itoa (IntKind.i64.wrap (-(IntKind.i64.wrap ((u6:Nat):Int)))))=s))=true:=(Ae I);refine wk ?_;refine Co rfl rfl rfl<|?_
  exact ⟨M,_,true,rfl,Agg (Mp _) tA⟩
 intro Y;have ar:(U)=false:=Y;refine wk ?_;refine A2 Aeb rfl rfl (Pa (s:=s) M (by (first | omega | (rw [lD];omega))))<|?_;clear M;rintro _ w M ⟨T,V,rfl,D⟩
 refine wk ?_;refine Ak (fun a F=>Zo Vn.k ⟨_,by rw [Be Gh.k]⟩ (F.ev rfl)) rfl<|wk ?_
 rcases bE (decide ((if V=true then (1:Int) else 0)=0)) with aa | ab
 ·skip
  have au:=dT aa;refine wk ?_;refine Co rfl rfl rfl<|?_
  exact ⟨M,0,false,rfl,U6 (fun y A S=>Aof D (fun h_=>absurd (E.2 h_) (by simp_all)) A S) (by first | exact Or.inr tA | exact Or.inl (Iz tA))⟩
 have av:=dF ab;refine wk ?_;refine A2 Alp rfl rfl (Tb (z:=IntKind.i64.wrap ((T:Nat):Int)) M (Mp _))<|?_;clear M;rintro _ w M rfl
 refine wk ?_;refine Ag rfl ?_ ?_
 ·intro N;have aw:=dF (Ad N);have ao:(decide ((Lib.itoa (IntKind.i64.wrap ((T:Nat):Int)))=s))=false:=(Ad N);refine wk ?_;refine Co rfl rfl rfl<|?_
  exact ⟨M,0,false,rfl,U6 (fun y A S=>Aof D (fun h_=>absurd (E.2 h_) (by simp_all)) A S) (by first | exact Or.inr tA | exact Or.inl (Iz tA))⟩
 intro O;have ax:=dT (Ae O);have ap:(decide ((Lib.itoa (IntKind.i64.wrap ((T:Nat):Int)))=s))=true:=(Ae O);refine wk ?_;refine Co rfl rfl rfl<|?_
 exact ⟨M,_,true,rfl,Agg (Mp _) tA⟩
theorem Afp (M:Mem w0 G L w) {s:List UInt8} (hs:s.length≤1048576):Calls pG 91 #[qT s] w (B5 w0 G L fun v=>∃ (x:NotD) (sz:Int) (b:Bool),v=.tuple #[.agg #[iB ((x.kind:Nat):Int),iI x.at_,iI x.count,iI x.to,sN],iI sz,iI (if b=true then 1 else 0)]∧((b=true∧Head x sz∧s++[10]=Cm x sz)∨(b=false∧∀ y tz,Head y tz→s++[10]≠Cm y tz))):=by
 refine Ap (vs:=[_]) Tryz.func91 rfl (n:=100) rfl rfl<|?_
 refine Bt<|?_
 refine B0 M Ba rfl rfl<|?_;clear M;intro b1 w M
 refine wk ?_;refine A2 Qd rfl rfl (Gz (s:=s) (c:=(32:UInt8)) M tM)<|?_;clear M;rintro _ w M rfl
 have ak:=E8 (32:UInt8) s;refine wk ?_;refine B0 M Ba rfl rfl<|?_;clear M;intro b4 w M
 refine wk ?_;refine B0 M Cz rfl rfl<|?_;clear M;intro S w M
 refine wk ?_;refine fun a F=>Bd (fun m a' w'=>∃ (k:Nat),∃ (kk:Nat),m=6 - k∧Fits 100 a' [(0,qT s),(2,pP b1),(3,iI 0),(4,iI 0),(5,qT ((xC s [(32:UInt8)]).1)),(6,qT ((xC s [(32:UInt8)]).2.1)),(8,pP b4),(9,pP S),(10,iB ((k:Nat):Int))]∧Mem w0 G (rB S [iI 0,iI 0,iI 0,iI 0] 167::rB b4 [iB ((kk:Nat):Int),iI 0,iI 0,iI 0,sN] 65::rB b1 [iB 0,iI 0,iI 0,iI 0,sN] 65::L) w'∧(1≤k∧k≤6)∧(KdI (xC s [32]).1 k kk)) _ ⟨1,0,rfl,fU,M,tM,Or.inl ⟨rfl,fun j h1 h2=>by omega⟩⟩ ?_;clear F M;rintro m a w ⟨k,kk,rfl,F,M,hk,T⟩;revert a;refine wk ?_;refine qD rfl ?_ ?_
 ·intro h8;refine wk ?_;intro a F;refine Bw F M Dx.k Dg (ps:=[(0,qT []),(1,qT [105,110,115,101,114,116]),(2,qT [114,101,109,111,118,101]),(3,qT [109,111,118,101]),(4,qT [99,104,97,110,103,101]),(5,qT [114,101,115,101,116])]) (cs:=[[qT []],[qT [105,110,115,101,114,116]],[qT [114,101,109,111,118,101]],[qT [109,111,118,101]],[qT [99,104,97,110,103,101]],[qT [114,101,115,101,116]]]) (fl:=[qT [],qT [105,110,115,101,114,116],qT [114,101,109,111,118,101],qT [109,111,118,101],qT [99,104,97,110,103,101],qT [114,101,115,101,116]]) rfl rfl (by simp [Gt,Value.cells]) (by simp [ti9]) rfl tS tD tD rfl ?_;clear F M a;intro v9 w a M F;obtain ⟨ay,az,rfl,am,al,ax⟩:=M.rS (k:=0) rfl;have V:Els Cr 1 G [qT [],qT [105,110,115,101,114,116],qT [114,101,109,111,118,101],qT [109,111,118,101],qT [99,104,97,110,103,101],qT [114,101,115,101,116]] W7:=Hp W7 (by intro y hy;simp only [W7,mC,List.not_mem_nil,or_false] at hy;rcases hy with rfl | rfl | rfl | rfl | rfl | rfl <;> decide);revert a;refine Cd rfl<|?_
  obtain ⟨ar,_,aq,an,_,U,⟨rfl,aj⟩⟩:=M.atRow (k:=0) rfl tD V (Aoh (k:=k) tM);refine wk ?_;refine Afi Dg U 0 rfl rfl tM rfl<|wk ?_;refine qD rfl ?_ ?_
  ·intro a0;refine wk ?_;refine D0 Cp M 2 rfl rfl rfl rfl rfl rfl<|?_;clear M;intro w M
   refine wk ?_;refine Ak (fun a F=>Fx (F.ev rfl) (F.ev rfl) (Ho tM tM)) rfl<|wk ?_;intro a F
   exact ⟨_,tM,k+1,k,rfl,fU,(M.wn tW),tM,(by first | exact Ayx T tM tA | exact kd_no T tA)⟩
  intro a1;refine wk ?_;refine Ak (fun a F=>Fx (F.ev rfl) (F.ev rfl) (Ho tM tM)) rfl<|wk ?_;intro a F
  exact ⟨_,tM,k+1,kk,rfl,fU,(M.wn tW),tM,(by first | exact Ayx T tM tA | exact kd_no T tA)⟩
 intro a2;refine wk ?_;have aH:=kd_le T;refine wk ?_;refine A2 A0e rfl rfl (Qi (k:=kk) M)<|?_;clear M;rintro _ w M rfl
 refine B0 M Cz rfl rfl<|?_;clear M;intro Y w M
 intro a F;refine Bf F M Cz 0<|sZ ?_;clear F M a;intro w M;refine wk ?_;refine fun a F=>Bd (fun m a' w'=>∃ (i:Nat),∃ (A:List UInt8),∃ (v:Nat→Int),m=4 - i∧Fits 100 a' [(0,qT s),(2,pP b1),(3,iI 0),(4,iI 0),(8,pP b4),(9,pP S),(11,pP Y),(6,qT A),(12,iI ((i:Nat):Int))]∧Mem w0 G (rB Y [iI (uG kk 0),iI (uG kk 1),iI (uG kk 2),iI (uG kk 3)] 167::rB S (VC v) 167::rB b4 [iB ((kk:Nat):Int),iI 0,iI 0,iI 0,sN] 65::rB b1 [iB 0,iI 0,iI 0,iI 0,sN] 65::L) w'∧(i≤4)∧(RdI s kk A v i)∧(RdV kk v i)∧(A.length≤s.length)) _ ⟨0,(xC s [(32:UInt8)]).2.1,(fun _=>0),rfl,fU,M,tM,Axd T tM,RdV.start _,tM⟩ ?_;clear F M;rintro m a w ⟨i,A,v,rfl,F,M,hi,N,I,ao⟩;revert a;refine wk ?_;refine qD rfl ?_ ?_
 ·intro a3;refine wk ?_;refine Ak (fun a F=>Br (j:=i) Cz.k Cj rfl (F.ev rfl) (F.ev rfl) tM tM) rfl<|Ak (fun a F=>Cw (agf Cj rfl) (F.ev rfl) (M.cellL (k:=0) rfl (Aix (i:=i) tM))) rfl<|wk ?_;refine qD rfl ?_ ?_
  ·intro a4;refine wk ?_;intro a F
   exact ⟨_,tM,i+1,A,v,rfl,fU,M,tM,rd_skip N tM tA (I.ze i tM),I.skip,ao⟩
  intro a5;refine wk ?_;have O:uG kk i=1:=(u_01 kk i).resolve_left tA;refine wk ?_;refine A2 Qd rfl rfl (Gz (s:=A) (c:=(32:UInt8)) M tM)<|?_;clear M;rintro _ w M rfl
  have ai:=E8 (32:UInt8) A;refine wk ?_;refine A2 ent138 rfl rfl (Ajx (s:=((xC A [(32:UInt8)]).1)) M tM)<|?_;clear M;rintro _ w M ⟨ap,au,rfl,D⟩
  refine wk ?_;refine qD rfl ?_ ?_
  ·intro a6;refine wk ?_;intro a F;refine Bf F M Ba 3<|sZ ?_;clear F M a;intro w M;refine wk ?_;refine fun a F=>Jj F M (k:=3) rfl rfl Ba rfl rfl rfl rfl rfl ?_
   exact ⟨M.wn dS4,⟨kk,0,0,0,[]⟩,0,false,rfl,Or.inr ⟨rfl,rd_fail N tM O D (Iz tA)⟩⟩
  intro a7;refine wk ?_;refine Ak (fun a F=>Br (j:=i) Cz.k Cj rfl (F.ev rfl) (F.ev rfl) tM tM) rfl<|fun a F=>?_
  refine Pd F M Cj rfl (k:=1) rfl rfl rfl rfl (vc_at tM) ?_;clear F M a;intro w a M F;rw [vc_set tM] at M;replace M:=z_M M;revert a;refine wk ?_;intro a F
  exact ⟨_,tM,i+1,(xC A [(32:UInt8)]).2.1,(Abn v i ap),rfl,fU,M,tM,rd_take N tM O D (Q8 tA),I.take D.1 O,tM⟩
 intro a8;refine wk ?_;refine fun a F=>Dv [(true,0),(true,1),(true,2),(true,3),(true,4),(true,5),(true,6),(false,7),(true,8),(false,9),(true,10),(false,11)] (Keep G [rB S (VC v) 167]) rfl kR kF (Aw (M.drew _)) ?_;replace M:=M.drew (w.drawn+1);revert a;refine l_r (fun a F w M=>Br (j:=0) Cz.k Cj rfl (F.ev rfl) (F.ev rfl) tR tD) rfl<|wk ?_;refine l_r (fun a F w M=>Br (j:=1) Cz.k Cj rfl (F.ev rfl) (F.ev rfl) tR tD) rfl<|wk ?_;refine l_r (fun a F w M=>Br (j:=2) Cz.k Cj rfl (F.ev rfl) (F.ev rfl) tR tD) rfl<|wk ?_;refine l_a rfl<|D0 Cj M 2 rfl rfl rfl rfl rfl rfl<|?_;clear M;intro w M
 refine Ao<|?_
 refine eQ (Aw M)<|wk ?_;refine l_a rfl<|D0 Cj M 2 rfl rfl rfl rfl rfl rfl<|?_;clear M;intro w M
 refine Ao<|?_
 refine eQ (Aw M)<|wk ?_;refine l_a rfl<|D0 Cj M 2 rfl rfl rfl rfl rfl rfl<|?_;clear M;intro w M
 refine Ao<|?_
 refine eQ (Aw M)<|wk ?_
 rcases bE (decide (((kk:Nat):Int)=0)) with aa | ab
 ·skip
  have a9:=dT aa;refine wk ?_;intro a F;refine Bf F M Ba 3<|sZ ?_;clear F M a;intro w M;refine wk ?_;refine fun a F=>Jj F M (k:=3) rfl rfl Ba rfl rfl rfl rfl rfl ?_
  exact ⟨M.wn dS4,rdX kk v,0,false,rfl,Or.inr ⟨rfl,U2 N tM (by first | exact Or.inl tM | exact Or.inr (Or.inl tM) | exact Or.inr (Or.inr (Or.inl tM)) | exact Or.inr (Or.inr (Or.inr tA)))⟩⟩
 have aA:=dF ab;refine wk ?_;refine Ak (fun a F=>Br (j:=3) Cz.k Cj rfl (F.ev rfl) (F.ev rfl) tR tD) rfl<|wk ?_
 rcases bE (decide (v 3 < 0)) with ac | ae
 ·skip
  have aB:=dT ac;refine wk ?_;intro a F;refine Bf F M Ba 3<|sZ ?_;clear F M a;intro w M;refine wk ?_;refine fun a F=>Jj F M (k:=3) rfl rfl Ba rfl rfl rfl rfl rfl ?_
  exact ⟨M.wn dS4,rdX kk v,0,false,rfl,Or.inr ⟨rfl,U2 N tM (by first | exact Or.inl tM | exact Or.inr (Or.inl tM) | exact Or.inr (Or.inr (Or.inl tM)) | exact Or.inr (Or.inr (Or.inr tA)))⟩⟩
 have aC:=dF ae;refine wk ?_;refine Ak (fun a F=>Br (j:=3) Cz.k Cj rfl (F.ev rfl) (F.ev rfl) tR tD) rfl<|wk ?_
 rcases bE (decide (1024 < v 3)) with ag | ah
 ·skip
  have aD:=dT ag;refine wk ?_;intro a F;refine Bf F M Ba 3<|sZ ?_;clear F M a;intro w M;refine wk ?_;refine fun a F=>Jj F M (k:=3) rfl rfl Ba rfl rfl rfl rfl rfl ?_
  exact ⟨M.wn dS4,rdX kk v,0,false,rfl,Or.inr ⟨rfl,U2 N tM (by first | exact Or.inl tM | exact Or.inr (Or.inl tM) | exact Or.inr (Or.inr (Or.inl tM)) | exact Or.inr (Or.inr (Or.inr tA)))⟩⟩
 have aE:=dF ah;refine wk ?_;refine Ak (fun a F=>Br (j:=3) Cz.k Cj rfl (F.ev rfl) (F.ev rfl) tR tD) rfl<|wk ?_;refine A2 ent81 rfl rfl (Ug (x:=rdX kk v) (sz:=v 3) M ⟨by show kk < 256;omega,I.ink 0,I.ink 1,I.ink 2,Nat.zero_le _⟩ Aj.nil (I.ink 3) (by show kk≤5;omega))<|?_;clear M;rintro _ w M rfl
 refine wk ?_;refine Ak (fun a F=>Bg (F.ev rfl) (F.ev rfl) (by (simp only [lA,lC,lN];omega))) rfl<|wk ?_;refine Ag rfl ?_ ?_
 ·intro E;have aF:=dF (Ad E);have av:(decide ((Cm (rdX kk v) (v 3))=(s++([10]:List UInt8))))=false:=(Ad E);refine wk ?_;intro a F;refine Bf F M Ba 3<|sZ ?_;clear F M a;intro w M;refine wk ?_;refine fun a F=>Jj F M (k:=3) rfl rfl Ba rfl rfl rfl rfl rfl ?_
  exact ⟨M.wn dS4,rdX kk v,0,false,rfl,Or.inr ⟨rfl,U2 N tM (by first | exact Or.inl tM | exact Or.inr (Or.inl tM) | exact Or.inr (Or.inr (Or.inl tM)) | exact Or.inr (Or.inr (Or.inr tA)))⟩⟩
 intro H;have aG:=dT (Ae H);have aw:(decide ((Cm (rdX kk v) (v 3))=(s++([10]:List UInt8))))=true:=(Ae H);refine wk ?_;refine fun a F=>Dv [(true,0),(true,1),(true,2),(false,3),(true,4),(true,5)] (Keep G [rB S (VC v) 167,rB b4 [iB ((kk:Nat):Int),iI (v 0),iI (v 1),iI (v 2),sN] 65]) rfl kR kF (Aw (M.drew _)) ?_;replace M:=M.drew (w.drawn+1);revert a;refine wk ?_;refine l_r (fun a F w M=>Br (j:=3) Cz.k Cj rfl (F.ev rfl) (F.ev rfl) tR tD) rfl<|wk ?_;refine l_a rfl<|fun a F=>?_
 refine Bf F M Ba 3<|sZ ?_;clear F M a;intro w M;refine Ao<|?_
 refine eQ (Aw M)<|wk ?_;refine fun a F=>Jj F M (k:=3) rfl rfl Ba rfl rfl rfl rfl rfl ?_
 exact ⟨M.wn dS4,rdX kk v,v 3,true,rfl,Or.inl ⟨rfl,Axe I tM tM tM,Eq.symm tA⟩⟩
def Oc:Rd (NotD × Option Value):=fun G cs y=>match y.2 with
 | none=>Ct G cs y.1
 | some v=>cs=[iB ((y.1.kind:Nat):Int),iI y.1.at_,iI y.1.count,iI y.1.to,v]
theorem Jq:Hx Oc:=by
 rintro G D cs ⟨x,v⟩ h A
 cases v with
 | none=>exact Aa _ _ _ _ h A
 | some v=>exact A
theorem Agi {G:Av} {x:NotD} {v A:Value}:∀ ch:List Value,ch.length=5→Oc G ch (x,some v)→Oc G (ch.set 4 A) (x,some A):=by
 intro ch _ h;have h:ch=_:=h;subst h;rfl
def Re (xs:List NotD):List (NotD × Option Value):=xs.map fun y=>(y,none)
theorem O6 (xs:List NotD):(Re xs).length=xs.length:=lM _
theorem Zb {G:Av}:∀ {xs:List NotD} {cs:List Value},Els Ct 5 G cs xs→Els Oc 5 G cs (Re xs)
 | [],_,h=>h
 | x::xs,cs,⟨c1,r,h1,h2,h3,h4⟩=>⟨c1,r,h1,h2,h3,Zb h4⟩
theorem Z1 {G:Av} {x:NotD} {v:Value} {ys:List ItemD} {a:Option Addr} {c:Nat} (hv:v=vS a ys.length c) (S:Aj Bp 4 G (vS a ys.length c) ys) (hx:x.kind < 256∧Al .i64 x.at_∧Al .i64 x.count∧Al .i64 x.to) (hl:ys.length≤9223372036854775807) :
  ∀ {xs:List NotD} {cs:List Value},Els Oc 5 G cs (Re xs++[(x,some v)])→Els Ct 5 G cs (xs++[{ x with iZ:=ys }])
 | [],cs,⟨c1,r,h1,h2,h3,h4⟩=>by
  have h3:c1=_:=h3;subst h3 hv
  exact ⟨_,r,h1,h2,⟨a,c,rfl,hx.1,hx.2.1,hx.2.2.1,hx.2.2.2,hl,S⟩,h4⟩
 | y::xs,cs,⟨c1,r,h1,h2,h3,h4⟩=>⟨c1,r,h1,h2,h3,Z1 hv S hx hl h4⟩
theorem Azs {x:NotD} {sz:Int} (h:Head x sz):x.kind < 256∧Al .i64 x.at_∧Al .i64 x.count∧Al .i64 x.to:=⟨by have:=h.kd;omega,h.ra,h.rc,h.rt⟩
structure RpA (s c:List UInt8) (G:Av) (no:Nat) (cso:List Value) (line:Nat) (xs:List NotD):Prop where
 els:Els Ct 5 G cso xs
 len:no=xs.length
 few:xs.length≤32
 at_:line=nlN xs
 suf:line+c.length≤s.length
 go:∀ r,PR xs c r→PR [] s r
structure RpB (s c:List UInt8) (G:Av) (vi:Value) (ni:Nat) (csi:List Value) (no:Nat) (cso:List Value) (left line:Nat) (xs:List NotD) (x:NotD) (sz:Int) (ys:List ItemD):Prop where
 els:Els Oc 5 G cso (Re xs++[(x,some vi)])
 its:Els Bp 4 G csi ys
 nit:ni=ys.length
 len:no=xs.length+1
 few:xs.length < 32
 hd:Head x sz
 ok:okI ys
 lf:((left:Nat):Int)=sz - ys.length
 pos:0 < left
 at_:line=nlN xs+1+ys.length
 suf:line+c.length≤s.length
 go:∀ r,PR xs (Cm x sz++(Ce ys++c)) r→PR [] s r
theorem RpA.mono {s c:List UInt8} {G E:Av} {no A:Nat} {D:List Value} {xs:List NotD} (h:RpA s c G no D A xs) (H:Gle G E):RpA s c E no D A xs:={ h with els:=h.els.mono Aa H }
theorem RpB.mono {s c:List UInt8} {G I:Av} {S:Value} {O no A D:Nat} {E H:List Value} {xs:List NotD} {x:NotD} {sz:Int} {ys:List ItemD} (h:RpB s c G S O E no H A D xs x sz ys) (N:Gle G I):RpB s c I S O E no H A D xs x sz ys:={ h with els:=h.els.mono Jq N,its:=h.its.mono Ac N }
def RpS (s c:List UInt8) (G:Av) (vi:Value) (ni:Nat) (csi:List Value) (no:Nat) (cso:List Value) (left line:Nat):Prop :=
 (left=0∧∃ xs,RpA s c G no cso line xs)∨∃ xs x sz ys,RpB s c G vi ni csi no cso left line xs x sz ys
theorem RpS.mono {s c:List UInt8} {G I:Av} {S:Value} {O no A D:Nat} {E H:List Value} (h:RpS s c G S O E no H A D) (N:Gle G I):RpS s c I S O E no H A D:=by
 rcases h with ⟨T,xs,h⟩ | ⟨xs,x,sz,ys,h⟩
 ·exact Or.inl ⟨T,xs,h.mono N⟩
 exact Or.inr ⟨xs,x,sz,ys,h.mono N⟩
theorem Awu {s:List UInt8} {G:Av} {A:Value}:RpS s s G A 0 [] 0 [] 0 0 :=
 Or.inl ⟨rfl,[],⟨rfl,rfl,tD,rfl,tM,fun r h=>h⟩⟩
theorem Hv {c:List UInt8} (h:(xC c [10]).2.2=true):(xC c [10]).1.length+1+(xC c [10]).2.1.length=c.length:=by
 have A:=congrArg List.length (Ox h);simp only [lA,lC] at A
 omega
theorem Aru {c:List UInt8} (A:(xC c [10]).2.2=false):¬ H7 c:=by
 rintro ⟨x,sz,r,_,rfl⟩;rw [Kw] at A;cases A
theorem head10 {c:List UInt8} {x:NotD} {sz:Int} (D:(xC c [10]).2.2=true) (A:(xC c [10]).1++[10]=Cm x sz):c=Cm x sz++(xC c [10]).2.1:=by
 rw [← A,List.append_assoc]
 exact Ox D
theorem Ayb {c:List UInt8} (h:∀ y A,Head y A→(xC c [10]).1++[10]≠Cm y A):¬ H7 c:=by
 rintro ⟨x,sz,r,D,rfl⟩;rw [Kw] at h
 exact h x sz D rfl
theorem Z7 {c:List UInt8} (A:(xC c [10]).2.2=false):¬ O4 c:=by
 rintro ⟨y,r,D,rfl⟩;rw [Oq D.1] at A;cases A
theorem Azg {c:List UInt8} {y:ItemD} (A:(xC c [10]).2.2=true) (h:U0 ((xC c [10]).1++[10]) y):(ItemOk 8 y∧y.key < 18446744073709551616∧y.typ < 256)∧c=Ce [y]++(xC c [10]).2.1:=by
 refine ⟨⟨h.1,h.2.1,Amx h.one⟩,?_⟩;rw [Zg,h.2.2,List.append_assoc]
 exact Ox A
theorem Agm {c:List UInt8} (h:∀ y,¬ U0 ((xC c [10]).1++[10]) y):¬ O4 c:=by
 rintro ⟨y,r,A,rfl⟩;rw [Oq A.1] at h
 exact h y ⟨A.1,A.2.1,rfl⟩
section
variable {s c:List UInt8} {G:Av} {vi:Value} {ni no left line:Nat} {csi cso:List Value} {xs:List NotD} {x:NotD} {sz:Int} {ys:List ItemD}
theorem RpA.bad (h:RpA s c G no cso line xs) (A:c≠[]) (D:¬ H7 c):PR [] s ([],line+1,5):=h.go _ (by rw [h.at_];exact PR.nohead A D)
theorem RpA.full (h:RpA s c G no cso line xs) (D:H7 c) (A:xs.length=32):PR [] s ([],line+1,3):=h.go _ (by rw [h.at_];exact PR.full D A)
theorem RpA.fin (h:RpA s c G no cso line xs) (A:c=[]):PR [] s (xs,0,0):=h.go _ (by rw [A];exact PR.done)
theorem RpB.bad (h:RpB s c G vi ni csi no cso left line xs x sz ys) (A:¬ O4 c):PR [] s ([],line+1,5) :=
 h.go _ (by rw [h.at_];exact PR.bad h.hd (by have:=h.few;omega) rfl h.ok (by have:=h.lf;have:=h.pos;omega) A)
theorem RpA.one (h:RpA s c G no cso line xs) {x:NotD} {E:List UInt8} (H:Head x 0) (S:xs.length≠32) (O:c=Cm x 0++E) {A:List Value} (N:Els Ct 5 G A [x]) (D:line+1+E.length≤s.length):RpA s E G (no+1) (cso++A) (line+1) (xs++[x]) where
 els:=Els.append h.els N
 len:=by rw [lA,h.len];rfl
 few:=by have:=h.few;rw [lA,List.length_singleton];omega
 at_:=by rw [Oj,h.at_,H.it];rfl
 suf:=D
 go:=fun r T=>h.go r (by
  have U:({ x with iZ:=[] }:NotD)=x:=by have I:=H.it;cases x;simp only at I;subst I;rfl
  refine PR.step (ys:=[]) (r:=E) H S ?_ (fun y V=>by cases V) rfl ?_
  ·rw [O];rfl
  rw [U];exact T)
theorem RpA.first (h:RpA s c G no cso line xs) {x:NotD} {sz:Int} {A:Nat} {H:List UInt8} (O:Head x sz) (Y:xs.length≠32) (N:c=Cm x sz++H) {D:List Value} (I:D=[iB ((x.kind:Nat):Int),iI x.at_,iI x.count,iI x.to,vi]) (S:((A:Nat):Int)=sz) (T:0 < A) (E:line+1+H.length≤s.length) :
  RpB s H G vi 0 [] (no+1) (cso++D) A (line+1) xs x sz [] where
 els:=Els.append (Zb h.els) ⟨D,[],by simp,by rw [I];rfl,I,rfl⟩
 its:=rfl
 nit:=rfl
 len:=by rw [h.len]
 few:=by have:=h.few;omega
 hd:=O
 ok:=fun y V=>by cases V
 lf:=by simp only [lN];omega
 pos:=T
 at_:=by rw [h.at_];rfl
 suf:=E
 go:=fun r U=>h.go r (by rw [N];exact U)
theorem RpB.go1 (h:RpB s c G vi ni csi no cso left line xs x sz ys) {y:ItemD} {A:List UInt8} (D:c=Ce [y]++A):∀ r,PR xs (Cm x sz++(Ce (ys++[y])++A)) r→PR [] s r:=fun r E=>h.go r (by
 rw [D,← List.append_assoc (Ce ys),← Su];exact E)
theorem RpB.ok1 (h:RpB s c G vi ni csi no cso left line xs x sz ys) {y:ItemD} (D:ItemOk 8 y∧y.key < 18446744073709551616∧y.typ < 256):okI (ys++[y]):=by
 intro z A
 rcases List.mem_append.1 A with A | A
 ·exact h.ok z A
 rw [List.mem_singleton.1 A];exact D
theorem RpB.more (h:RpB s c G vi ni csi no cso left line xs x sz ys) {y:ItemD} {N:List UInt8} {I:Value} {H:Nat} {A D:List Value} (T:c=Ce [y]++N) (V:ItemOk 8 y∧y.key < 18446744073709551616∧y.typ < 256) (O:Els Bp 4 G A (ys++[y])) (U:H = ys.length+1)
  (S:Els Oc 5 G D (Re xs++[(x,some I)])) (Y:1 < left) (E:line+1+N.length≤s.length):RpB s N G I H A no D (left - 1) (line+1) xs x sz (ys++[y]) where
 els:=S
 its:=O
 nit:=by rw [U,lA];rfl
 len:=h.len
 few:=h.few
 hd:=h.hd
 ok:=h.ok1 V
 lf:=by have:=h.lf;rw [lA,List.length_singleton];omega
 pos:=by omega
 at_:=by rw [h.at_,lA];rfl
 suf:=E
 go:=h.go1 T
theorem RpB.last (h:RpB s c G vi ni csi no cso left line xs x sz ys) {E:Av} {y:ItemD} {H:List UInt8} {a:Option Addr} {I:Nat} {A:List Value} (O:c=Ce [y]++H) (U:ItemOk 8 y∧y.key < 18446744073709551616∧y.typ < 256)
  (S:Aj Bp 4 E (vS a (ys++[y]).length I) (ys++[y])) (N:Els Oc 5 E A (Re xs++[(x,some (vS a (ys++[y]).length I))])) (V:left=1) (D:line+1+H.length≤s.length):RpA s H E no A (line+1) (xs++[{ x with iZ:=ys++[y] }]) where
 els:=Z1 rfl S (Azs h.hd) (by have:=S.bound;omega) N
 len:=by rw [h.len,lA];rfl
 few:=by have:=h.few;rw [lA,List.length_singleton];omega
 at_:=by rw [Oj,h.at_];show _=_+(1+(ys++[y]).length);rw [lA,List.length_singleton];omega
 suf:=D
 go:=fun r T=>h.go1 O r (PR.step h.hd (by have:=h.few;omega) rfl (h.ok1 U) (by have:=h.lf;rw [lA,List.length_singleton];omega) T)
end
end Go.Proofs.YtmmhmcplegpenaaGreatDoor
