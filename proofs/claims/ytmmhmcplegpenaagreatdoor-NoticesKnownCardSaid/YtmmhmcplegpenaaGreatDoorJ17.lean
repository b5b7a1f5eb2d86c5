/- Own lemmas and walks. -/
import Derived.Test.YtmmhmcplegpenaaGreatDoorJ16
import Derived.Test.YtmmhmcplegpenaaGreatDoorJ6
import Derived.Test.YtmmhmcplegpenaaGreatDoorYB
set_option linter.unusedSimpArgs false
set_option linter.unusedVariables false
set_option maxRecDepth 10000
set_option maxHeartbeats 1600000
open Go.Value renaming slice→vS,string→vT,int→vI,bool→vB,pointer→vP
open Go.IntKind renaming i64→kI,u64→kU
open Go.Lib renaming cut→xC
open Go.Proofs.Tryz renaming prog→pG
open Go.Y.Res renaming blk→rB,row→rR
open Go.Y (pP qT iI iB iU sN)
open List renaming length_append→lA,length_cons→lC,length_nil→lN,length_take→lT,length_drop→lD,mem_of_getElem?→mG,mem_cons→mC,length_map→lM
namespace Go.Proofs.YtmmhmcplegpenaaGreatDoor
open Go Go.Y Go.Proofs
variable {w0 w:World} {G:Av} {L:List Res}
theorem Aqy {w0 w:World} {G:Av} {L:List Res} {a:Option Addr} {c k:Nat} {cs:List Value} {xs:List ItemD} (M:Mem w0 G (rR (vS a xs.length c) xs.length cs 26 4::L) w) (E:Els Bp 4 G cs xs) :
  Calls pG 61 #[vS a xs.length c,iU ((k:Nat):Int)] w (B5 w0 G (rR (vS a xs.length c) xs.length cs 26 4::L) fun v=>∃ z:Int,v=iI z∧Mo xs k z):=by
 have A:Mem w0 G ([rR (vS a xs.length c) xs.length cs 26 4]++L) w:=M;obtain ⟨H,D⟩:=A.lend;refine (Wj D (Ks A (List.mem_singleton.2 rfl) (E.mono Ac H) tD)).mono ?_;rintro e w' h
 cases e with
 | returned v=>exact ⟨A.back h.1,h.2⟩
 | panicked c=>exact h.elim
 | outgrown=>exact h.elim
noncomputable def Dn (qs:List Q4):List ItemD:=ofI qs (min qs.length 12)
theorem Nd (qs:List Q4):(Dn qs).length≤12:=by have:=Acz qs (min qs.length 12);unfold Dn;omega
theorem Azi (M:Mem w0 G L w) {qa:Option Addr} {qc:Nat} {qs:List Q4} (SQ:Aj Akh 4 G (vS qa qs.length qc) qs):Calls pG 19 #[.agg #[vS qa qs.length qc]] w (Ret w0 G L fun G' v=>∃ (a:Option Addr) (c:Nat),v=vS a (Dn qs).length c∧Aj Bp 4 G' (vS a (Dn qs).length c) (Dn qs)):=by
 have bQ:=SQ.bound;refine Ap (vs:=[_]) Tryz.func19 rfl (n:=33) rfl rfl<|?_
 refine Bt<|?_
 refine Ch M rfl rfl rfl<|?_;clear M;intro b1 w M
 refine wk ?_;have M:=M.nilrow 26 4;replace M:=z_M M;intro a F;refine Bd (fun m a' w'=>∃ (i:Nat),∃ (ao:Option Addr),∃ (no:Nat),∃ (co:Nat),∃ (N:List Value),m=12 - i∧∃ G2,Gle G G2∧Fits 33 a' [(1,pP b1),(3,vS ao no co),(4,iI ((i:Nat):Int))]∧Mem w0 G2 (rR (vS ao no co) (no) (N) 26 4::rB b1 [vS qa qs.length qc] 42::L) w'∧(i≤qs.length)∧(i≤12)∧(Els Bp 4 G2 N (ofI qs i))∧(no=(ofI qs i).length)) _ ⟨0,none,0,0,[],rfl,G,Gle.refl _,fU,M,Nat.zero_le _,tM,Els.nil,rfl⟩ ?_;clear F M;rintro m a w ⟨i,ao,no,co,N,rfl,G2,O,F,M,hi,a8,Er,a3⟩;replace SQ:=SQ.mono Bq O;revert a;refine Ca<|Ca<|?_
 subst a3;have aI:=Acz qs i;replace M:=z_M M;refine Hg<|Cd rfl<|Io Ze.k rfl rfl<|Ns Zf M 1 rfl rfl rfl rfl<|Afh Zf.k rfl<|Awj rfl rfl<|Cd rfl<|?_
 rcases bE (decide (((i:Nat):Int) < ((qs.length:Nat):Int))) with U | av
 ·skip
  have h3:=dT U;refine g_t rfl U<|Cd rfl<|g_t rfl U<|Awj rfl rfl<|Aql rfl U rfl<|Ao<|Gd<|?_
  refine qD rfl ?_ ?_
  ·intro h4;refine D8<|Ca<|H2<|Bt<|Io Ze.k rfl rfl<|Ns Zf M 1 rfl rfl rfl rfl<|Cd rfl<|?_
   obtain ⟨A,E⟩:=Aq (xs:=qs) (i:=i) tM;obtain ⟨aD,aJ,_,a0,_,Ae5,⟨rfl,a9,aA,aB,aC⟩⟩:=SQ.at E;refine Mx Zf.k Hd a0 rfl rfl<|Ak (fun a F=>Cv Hd rfl (F.ev rfl) (cs:=[iB ((A.a:Nat):Int),iB ((A.b:Nat):Int),iB ((A.c:Nat):Int),iB ((A.d:Nat):Int)]) rfl (M.cellsA Ae5 0 tM rfl)) rfl<|?_
   refine C3 Apn rfl rfl (Wu (q:=A) M ⟨tA,tA,tA,tA⟩)<|?_;clear M;rintro _ ac w D M ⟨H,I,rfl,Y⟩
   replace Er:=Er.mono Ac D;replace Ae5:=Ae5.mono D;have S:=Acx A;refine B0 M Bc rfl rfl<|?_;clear M;intro b7 w M
   intro a F;refine Bf F M Bc 0<|sZ ?_;clear F M a;intro w M;refine wk ?_;replace M:=M.perm (Ah _ 1 _ rfl);replace M:=z_M M;refine A2 ent61 rfl rfl (Aqy (k:=(Gq A).key) M Er)<|?_;clear M;rintro _ w M ⟨z9,rfl,V⟩
   refine wk ?_;refine qD rfl ?_ ?_
   ·intro aE;refine wk ?_;intro a F;refine Ar F M Ci.k Bc rfl rfl (cs:=[iU ((((Gq A).key:Nat):Int)),iB ((((Gq A).typ:Nat):Int)),qT ((Gq A).text),vS H ((Gq A).mZ.length) (I)]) rfl rfl tS tD rfl ?_;clear F M a;intro aK w a M F;obtain ⟨a6,a7,rfl,ay,aw,a1⟩:=M.rS (k:=0) rfl;have Eb:Els Bp 4 ac [iU ((((Gq A).key:Nat):Int)),iB ((((Gq A).typ:Nat):Int)),qT ((Gq A).text),vS H ((Gq A).mZ.length) (I)] [(Gq A)]:=⟨[iU ((((Gq A).key:Nat):Int)),iB ((((Gq A).typ:Nat):Int)),qT ((Gq A).text),vS H ((Gq A).mZ.length) (I)],[],rfl,rfl,⟨H,I,rfl,S.1,S.2.1,S.2.2,(by have h_:=Y.bound;show (Gq A).mZ.length≤_;omega),Y⟩,rfl⟩;refine A4 F M (k:=1) (k2:=0) rfl rfl Ci.k Bc rfl rfl tD rfl rfl tX tO rfl ?_;clear F M a;intro aL w a M F;have aj:=Els.append Er Eb;obtain ⟨am,aq,rfl,az,ax,a2⟩:=M.rS (k:=1) rfl;revert a;refine wk ?_;intro a F
    exact ⟨_,tM,i+1,(am),(((ofI qs i).length)+1),(aq),N++([iU ((((Gq A).key:Nat):Int)),iB ((((Gq A).typ:Nat):Int)),qT ((Gq A).text),vS H ((Gq A).mZ.length) (I)]),rfl,ac,(O.trans D),fU,(M.wn tW),tM,tM,by rw [Rw E,Aek (fun h_=>by have:=V.has.2 h_;omega)];exact aj,by rw [Rw E,Aek (fun h_=>by have:=V.has.2 h_;omega),lA];rfl⟩
   intro aF;refine wk ?_;intro a F
   exact ⟨_,tM,i+1,(ao),((ofI qs i).length),(co),N,rfl,ac,(O.trans D),fU,(M.wn tW),tM,tM,by rw [Rw E,Ael (V.has.1 tM)];exact Er,by rw [Rw E,Ael (V.has.1 tM)]⟩
  intro aG;refine wk ?_;refine Af rfl rfl<|?_
  obtain ⟨a4,ak,an,ar,ae,ah,aa,M⟩:=M.fZ Ac (k:=0) rfl Er tD;clear ah an ar;have T:i=min qs.length 12:=by omega
  rw [T] at aa
  exact ⟨ak,O.trans ae,M.wn dS1,ao,co,by rw [T];rfl,aa⟩
 have aH:=dF av;refine wk ?_;refine Af rfl rfl<|?_
 obtain ⟨a5,al,ap,au,ag,ai,ab,M⟩:=M.fZ Ac (k:=0) rfl Er tD;clear ai ap au;have T:i=min qs.length 12:=by omega
 rw [T] at ab
 exact ⟨al,O.trans ag,M.wn dS1,ao,co,by rw [T];rfl,ab⟩
theorem Di:Hx T.rdSlot:=T.mono_rdSlot
theorem Fh:Hx T.rdP:=T.mono_rdP
theorem U1 {G:Av} {n:List UInt8} {k:Nat} (h:n.length≤9∧k≤9):T.rdSlot G [qT n,iB ((k:Nat):Int),qT []] ⟨n,((k:Nat):Int),[]⟩ :=
 ⟨rfl,by show n.length≤_;omega,⟨by show (0:Int)≤((k:Nat):Int);omega,by show ((k:Nat):Int)≤255;omega⟩,by show (0:Nat)≤_;omega⟩
theorem J3 {G:Av} {k:Nat} {t e x:List UInt8} {A:List T.SlotD} {ks:List T.PT} {D E:Option Addr} {H I N O:Nat} (h:k≤9∧t.length≤9∧e.length≤9∧x.length≤9) (V:N=A.length) (Y:O=ks.length) (S:Aj T.rdSlot 3 G (vS D A.length H) A) (U:Aj T.rdP 6 G (vS E ks.length I) ks) :
  T.rdP G [iB ((k:Nat):Int),qT t,qT e,vS D N H,qT x,vS E O I] (.mk ((k:Nat):Int) t e A x ks):=by
 subst V Y
 exact F5 (x:=(.mk ((k:Nat):Int) t e A x ks:T.PT)) ⟨by show (0:Int)≤((k:Nat):Int);omega,by show ((k:Nat):Int)≤255;omega⟩ ⟨by show t.length≤_;omega,by show e.length≤_;omega,by show x.length≤_;omega⟩ S U
set_option maxHeartbeats 2000000 in
theorem Adn (M:Mem w0 G L w) {n:Nat} {c:RulesD} (hc:c=Ej n) (hn:n < 256):Calls pG 65 #[iB ((n:Nat):Int)] w (Ret w0 G L fun G' v=>∃ (bl:Option Addr) (bm:Nat),v=vS bl c.kZ.length bm∧Aj Cq 9 G' (vS bl c.kZ.length bm) c.kZ):=by
 refine Ap (vs:=[_]) Tryz.func65 rfl (n:=55) rfl rfl<|wk ?_;refine Ak (fun a F=>Am (cs:=[qT [110],iB 3,qT []]) F1.k rfl F1 (F.evp rfl) kR) rfl<|Ak (fun a F=>Am (cs:=[qT [116,101,120,116],iB 1,qT []]) F1.k rfl F1 (F.evp rfl) kR) rfl<|fun a F=>?_
 refine Bw F M Rh.k F1 (ps:=[(0,.agg #[qT [110],iB 3,qT []]),(1,.agg #[qT [116,101,120,116],iB 1,qT []])]) (cs:=[[qT [110],iB 3,qT []],[qT [116,101,120,116],iB 1,qT []]]) (fl:=[qT [110],iB 3,qT [],qT [116,101,120,116],iB 1,qT []]) rfl rfl (by simp [Gt,Value.cells]) (by simp [Awd]) rfl tS tD tD rfl ?_;clear F M a;intro v1 w a M F;obtain ⟨aa,ae,rfl,bC,b9,bR⟩:=M.rS (k:=0) rfl;have bz:Els T.rdSlot 3 G [qT [110],iB 3,qT [],qT [116,101,120,116],iB 1,qT []] ([⟨[110],3,[]⟩,⟨[116,101,120,116],1,[]⟩]:List T.SlotD):=⟨[qT [110],iB 3,qT []],_,rfl,rfl,U1 (n:=[110]) (k:=3) tD,⟨[qT [116,101,120,116],iB 1,qT []],_,rfl,rfl,U1 (n:=[116,101,120,116]) (k:=1) tD,rfl⟩⟩;obtain ⟨bU,b1,b4,b6,aY,aZ,Sz3,M⟩:=M.fZ Di (k:=0) rfl bz tD;clear aZ b4 b6;revert a;refine Ak (fun a F=>Am (cs:=[iB 3,qT [],qT [],sN,qT [],sN]) E6.k rfl E6 (F.evp rfl) kR) rfl<|fun a F=>?_
 refine Ar F M T8.k E6 rfl rfl (cs:=[iB 3,qT [],qT [],sN,qT [],sN]) rfl rfl tS tD rfl ?_;clear F M a;intro v4 w a M F;obtain ⟨ab,ag,rfl,bD,bA,bS⟩:=M.rS (k:=0) rfl;have b0:Els T.rdP 6 b1 [iB 3,qT [],qT [],sN,qT [],sN] ([.mk 3 [] [] [] [] []]:List T.PT):=⟨[iB 3,qT [],qT [],sN,qT [],sN],_,rfl,rfl,J3 (k:=3) (t:=[]) (e:=[]) (x:=[]) tD rfl rfl Aj.nil Aj.nil,rfl⟩;obtain ⟨bV,b3,b5,b8,ap,ba,Sz6,M⟩:=M.fZ Fh (k:=0) rfl b0 tD;clear ba b5 b8;replace Sz3:=Sz3.mono Di ap;revert a;refine Ak (fun a F=>Am (cs:=[iB 1,qT [114,111,119],qT [],vS aa 2 (ae),qT [],vS ab 1 (ag)]) E6.k rfl E6 (F.evp rfl) kR) rfl<|B0 M E6 rfl rfl<|?_;clear M;intro b7 w M
 intro a F;refine Bf F M E6 0<|sZ ?_;clear F M a;intro w M;refine wk ?_;refine Ak (fun a F=>Am (cs:=[qT [105,100],iB 2,qT []]) F1.k rfl F1 (F.evp rfl) kR) rfl<|fun a F=>?_
 refine Ar F M Rh.k F1 rfl rfl (cs:=[qT [105,100],iB 2,qT []]) rfl rfl tS tD rfl ?_;clear F M a;intro v9 w a M F;obtain ⟨ac,ah,rfl,bF,bB,bT⟩:=M.rS (k:=0) rfl;have a7:Els T.rdSlot 3 b3 [qT [105,100],iB 2,qT []] ([⟨[105,100],2,[]⟩]:List T.SlotD):=⟨[qT [105,100],iB 2,qT []],_,rfl,rfl,U1 (n:=[105,100]) (k:=2) tD,rfl⟩;obtain ⟨bL,aC,aL,aS,ao,ar,Sz11,M⟩:=M.fZ Di (k:=0) rfl a7 tD;clear ar aL aS;replace Sz3:=Sz3.mono Di ao;replace Sz6:=Sz6.mono Fh ao;revert a;refine Ak (fun a F=>Am (cs:=[iB 2,qT [],qT [],sN,qT [35],sN]) E6.k rfl E6 (F.evp rfl) kR) rfl<|Ak (fun a F=>Am (cs:=[iB 4,qT [],qT [],sN,qT [],sN]) E6.k rfl E6 (F.evp rfl) kR) rfl<|fun a F=>?_
 refine Bw F M T8.k E6 (ps:=[(0,.agg #[iB 2,qT [],qT [],sN,qT [35],sN]),(1,.agg #[iB 4,qT [],qT [],sN,qT [],sN])]) (cs:=[[iB 2,qT [],qT [],sN,qT [35],sN],[iB 4,qT [],qT [],sN,qT [],sN]]) (fl:=[iB 2,qT [],qT [],sN,qT [35],sN,iB 4,qT [],qT [],sN,qT [],sN]) rfl rfl (by simp [Gt,Value.cells]) (by simp [ti79]) rfl tS tD tD rfl ?_;clear F M a;intro bY w a M F;obtain ⟨A,E,rfl,bt,bn,bG⟩:=M.rS (k:=0) rfl;have a8:Els T.rdP 6 aC [iB 2,qT [],qT [],sN,qT [35],sN,iB 4,qT [],qT [],sN,qT [],sN] ([.mk 2 [] [] [] [35] [],.mk 4 [] [] [] [] []]:List T.PT):=⟨[iB 2,qT [],qT [],sN,qT [35],sN],_,rfl,rfl,J3 (k:=2) (t:=[]) (e:=[]) (x:=[35]) tD rfl rfl Aj.nil Aj.nil,⟨[iB 4,qT [],qT [],sN,qT [],sN],_,rfl,rfl,J3 (k:=4) (t:=[]) (e:=[]) (x:=[]) tD rfl rfl Aj.nil Aj.nil,rfl⟩⟩;obtain ⟨bM,aD,aM,aT,an,au,Sz14,M⟩:=M.fZ Fh (k:=0) rfl a8 tD
 clear au aM aT;replace Sz3:=Sz3.mono Di an;replace Sz6:=Sz6.mono Fh an;replace Sz11:=Sz11.mono Di an;revert a;refine Ak (fun a F=>Am (cs:=[iB 1,qT [104,101,97,100],qT [104],vS ac 1 (ah),qT [],vS A 2 (E)]) E6.k rfl E6 (F.evp rfl) kR) rfl<|B0 M E6 rfl rfl<|?_;clear M;intro bW w M
 intro a F;refine Bf F M E6 0<|sZ ?_;clear F M a;intro w M;refine wk ?_;refine Ak (fun a F=>Am (cs:=[iB 3,qT [],qT [],sN,qT [],sN]) E6.k rfl E6 (F.evp rfl) kR) rfl<|fun a F=>?_
 refine Ar F M T8.k E6 rfl rfl (cs:=[iB 3,qT [],qT [],sN,qT [],sN]) rfl rfl tS tD rfl ?_;clear F M a;intro bZ w a M F;obtain ⟨ai,ak,rfl,bu,bo,bH⟩:=M.rS (k:=0) rfl;have a9:Els T.rdP 6 aD [iB 3,qT [],qT [],sN,qT [],sN] ([.mk 3 [] [] [] [] []]:List T.PT):=⟨[iB 3,qT [],qT [],sN,qT [],sN],_,rfl,rfl,J3 (k:=3) (t:=[]) (e:=[]) (x:=[]) tD rfl rfl Aj.nil Aj.nil,rfl⟩;obtain ⟨bN,aE,aN,aU,am,av,Sz19,M⟩:=M.fZ Fh (k:=0) rfl a9 tD;clear av aN aU;replace Sz3:=Sz3.mono Di am;replace Sz6:=Sz6.mono Fh am;replace Sz11:=Sz11.mono Di am;replace Sz14:=Sz14.mono Fh am;revert a;refine Ak (fun a F=>Am (cs:=[iB 1,qT [98],qT [98,50],sN,qT [],vS ai 1 (ak)]) E6.k rfl E6 (F.evp rfl) kR) rfl<|Ak (fun a F=>Am (cs:=[qT [111,102],iB 2,qT []]) F1.k rfl F1 (F.evp rfl) kR) rfl<|fun a F=>?_
 refine Ar F M Rh.k F1 rfl rfl (cs:=[qT [111,102],iB 2,qT []]) rfl rfl tS tD rfl ?_;clear F M a;intro ca w a M F;obtain ⟨aj,al,rfl,bv,bp,bI⟩:=M.rS (k:=0) rfl;have aA:Els T.rdSlot 3 aE [qT [111,102],iB 2,qT []] ([⟨[111,102],2,[]⟩]:List T.SlotD):=⟨[qT [111,102],iB 2,qT []],_,rfl,rfl,U1 (n:=[111,102]) (k:=2) tD,rfl⟩;obtain ⟨bO,aF,aO,aV,Y,aw,Sz22,M⟩:=M.fZ Di (k:=0) rfl aA tD;clear aw aO aV;replace Sz3:=Sz3.mono Di Y;replace Sz6:=Sz6.mono Fh Y;replace Sz11:=Sz11.mono Di Y;replace Sz14:=Sz14.mono Fh Y;replace Sz19:=Sz19.mono Fh Y;revert a;refine Ak (fun a F=>Am (cs:=[iB 5,qT [116,97,103],qT [],vS aj 1 (al),qT [],sN]) E6.k rfl E6 (F.evp rfl) kR) rfl<|fun a F=>?_
 refine Bw F M T8.k E6 (ps:=[(0,.agg #[iB 1,qT [98],qT [98,50],sN,qT [],vS ai 1 (ak)]),(1,.agg #[iB 5,qT [116,97,103],qT [],vS aj 1 (al),qT [],sN])]) (cs:=[[iB 1,qT [98],qT [98,50],sN,qT [],vS ai 1 (ak)],[iB 5,qT [116,97,103],qT [],vS aj 1 (al),qT [],sN]]) (fl:=[iB 1,qT [98],qT [98,50],sN,qT [],vS ai 1 (ak),iB 5,qT [116,97,103],qT [],vS aj 1 (al),qT [],sN]) rfl rfl (by simp [Gt,Value.cells]) (by simp [ti79]) rfl tS tD tD rfl ?_;clear F M a;intro cb w a M F;obtain ⟨D,H,rfl,bw,bq,bJ⟩:=M.rS (k:=0) rfl;have aB:Els T.rdP 6 aF [iB 1,qT [98],qT [98,50],sN,qT [],vS ai 1 (ak),iB 5,qT [116,97,103],qT [],vS aj 1 (al),qT [],sN] ([.mk 1 [98] [98,50] [] [] [.mk 3 [] [] [] [] []],.mk 5 [116,97,103] [] [⟨[111,102],2,[]⟩] [] []]:List T.PT):=⟨[iB 1,qT [98],qT [98,50],sN,qT [],vS ai 1 (ak)],_,rfl,rfl,J3 (k:=1) (t:=[98]) (e:=[98,50]) (x:=[]) tD rfl rfl Aj.nil Sz19,⟨[iB 5,qT [116,97,103],qT [],vS aj 1 (al),qT [],sN],_,rfl,rfl,J3 (k:=5) (t:=[116,97,103]) (e:=[]) (x:=[]) tD rfl rfl Sz22 Aj.nil,rfl⟩⟩
 obtain ⟨bP,aG,aP,aW,I,ax,aI,M⟩:=M.fZ Fh (k:=0) rfl aB tD;clear ax aP aW;replace Sz3:=Sz3.mono Di I;replace Sz6:=Sz6.mono Fh I;replace Sz11:=Sz11.mono Di I;replace Sz14:=Sz14.mono Fh I;revert a;refine Ak (fun a F=>Am (cs:=[iB 1,qT [114,111,119],qT [],sN,qT [],vS D 2 (H)]) E6.k rfl E6 (F.evp rfl) kR) rfl<|B0 M E6 rfl rfl<|?_;clear M;intro bX w M
 intro a F;refine Bf F M E6 0<|sZ ?_;clear F M a;intro w M;refine wk ?_;refine Ak (fun a F=>C5 (F.ev rfl) (F.ev rfl) tM tM) rfl<|?_
 have bb:(((n:Nat):Int) % 7:Int)=((n % 7:Nat):Int):=by omega
 intro a F;rw [bb] at F;revert a;refine Ak (fun a F=>Bb Vn.k ⟨_,by rw [Be Cp.k]⟩ (F.ev rfl) (Bi tM tM)) rfl<|?_
 refine s_add rfl rfl<|?_
 obtain ⟨N,az⟩:∃ q:Int,q=10+((n % 7:Nat):Int):=⟨_,rfl⟩;intro a F;rw [← az] at F;revert a;refine Cd rfl<|?_
 refine Ak (fun a F=>C5 (F.ev rfl) (F.ev rfl) tM tM) rfl<|?_
 have be:(((n:Nat):Int) % 4:Int)=((n % 4:Nat):Int):=by omega
 intro a F;rw [be] at F;revert a;refine Ak (fun a F=>Bb Cj.k ⟨_,by rw [Be Cp.k]⟩ (F.ev rfl) (Bi tM tM)) rfl<|?_
 obtain ⟨O,a0⟩:∃ q:Int,q=((n % 4:Nat):Int):=⟨_,rfl⟩;intro a F;rw [← a0] at F;revert a;refine Ak (fun a F=>Am (cs:=[iB 1,qT [114,111,119],qT [],vS aa 2 (ae),qT [],vS ab 1 (ag),iI N,vB false,iI O]) N0.k rfl N0 (F.evp rfl) kR) rfl<|wk ?_;refine Ak (fun a F=>C5 (F.ev rfl) (F.ev rfl) tM tM) rfl<|?_
 have bf:(((n:Nat):Int) % 3:Int)=((n % 3:Nat):Int):=by omega
 intro a F;rw [bf] at F;revert a;refine Ak (fun a F=>Bb Vn.k ⟨_,by rw [Be Cp.k]⟩ (F.ev rfl) (Bi tM tM)) rfl<|?_
 refine s_add rfl rfl<|?_
 obtain ⟨S,a1⟩:∃ q:Int,q=6+((n % 3:Nat):Int):=⟨_,rfl⟩;intro a F;rw [← a1] at F;revert a;refine Cd rfl<|?_
 refine Ak (fun a F=>Iq (F.ev rfl) (F.ev rfl) tM tM (Ho tM tM)) rfl<|?_
 have bg:(((n:Nat):Int) / 4:Int)=((n / 4:Nat):Int):=by omega
 intro a F;rw [bg] at F;revert a;refine Ak (fun a F=>C5 (F.ev rfl) (F.ev rfl) tM tM) rfl<|?_
 have bh:(((n / 4:Nat):Int) % 3:Int)=(((n / 4) % 3:Nat):Int):=by omega
 intro a F;rw [bh] at F;revert a;refine Ak (fun a F=>Bb Cj.k ⟨_,by rw [Be Cp.k]⟩ (F.ev rfl) (Bi tM tM)) rfl<|?_
 obtain ⟨U,a2⟩:∃ q:Int,q=(((n / 4) % 3:Nat):Int):=⟨_,rfl⟩;intro a F;rw [← a2] at F;revert a;refine Ak (fun a F=>Am (cs:=[iB 1,qT [104,101,97,100],qT [104],vS ac 1 (ah),qT [],vS A 2 (E),iI S,vB true,iI U]) N0.k rfl N0 (F.evp rfl) kR) rfl<|wk ?_;refine Ak (fun a F=>C5 (F.ev rfl) (F.ev rfl) tM tM) rfl<|?_
 have bi:(((n:Nat):Int) % 16:Int)=((n % 16:Nat):Int):=by omega
 intro a F;rw [bi] at F;revert a;refine wk ?_;refine Ak (fun a F=>Iq (F.ev rfl) (F.ev rfl) tM tM (Ho tM tM)) rfl<|?_
 have bj:(((n:Nat):Int) / 8:Int)=((n / 8:Nat):Int):=by omega
 intro a F;rw [bj] at F;revert a;refine Ak (fun a F=>C5 (F.ev rfl) (F.ev rfl) tM tM) rfl<|?_
 have bk:(((n / 8:Nat):Int) % 3:Int)=(((n / 8) % 3:Nat):Int):=by omega
 intro a F;rw [bk] at F;revert a;refine Ak (fun a F=>Bb Cj.k ⟨_,by rw [Be Cp.k]⟩ (F.ev rfl) (Bi tM tM)) rfl<|?_
 obtain ⟨V,a3⟩:∃ q:Int,q=(((n / 8) % 3:Nat):Int):=⟨_,rfl⟩;intro a F;rw [← a3] at F;revert a;refine Ak (fun a F=>Am (cs:=[iB 1,qT [114,111,119],qT [],sN,qT [],vS D 2 (H),iI 20,vB (decide (((n % 16:Nat):Int)=15)),iI V]) N0.k rfl N0 (F.evp rfl) kR) rfl<|fun a F=>?_
 refine Bw F M Avv.k N0 (ps:=[(0,.agg #[iB 1,qT [114,111,119],qT [],vS aa 2 (ae),qT [],vS ab 1 (ag),iI N,vB false,iI O]),(1,.agg #[iB 1,qT [104,101,97,100],qT [104],vS ac 1 (ah),qT [],vS A 2 (E),iI S,vB true,iI U]),(2,.agg #[iB 1,qT [114,111,119],qT [],sN,qT [],vS D 2 (H),iI 20,vB (decide (((n % 16:Nat):Int)=15)),iI V])]) (cs:=[[iB 1,qT [114,111,119],qT [],vS aa 2 (ae),qT [],vS ab 1 (ag),iI N,vB false,iI O],[iB 1,qT [104,101,97,100],qT [104],vS ac 1 (ah),qT [],vS A 2 (E),iI S,vB true,iI U],[iB 1,qT [114,111,119],qT [],sN,qT [],vS D 2 (H),iI 20,vB (decide (((n % 16:Nat):Int)=15)),iI V]]) (fl:=[iB 1,qT [114,111,119],qT [],vS aa 2 (ae),qT [],vS ab 1 (ag),iI N,vB false,iI O,iB 1,qT [104,101,97,100],qT [104],vS ac 1 (ah),qT [],vS A 2 (E),iI S,vB true,iI U,iB 1,qT [114,111,119],qT [],sN,qT [],vS D 2 (H),iI 20,vB (decide (((n % 16:Nat):Int)=15)),iI V]) rfl rfl (by simp [Gt,Value.cells]) (by simp [ti81]) rfl tS tD tD rfl ?_;clear F M a;intro cc w a M F
 obtain ⟨aK,aR,rfl,bx,br,bK⟩:=M.rS (k:=0) rfl;have a4:([iB 1,qT [114,111,119],qT [],vS aa 2 (ae),qT [],vS ab 1 (ag),iI N,vB false,iI O]:List Value)=[iB 1,qT [114,111,119],qT [],vS aa 2 (ae),qT [],vS ab 1 (ag)]++[iI (10+((n % 7:Nat):Int)),vB false,iI ((n % 4:Nat):Int)]:=by rw [show (N:Int)=10+((n % 7:Nat):Int) by first | omega | rfl,show (O:Int)=((n % 4:Nat):Int) by first | omega | rfl];rfl
 have a5:([iB 1,qT [104,101,97,100],qT [104],vS ac 1 (ah),qT [],vS A 2 (E),iI S,vB true,iI U]:List Value)=[iB 1,qT [104,101,97,100],qT [104],vS ac 1 (ah),qT [],vS A 2 (E)]++[iI (6+((n % 3:Nat):Int)),vB true,iI ((n / 4 % 3:Nat):Int)]:=by rw [show (S:Int)=6+((n % 3:Nat):Int) by first | omega | rfl,show (U:Int)=((n / 4 % 3:Nat):Int) by first | omega | rfl];rfl
 have a6:([iB 1,qT [114,111,119],qT [],sN,qT [],vS D 2 (H),iI 20,vB (decide (((n % 16:Nat):Int)=15)),iI V]:List Value)=[iB 1,qT [114,111,119],qT [],sN,qT [],vS D 2 (H)]++[iI 20,vB (decide (n % 16=15)),iI ((n / 8 % 3:Nat):Int)]:=by rw [show (20:Int)=20 by first | omega | rfl,show (V:Int)=((n / 8 % 3:Nat):Int) by first | omega | rfl,show ((decide (((n % 16:Nat):Int)=15)))=decide (n % 16=15) from decide_eq_decide.2 tM];rfl
 have Ef:Els Cq 9 aG [iB 1,qT [114,111,119],qT [],vS aa 2 (ae),qT [],vS ab 1 (ag),iI N,vB false,iI O,iB 1,qT [104,101,97,100],qT [104],vS ac 1 (ah),qT [],vS A 2 (E),iI S,vB true,iI U,iB 1,qT [114,111,119],qT [],sN,qT [],vS D 2 (H),iI 20,vB (decide (((n % 16:Nat):Int)=15)),iI V] (Tj n):=⟨[iB 1,qT [114,111,119],qT [],vS aa 2 (ae),qT [],vS ab 1 (ag),iI N,vB false,iI O],_,rfl,rfl,⟨[iB 1,qT [114,111,119],qT [],vS aa 2 (ae),qT [],vS ab 1 (ag)],a4,J3 (k:=1) (t:=[114,111,119]) (e:=[]) (x:=[]) tD rfl rfl Sz3 Sz6,⟨by show (-9223372036854775808:Int)≤_;first | (show _≤(10:Int)+_;omega) | (show _≤(6:Int)+_;omega) | (show (-9223372036854775808:Int)≤20;decide),by show _≤(9223372036854775807:Int);first | (show (10:Int)+_≤_;omega) | (show (6:Int)+_≤_;omega) | (show (20:Int)≤9223372036854775807;decide)⟩⟩,⟨[iB 1,qT [104,101,97,100],qT [104],vS ac 1 (ah),qT [],vS A 2 (E),iI S,vB true,iI U],_,rfl,rfl,⟨[iB 1,qT [104,101,97,100],qT [104],vS ac 1 (ah),qT [],vS A 2 (E)],a5,J3 (k:=1) (t:=[104,101,97,100]) (e:=[104]) (x:=[]) tD rfl rfl Sz11 Sz14,⟨by show (-9223372036854775808:Int)≤_;first | (show _≤(10:Int)+_;omega) | (show _≤(6:Int)+_;omega) | (show (-9223372036854775808:Int)≤20;decide),by show _≤(9223372036854775807:Int);first | (show (10:Int)+_≤_;omega) | (show (6:Int)+_≤_;omega) | (show (20:Int)≤9223372036854775807;decide)⟩⟩,⟨[iB 1,qT [114,111,119],qT [],sN,qT [],vS D 2 (H),iI 20,vB (decide (((n % 16:Nat):Int)=15)),iI V],_,rfl,rfl,⟨[iB 1,qT [114,111,119],qT [],sN,qT [],vS D 2 (H)],a6,J3 (k:=1) (t:=[114,111,119]) (e:=[]) (x:=[]) tD rfl rfl Aj.nil aI,⟨by show (-9223372036854775808:Int)≤_;first | (show _≤(10:Int)+_;omega) | (show _≤(6:Int)+_;omega) | (show (-9223372036854775808:Int)≤20;decide),by show _≤(9223372036854775807:Int);first | (show (10:Int)+_≤_;omega) | (show (6:Int)+_≤_;omega) | (show (20:Int)≤9223372036854775807;decide)⟩⟩,rfl⟩⟩⟩
 revert a;refine wk ?_;refine Af rfl rfl<|?_
 obtain ⟨bQ,aH,aQ,aX,aq,ay,aJ,M⟩:=M.fZ Ai (k:=0) rfl Ef tD;clear ay aQ aX;subst hc
 exact ⟨aH,((((((aY.trans ap).trans ao).trans an).trans am).trans Y).trans I).trans aq,M.wn dS3,aK,aR,rfl,aJ⟩
noncomputable def Mj (c:RulesD) (zs:List UInt8) (qs:List Q4):List EntD:=ofL c zs (Dn qs) (Dn qs).length
theorem Xd {n:Nat} {zs:List UInt8} {qs:List Q4}:Bh (Ej n) (Mj (Ej n) zs qs)=0:=by
 have h:=Axq qs (min qs.length 12)
 exact Ars n zs (fun x A=>(h.1 x A).1) h.2 (Nd qs) (Nd qs)
theorem Aae {c:RulesD} {zs:List UInt8} {qs:List Q4}:(Mj c zs qs).length≤12:=by
 have A:=U5 c zs (Dn qs) (Dn qs).length;have D:=Nd qs;unfold Mj;omega
theorem A0c {z:UInt8}:(1+nb z % 40:Int)=1+((z.toNat % 40:Nat):Int):=by unfold nb;omega
theorem Ayn {w0 w:World} {G:Av} {L:List Res} (M:Mem w0 G L w) {n:Nat} {c:RulesD} (hc:c=Ej n) (hn:n < 256) {qa:Option Addr} {qc:Nat} {qs:List Q4} (SQ:Aj Akh 4 G (vS qa qs.length qc) qs) {za:Option Addr} {zc:Nat} {zs:List UInt8} (SZ:Aj rdB 1 G (vS za zs.length zc) zs):Calls pG 23 #[.agg #[vS qa qs.length qc,vS za zs.length zc,iB ((n:Nat):Int)]] w (Ret w0 G L fun G' v=>∃ (O:Option Addr) (S:Nat) (la:Option Addr) (lc:Nat),v=.tuple #[.agg #[vS O c.kZ.length S,iI c.cap],.agg #[vS la (Mj c zs qs).length lc]]∧Aj Cq 9 G' (vS O c.kZ.length S) c.kZ∧Aj Bj 6 G' (vS la (Mj c zs qs).length lc) (Mj c zs qs)):=by
 have bQ:=SQ.bound;have bZ:=SZ.bound;have bu:Dd c:=by rw [hc];exact N8 n
 refine Ap (vs:=[_]) Tryz.func23 rfl (n:=70) rfl rfl<|?_
 refine Bt<|?_
 refine Ch M rfl rfl rfl<|?_;clear M;intro b1 w M
 refine B0 M Fo rfl rfl<|?_;clear M;intro b2 w M
 refine B0 M Az rfl rfl<|?_;clear M;intro b4 w M
 refine Bt<|Io L8.k rfl rfl<|Ns Cp M 2 rfl rfl rfl rfl<|?_
 refine C3 ent65 rfl rfl (Adn (n:=n) M hc hn)<|?_;clear M;rintro _ bK w aj M ⟨O,S,rfl,SC⟩
 replace SQ:=SQ.mono Bq aj;replace SZ:=SZ.mono B7 aj;refine Ak (fun a F=>Am (cs:=[vS O c.kZ.length S,iI 12]) Fo.k rfl Fo (F.evp rfl) rfl) rfl<|?_
 have aP:c.cap=12:=by rw [hc];rfl
 intro a F;rw [← aP] at F;revert a;refine B0 M Fo rfl rfl<|?_;clear M;intro b7 w M
 intro a F;refine Bf F M Fo 0<|sZ ?_;clear F M a;intro w M;refine Bt<|Io L8.k rfl rfl<|Ak (fun a F=>Cv Ze rfl (F.ev rfl) (cs:=[vS qa qs.length qc]) rfl (M.cellsL (k:=3) rfl rfl)) rfl<|?_
 refine C3 ent19 rfl rfl (Azi (qs:=qs) M SQ)<|?_;clear M;rintro _ a9 w ah M ⟨aE,aJ,rfl,Sq9⟩
 replace SZ:=SZ.mono B7 ah;replace SC:=SC.mono Ai ah;refine wk ?_;refine B0 M Az rfl rfl<|?_;clear M;intro ab w M
 refine wk ?_;have M:=M.nilrow 69 6;replace M:=z_M M;intro a F;refine Bd (fun m a' w'=>∃ (k:Nat),∃ (ae:Option Addr),∃ (ne:Nat),∃ (ce:Nat),∃ (V:List Value),m=(Dn qs).length - k∧∃ H,Gle a9 H∧Fits 70 a' [(1,pP b1),(2,pP b2),(3,pP b4),(4,pP b7),(5,vS aE ((Dn qs).length) (aJ)),(6,pP ab),(7,iI ((k:Nat):Int))]∧Mem w0 H (rR (vS ae ne ce) (ne) (V) 69 6::rB ab [vS ae ne ce] 54::rB b7 [vS O c.kZ.length S,iI c.cap] 51::rB b4 [sN] 54::rB b2 [sN,iI 0] 51::rB b1 [vS qa qs.length qc,vS za zs.length zc,iB ((n:Nat):Int)] 46::L) w'∧(k≤(Dn qs).length)∧(Els Bj 6 H V (ofL c zs (Dn qs) k))∧(ne=(ofL c zs (Dn qs) k).length)) _ ⟨0,none,0,0,[],rfl,a9,Gle.refl _,fU,M,Nat.zero_le _,Els.nil,rfl⟩ ?_;clear F M;rintro m a w ⟨k,ae,ne,ce,V,rfl,H,I,F,M,hk,Ee,bo⟩;replace SZ:=SZ.mono B7 I;replace SC:=SC.mono Ai I;replace Sq9:=Sq9.mono Ac I;revert a;refine Ca<|Ca<|?_
 subst bo;replace M:=z_M M;have bV:=U5 c zs (Dn qs) k;have bU:=Nd qs;refine wk ?_;refine qD rfl ?_ ?_
 ·intro bL;refine wk ?_;refine fun a F=>Dv [(true,0),(true,1),(true,2),(true,3),(true,4),(false,5),(true,6)] (Keep H [rB ab [vS ae ((ofL c zs (Dn qs) k).length) (ce)] 54,rB b7 [vS O c.kZ.length S,iI c.cap] 51,rB b4 [sN] 54,rB b2 [sN,iI 0] 51,rB b1 [vS qa qs.length qc,vS za zs.length zc,iB ((n:Nat):Int)] 46]) rfl kR kF (Aw (M.drew _)) ?_;replace M:=M.drew (w.drawn+1);revert a;refine wk ?_;obtain ⟨Xe14,E⟩:=Aq (xs:=Dn qs) (i:=k) tM;obtain ⟨b8,bG,_,b0,_,bz,au⟩:=Sq9.at E;obtain ⟨bw,bx,rfl,ax,az,a1,bp,ap⟩:=au;have ar:(Xe14.key < 18446744073709551616∧Xe14.typ < 256∧Xe14.text.length≤9223372036854775807):=⟨ax,az,a1⟩;refine wk ?_;refine l_a rfl<|A2 Apm rfl rfl (M8 (c:=c) (x:=Xe14) (sn:=0) M SC bu ar ap)<|?_;clear M;rintro _ w M rfl
  refine Ao<|?_
  replace M:=z_M M;refine eQ (Aw M)<|wk ?_;refine qD rfl ?_ ?_
  ·intro bM;refine wk ?_;intro a F
   exact ⟨_,tM,k+1,(ae),((ofL c zs (Dn qs) k).length),(ce),V,rfl,H,I,fU,M,tM,by rw [Axp E tA];exact Ee,by rw [Axp E tA]⟩
  intro bN;obtain ⟨kk,an⟩:=J5 (Fj.1 (Acq (c:=c) (x:=Xe14) (sn:=((0:Int)=1)) tA)).1;refine D8<|Ca<|?_
  refine fun a F=>I6 (fun a' w'=>∃ (aq:Nat) (A:Option Addr) (D:Nat),Fits 70 a' [(1,pP b1),(2,pP b2),(3,pP b4),(4,pP b7),(5,vS aE ((Dn qs).length) (aJ)),(6,pP ab),(7,iI ((k:Nat):Int)),(8,pP aq)]∧Mem w0 H (rB aq [iU ((Xe14.key:Nat):Int),iB ((Xe14.typ:Nat):Int),qT Xe14.text,vS A Xe14.mZ.length D,iI (Dt c Xe14),vB false] 69::rR (vS ae ((ofL c zs (Dn qs) k).length) (ce)) ((ofL c zs (Dn qs) k).length) (V) 69 6::rB ab [vS ae ((ofL c zs (Dn qs) k).length) (ce)] 54::rB b7 [vS O c.kZ.length S,iI c.cap] 51::rB b4 [sN] 54::rB b2 [sN,iI 0] 51::rB b1 [vS qa qs.length qc,vS za zs.length zc,iB ((n:Nat):Int)] 46::L) w'∧Aj Cr 1 H (vS A Xe14.mZ.length D) Xe14.mZ) ?_ ?_
  ·skip
   refine Ik (.run 0 (.run 1 (.run 2 (.run 3 (.run 4 (.act 5 (.act 6 (.act 7 .fin .no) .no) (.act 6 (.act 5 (.act 7 .fin .no) .no) .no))))))) (Keep H [rB b7 [vS O c.kZ.length S,iI c.cap] 51]) rfl kR kF (Aw (M.drew _)) ?_;replace M:=M.drew (w.drawn+1);revert a;refine tLb Fo 0 rfl rfl rfl rfl<|tMv rfl<|tMv rfl<|?_
   obtain ⟨b9,bH,_,aA,_,a3,av⟩:=Sq9.at E;obtain ⟨ac,ag,rfl,ay,a0,a2,bq,U⟩:=av;have ak:(Xe14.key < 18446744073709551616∧Xe14.typ < 256∧Xe14.text.length≤9223372036854775807):=⟨ay,a0,a2⟩;refine t_r (fun a F w M=>Fw Ci.k Bc (F.ev rfl) (F.ev rfl) tM aA) rfl<|t_r (fun a F w M=>Cv Bc rfl (F.ev rfl) (cs:=[iU ((Xe14.key:Nat):Int),iB ((Xe14.typ:Nat):Int),qT Xe14.text,vS ac Xe14.mZ.length ag]) rfl (M.cellsA a3 0 tM rfl)) rfl<|?_
   refine fun a F=>A0 ?_ rfl ?_
   ·skip
    revert a;refine A2 Apl rfl rfl (Le (c:=c) (x:=Xe14) M SC ak U an)<|?_;clear M;rintro _ w M rfl
    refine Ao<|?_
    replace M:=z_M M;refine eQ (Aw M)<|fun a F=>A0 ?_ rfl Bl
    revert a;refine B0 M Cn rfl rfl<|?_;clear M;intro bf w M
    refine Ao<|?_
    replace M:=z_M M;refine eQ (Aw M)<|fun a F=>A0 ?_ rfl Bl
    refine Bf F M Cn 0<|sZ ?_;clear F M a;intro w M;refine Ao<|?_
    replace M:=z_M M;refine eQ (Aw M)<|?_
    refine Mc<|?_
    replace M:=z_M M;intro a F
    exact ⟨bf,ac,ag,fU,M.wn tW,U⟩
   refine A0 ?_ rfl ?_
   ·skip
    revert a;refine B0 M Cn rfl rfl<|?_;clear M;intro bg w M
    refine Ao<|?_
    replace M:=z_M M;refine eQ (Aw M)<|fun a F=>A0 ?_ rfl Bl
    revert a;refine A2 Apl rfl rfl (Le (c:=c) (x:=Xe14) M SC ak U an)<|?_;clear M;rintro _ w M rfl
    refine Ao<|?_
    replace M:=z_M M;refine eQ (Aw M)<|fun a F=>A0 ?_ rfl Bl
    refine Bf F M Cn 0<|sZ ?_;clear F M a;intro w M;refine Ao<|?_
    replace M:=z_M M;refine eQ (Aw M)<|?_
    refine Mc<|?_
    replace M:=z_M M;intro a F
    exact ⟨bg,ac,ag,fU,M.wn tW,U⟩
   exact Bl
  clear F M;rintro a w ⟨aq,A,D,F,M,ai⟩;revert a;refine Ca<|Ca<|?_
  have aQ:=Vb Sq9 Xe14 (mG E);have bt:=(Fj.1 (Acq (c:=c) (x:=Xe14) (sn:=((0:Int)=1)) tA)).1;have Y:(Xe14.key < 18446744073709551616∧Xe14.typ < 256∧Xe14.text.length≤9223372036854775807):=⟨aQ.1,aQ.2,by have:=bt.2.2.1.1;omega⟩;refine Hg<|Io Az.k rfl rfl<|Ns Db M 2 rfl rfl rfl rfl<|Afh Db.k rfl<|Dq rfl<|Bt<|Cd rfl<|Io L8.k rfl rfl<|Ns Nn M 6 rfl rfl rfl rfl<|Afh Nn.k rfl<|Awj rfl rfl<|Cd rfl<|?_
  rcases bE (decide ((((ofL c zs (Dn qs) k).length:Nat):Int) < ((zs.length:Nat):Int))) with N | aO
  ·skip
   have bO:=dT N;refine g_t rfl N<|Io L8.k rfl rfl<|g_t rfl N<|Ns Nn M 6 rfl rfl rfl rfl<|g_t rfl N<|Cd rfl<|g_t rfl N<|?_
   obtain ⟨Xe23,aa⟩:=Aq (xs:=zs) (i:=(ofL c zs (Dn qs) k).length) tM;obtain ⟨bA,bI,_,aB,_,a4,rfl⟩:=SZ.at aa;refine Mx Nn.k Cp aB rfl rfl<|g_t rfl N<|Vv Cp M a4 0 rfl rfl tM rfl<|g_t rfl N<|s_gt rfl rfl<|Aql rfl N rfl<|Ao<|Gd<|?_
   refine qD rfl ?_ ?_
   ·intro bP;refine Bt<|Io L8.k rfl rfl<|Ns Nn M 6 rfl rfl rfl rfl<|Cd rfl<|?_
    obtain ⟨bB,bJ,_,aC,_,a5,rfl⟩:=SZ.at aa;refine Mx Nn.k Cp aC rfl rfl<|Vv Cp M a5 0 rfl rfl tM rfl<|?_
    refine Ak (fun a F=>C5 (F.ev rfl) (F.ev rfl) tM tM) rfl<|Ak (fun a F=>Bb Vn.k ⟨_,by rw [Be Cp.k]⟩ (F.ev rfl) (Bi tM tM)) rfl<|wk ?_;refine D0 Vn M 0 rfl rfl rfl rfl rfl rfl<|?_;clear M;intro w M
    refine wk ?_;refine D0 Avw M 0 rfl rfl rfl rfl rfl rfl<|?_;clear M;intro w M
    refine wk ?_;intro a F;refine Ar F M Db.k Cn rfl rfl (cs:=[iU ((Xe14.key:Nat):Int),iB ((Xe14.typ:Nat):Int),qT Xe14.text,vS A Xe14.mZ.length D,iI (1+((nb Xe23) % 40)),vB true]) rfl rfl tS tD rfl ?_;clear F M a;intro bW w a M F;obtain ⟨b3,bC,rfl,aX,aR,bi⟩:=M.rS (k:=0) rfl;have bv:0 < Xe23.toNat:=by have h_:(0:Int) < nb Xe23:=tM;unfold nb at h_;omega
    have am:L0 c zs (ofL c zs (Dn qs) k).length Xe14=⟨Xe14,1+((Xe23.toNat % 40:Nat):Int),true⟩:=ent_yes aa bv;have al:([iU ((Xe14.key:Nat):Int),iB ((Xe14.typ:Nat):Int),qT Xe14.text,vS A Xe14.mZ.length D,iI (1+((nb Xe23) % 40)),vB true]:List Value)=[iU ((Xe14.key:Nat):Int),iB ((Xe14.typ:Nat):Int),qT Xe14.text,vS A Xe14.mZ.length D]++[iI (1+((Xe23.toNat % 40:Nat):Int)),vB true]:=by rw [show (1+((nb Xe23) % 40):Int)=1+((Xe23.toNat % 40:Nat):Int) from A0c];rfl
    have Eb:Els Bj 6 H [iU ((Xe14.key:Nat):Int),iB ((Xe14.typ:Nat):Int),qT Xe14.text,vS A Xe14.mZ.length D,iI (1+((nb Xe23) % 40)),vB true] [L0 c zs (ofL c zs (Dn qs) k).length Xe14]:=by rw [am];exact ⟨[iU ((Xe14.key:Nat):Int),iB ((Xe14.typ:Nat):Int),qT Xe14.text,vS A Xe14.mZ.length D,iI (1+((nb Xe23) % 40)),vB true],[],rfl,rfl,⟨[iU ((Xe14.key:Nat):Int),iB ((Xe14.typ:Nat):Int),qT Xe14.text,vS A Xe14.mZ.length D],al,⟨A,D,rfl,Y.1,Y.2.1,Y.2.2,(by have h_:=ai.bound;show Xe14.mZ.length≤_;omega),ai⟩,Bi (by show _≤(1:Int)+_;omega) (by show (1:Int)+_≤_;omega)⟩,rfl⟩
    refine A4 F M (k:=2) (k2:=0) rfl rfl Db.k Cn rfl rfl tD rfl rfl tX tO rfl ?_;clear F M a;intro bX w a M F;have a6:=Els.append Ee Eb;obtain ⟨aF,aK,rfl,aY,aS,bj⟩:=M.rS (k:=2) rfl;revert a;refine wk ?_;refine D0 Db M 3 rfl rfl rfl rfl rfl rfl<|?_;clear M;intro w M
    refine wk ?_;intro a F
    exact ⟨_,tM,k+1,(aF),(((ofL c zs (Dn qs) k).length)+1),(aK),V++([iU ((Xe14.key:Nat):Int),iB ((Xe14.typ:Nat):Int),qT Xe14.text,vS A Xe14.mZ.length D,iI (1+((nb Xe23) % 40)),vB true]),rfl,H,I,fU,(M.wn tW),tM,by rw [Pg E tA];exact a6,by rw [Pg E tA,lA];rfl⟩
   intro bR;refine wk ?_;intro a F;refine Ar F M Db.k Cn rfl rfl (cs:=[iU ((Xe14.key:Nat):Int),iB ((Xe14.typ:Nat):Int),qT Xe14.text,vS A Xe14.mZ.length D,iI (Dt c Xe14),vB false]) rfl rfl tS tD rfl ?_;clear F M a;intro bY w a M F;obtain ⟨b5,bD,rfl,aZ,aT,bk⟩:=M.rS (k:=0) rfl;have am:L0 c zs (ofL c zs (Dn qs) k).length Xe14=B8 c Xe14:=by first | exact Ahu tM | exact A0b aa (fun h_=>by have bh:¬ (0:Int) < nb Xe23:=tM;unfold nb at bh;omega)
   have al:([iU ((Xe14.key:Nat):Int),iB ((Xe14.typ:Nat):Int),qT Xe14.text,vS A Xe14.mZ.length D,iI (Dt c Xe14),vB false]:List Value)=[iU ((Xe14.key:Nat):Int),iB ((Xe14.typ:Nat):Int),qT Xe14.text,vS A Xe14.mZ.length D]++[iI (Dt c Xe14),vB false]:=rfl;have Eb:Els Bj 6 H [iU ((Xe14.key:Nat):Int),iB ((Xe14.typ:Nat):Int),qT Xe14.text,vS A Xe14.mZ.length D,iI (Dt c Xe14),vB false] [L0 c zs (ofL c zs (Dn qs) k).length Xe14]:=by rw [am];exact ⟨[iU ((Xe14.key:Nat):Int),iB ((Xe14.typ:Nat):Int),qT Xe14.text,vS A Xe14.mZ.length D,iI (Dt c Xe14),vB false],[],rfl,rfl,⟨[iU ((Xe14.key:Nat):Int),iB ((Xe14.typ:Nat):Int),qT Xe14.text,vS A Xe14.mZ.length D],al,⟨A,D,rfl,Y.1,Y.2.1,Y.2.2,(by have h_:=ai.bound;show Xe14.mZ.length≤_;omega),ai⟩,Ob SC an⟩,rfl⟩
   refine A4 F M (k:=2) (k2:=0) rfl rfl Db.k Cn rfl rfl tD rfl rfl tX tO rfl ?_;clear F M a;intro ca w a M F;have a7:=Els.append Ee Eb;obtain ⟨aG,aL,rfl,ba,aU,bl⟩:=M.rS (k:=2) rfl;revert a;refine wk ?_;refine D0 Db M 3 rfl rfl rfl rfl rfl rfl<|?_;clear M;intro w M
   refine wk ?_;intro a F
   exact ⟨_,tM,k+1,(aG),(((ofL c zs (Dn qs) k).length)+1),(aL),V++([iU ((Xe14.key:Nat):Int),iB ((Xe14.typ:Nat):Int),qT Xe14.text,vS A Xe14.mZ.length D,iI (Dt c Xe14),vB false]),rfl,H,I,fU,(M.wn tW),tM,by rw [Pg E tA];exact a7,by rw [Pg E tA,lA];rfl⟩
  have bS:=dF aO;refine wk ?_;intro a F;refine Ar F M Db.k Cn rfl rfl (cs:=[iU ((Xe14.key:Nat):Int),iB ((Xe14.typ:Nat):Int),qT Xe14.text,vS A Xe14.mZ.length D,iI (Dt c Xe14),vB false]) rfl rfl tS tD rfl ?_;clear F M a;intro cb w a M F;obtain ⟨b6,bF,rfl,bb,aV,bm⟩:=M.rS (k:=0) rfl;have am:L0 c zs (ofL c zs (Dn qs) k).length Xe14=B8 c Xe14:=by first | exact Ahu tM
  have al:([iU ((Xe14.key:Nat):Int),iB ((Xe14.typ:Nat):Int),qT Xe14.text,vS A Xe14.mZ.length D,iI (Dt c Xe14),vB false]:List Value)=[iU ((Xe14.key:Nat):Int),iB ((Xe14.typ:Nat):Int),qT Xe14.text,vS A Xe14.mZ.length D]++[iI (Dt c Xe14),vB false]:=rfl;have Eb:Els Bj 6 H [iU ((Xe14.key:Nat):Int),iB ((Xe14.typ:Nat):Int),qT Xe14.text,vS A Xe14.mZ.length D,iI (Dt c Xe14),vB false] [L0 c zs (ofL c zs (Dn qs) k).length Xe14]:=by rw [am];exact ⟨[iU ((Xe14.key:Nat):Int),iB ((Xe14.typ:Nat):Int),qT Xe14.text,vS A Xe14.mZ.length D,iI (Dt c Xe14),vB false],[],rfl,rfl,⟨[iU ((Xe14.key:Nat):Int),iB ((Xe14.typ:Nat):Int),qT Xe14.text,vS A Xe14.mZ.length D],al,⟨A,D,rfl,Y.1,Y.2.1,Y.2.2,(by have h_:=ai.bound;show Xe14.mZ.length≤_;omega),ai⟩,Ob SC an⟩,rfl⟩
  refine A4 F M (k:=2) (k2:=0) rfl rfl Db.k Cn rfl rfl tD rfl rfl tX tO rfl ?_;clear F M a;intro cc w a M F;have a8:=Els.append Ee Eb;obtain ⟨aH,aM,rfl,be,aW,bn⟩:=M.rS (k:=2) rfl;revert a;refine wk ?_;refine D0 Db M 3 rfl rfl rfl rfl rfl rfl<|?_;clear M;intro w M
  refine wk ?_;intro a F
  exact ⟨_,tM,k+1,(aH),(((ofL c zs (Dn qs) k).length)+1),(aM),V++([iU ((Xe14.key:Nat):Int),iB ((Xe14.typ:Nat):Int),qT Xe14.text,vS A Xe14.mZ.length D,iI (Dt c Xe14),vB false]),rfl,H,I,fU,(M.wn tW),tM,by rw [Pg E tA];exact a8,by rw [Pg E tA,lA];rfl⟩
 intro bT;refine wk ?_;obtain rfl:k=(Dn qs).length:=by omega
 have El:Els Bj 6 H V (Mj c zs qs):=Ee;replace M:=z_M M;obtain ⟨br,ao,aI,aN,T,aw,aD,M⟩:=M.fZ Ab (k:=0) rfl El tD;clear aw aI aN;replace SC:=SC.mono Ai T;change Mem w0 ao (rB ab [vS ae ((Mj c zs qs).length) (ce)] 54::rB b7 [vS O c.kZ.length S,iI c.cap] 51::rB b4 [sN] 54::rB b2 [sN,iI 0] 51::rB b1 [vS qa qs.length qc,vS za zs.length zc,iB ((n:Nat):Int)] 46::L) _ at M;intro a F;refine Dv [(true,0),(true,1),(false,2),(false,3)] (Keep ao [rB ab [vS ae ((Mj c zs qs).length) (ce)] 54,rB b7 [vS O c.kZ.length S,iI c.cap] 51]) rfl kR kF (Aw (M.drew _)) ?_;replace M:=M.drew (w.drawn+1);revert a;refine wk ?_;refine l_a rfl<|fun a F=>?_
 refine Bf F M Fo 3<|sZ ?_;clear F M a;intro w M;refine Ao<|?_
 replace M:=z_M M;refine eQ (Aw M)<|l_a rfl<|fun a F=>?_
 refine Bf F M Az 2<|sZ ?_;clear F M a;intro w M;refine Ao<|?_
 replace M:=z_M M;refine eQ (Aw M)<|wk ?_;refine fun a F=>Azx F M (k1:=3) (k2:=2) rfl rfl rfl Fo Az rfl rfl rfl rfl rfl rfl ?_
 exact ⟨_,(((aj.trans ah).trans I).trans T),M.wn dS5,O,S,ae,ce,rfl,SC,aD⟩
theorem R1 {w0 w:World} {G A:Av} {L:List Res} (M:Mem w0 A L w) (h:Gle G A):Mem w0 G L w:=by
 refine ⟨M.os,M.tape,M.output,M.grow,fun r o H=>M.pers r o (h r o H),M.own,fun x I b E=>?_,M.apart⟩
 cases h9:G b with
 | none=>rfl
 | some o=>have D:=M.free x I b E;rw [h b o h9] at D;cases D
theorem Pl (M:Mem w0 G L w) {n:Nat} {c:RulesD} (V:c=Ej n) (hn:n < 256) {N:Option Addr} {O:Nat} {qs:List Q4} (T:Aj Akh 4 G (vS N qs.length O) qs) {za:Option Addr} {S:Nat} {zs:List UInt8} (U:Aj rdB 1 G (vS za zs.length S) zs) {l:List EntD} (Y:l=Mj c zs qs):Calls pG 23 #[.agg #[vS N qs.length O,vS za zs.length S,iB ((n:Nat):Int)]] w (Ret w0 G L fun E v=>∃ (A:Option Addr) (D:Nat) (H:Option Addr) (I:Nat),v=.tuple #[.agg #[vS A c.kZ.length D,iI c.cap],.agg #[vS H l.length I]]∧Aj Cq 9 E (vS A c.kZ.length D) c.kZ∧Aj Bj 6 E (vS H l.length I) l):=by
 subst Y;exact Ayn M V hn T U
theorem Hn (M:Mem w0 G L w) {c:RulesD} {A:Option Addr} {D:Nat} (SC:Aj Cq 9 G (vS A c.kZ.length D) c.kZ) {N:Option Addr} {T:Nat} {l:List EntD} (S:Aj Bj 6 G (vS N l.length T) l)  (H:Bh c l=0) {O:Option Addr} {U:Nat} {ns:List NotD} (SN:Aj Ct 5 G (vS O ns.length U) ns) (E:∀ x∈ns,x.iZ.length≤900000):Calls pG 25 #[.agg #[vS A c.kZ.length D,iI c.cap],.agg #[vS N l.length T],vS O ns.length U] w (I5 w0 G (fun V Y v=>∃ (a:Option Addr) (cs:List Value) (I:List Res),v=.tuple #[.agg #[vS a (Ax c l ns).1.length (Ax c l ns).1.length],iI (((Ax c l ns).2.1:Nat):Int),iI (Ax c l ns).2.2]∧Y = (C0 a (Ax c l ns).1.length cs::(I++L))∧Els (Nt I) 6 V cs (Ax c l ns).1)):=by
 rw [← Lt H];exact Z9 M SC S SN E
theorem Akc {w0 w:World} {G:Av} {L A Bs:List Res} {a:Option Addr} {cs:List Value} {xs:List EntD} (M:Mem w0 G (Bs++((C0 a xs.length cs::A)++L)) w) (E:Els (Nt A) 6 G cs xs) {H:Option Addr} {I:Nat} {ys:List EntD} (T:Aj Bj 6 G (vS H ys.length I) ys) :
  Calls pG 26 #[vS a xs.length xs.length,vS H ys.length I] w (B5 w0 G (Bs++((C0 a xs.length cs::A)++L)) fun v=>v=iI (if xs=ys then (1:Int) else 0)):=by
 have D:=M.perm (Bk Bs (C0 a xs.length cs::A) L);obtain ⟨O,N⟩:=D.lend;refine (Hl N (Wr D E) (T.mono Ab O)).mono ?_;rintro e w' h
 cases e with
 | returned v=>exact ⟨(D.back h.1).perm (Bk (C0 a xs.length cs::A) Bs L),h.2⟩
 | panicked c=>exact h.elim
 | outgrown=>exact h.elim
def Subl (Ls Ls':List Res):Prop:=∀ (a:Option Addr) (k:Nat) (m:List Value),Aiq a k m∈Ls→∃ m',Aiq a k m'∈Ls'
def Ahg (xs:List EntD):List Nat:=xs.map fun x=>x.item.mZ.length
theorem Ayv (xs:List EntD):(Ahg xs).length=xs.length:=by simp [Ahg]
def Ari (Ls:List Res):Rd Nat:=fun _ cs k=>∃ (u1 u2 u3 u5 u6:Value) (a:Option Addr) (m:List Value),cs=[u1,u2,u3,vS a k k,u5,u6]∧Aiq a k m∈Ls
theorem Aac {A:List Res}:Hx (Ari A):=fun _ _ _ _ _ h=>h
theorem Aat {G:Av} {Ls:List Res}:∀ {xs:List EntD} {cs:List Value},Els (Nt Ls) 6 G cs xs→Els (Ari Ls) 6 G cs (Ahg xs)
 | [],cs,h=>h
 | x::xs,cs,h=>by
  obtain ⟨c,r',h1,h2,⟨c1,e0,⟨a,m,e1,_,_,_,_,hm,_⟩,_⟩,h4⟩:=h
  exact ⟨c,r',h1,h2,⟨_,_,_,_,_,a,m,by rw [e0,e1];rfl,hm⟩,Aat h4⟩
theorem A1o {G:Av} {Ls Ls':List Res} (h:Subl Ls Ls'):∀ {xs:List Nat} {cs:List Value},Els (Ari Ls) 6 G cs xs→Els (Ari Ls') 6 G cs xs
 | [],cs,h=>h
 | x::xs,cs,hh=>by
  obtain ⟨c,r',h1,h2,⟨u1,u2,u3,u5,u6,a,m,e1,hm⟩,h4⟩:=hh;obtain ⟨m',hm'⟩:=h a x m hm
  exact ⟨c,r',h1,h2,⟨u1,u2,u3,u5,u6,a,m',e1,hm'⟩,A1o h h4⟩
theorem Ayw {c:RulesD} {xs:List EntD} (h:Bh c xs=0) {i k:Nat} (A:(Ahg xs)[i]?=some k):k≤8:=by
 unfold Ahg at A;rw [List.getElem?_map] at A
 cases hq:xs[i]? with
 | none=>rw [hq] at A;cases A
 | some x =>
  rw [hq] at A;simp only [Option.map_some,Option.some.injEq] at A;have D:=Nk h x (mG hq);have E:=D.2.2.2.1
  omega
theorem T3 {c:RulesD} {l:List EntD} {ns:List NotD} (h:Bh c l=0) (A:Dd c):Bh c (Ax c l ns).1=0:=by
 unfold Ax
 split
 ·exact Px A
 split
 ·rename_i D;exact Pb h D
 exact Px A
theorem Awf {w0 w:World} {G:Av} {L E Bs:List Res} (M:Mem w0 G (Bs++(E++L)) w) {a:Option Addr} {k:Nat} {m:List Value} (hm:Aiq a k m∈E) {j:Nat} (Y:j < k) :
  ∃ b,a=some ⟨b,0,none⟩∧Ix a k j 1 b j∧(∃ T,w.cell? ⟨b,j,none⟩=some T)∧w.frozen? ⟨b,j,none⟩=false∧∀ v:Value,v.oneCell' = true→∃ H,Subl E H∧Mem w0 G (Bs++(H++L)) (w.setCell ⟨b,j,none⟩ v):=by
 obtain ⟨q,S⟩:=List.mem_iff_getElem?.1 hm;have D:=A3 S;have I:(Bs++(E++L))[Bs.length+q]?=some (Aiq a k m):=by
  rw [List.getElem?_append_right tM,show Bs.length+q - Bs.length=q by omega,List.getElem?_append_left D,S]
 obtain ⟨b,rfl⟩:=M.row_some I tM;have U:=(M.row_at I).1.1;have N:j < m.length:=by omega
 refine ⟨b,rfl,⟨0,rfl,tM,Y⟩,⟨_,M.row_cell I (List.getElem?_eq_getElem N)⟩,(M.row_at I).1.frozenAt _,fun v hv=>⟨E.set q (Aiq (some ⟨b,0,none⟩) k (m.set j v)),?_,?_⟩⟩
 ·intro a' k' m' O;obtain ⟨V,A⟩:=List.mem_iff_getElem?.1 O
  by_cases e:q=V
  ·subst e;rw [S] at A;simp only [Option.some.injEq,Aiq,Res.row.injEq,Value.slice.injEq] at A;obtain ⟨⟨rfl,rfl,_⟩,_,rfl,_⟩:=A
   exact ⟨m.set j v,List.mem_iff_getElem?.2 ⟨q,by rw [List.getElem?_set];simp [D]⟩⟩
  exact ⟨m',List.mem_iff_getElem?.2 ⟨V,by rw [List.getElem?_set_ne e];exact A⟩⟩
 have:=M.set_row I j hv;rw [List.set_append_right _ _ tM,show Bs.length+q - Bs.length=q by omega,List.set_append_left _ _ D] at this
 exact this
theorem Aka {P:Program} {E:Array Oper} {Q:Exit→Act→World→Prop} {n:Nat} {a:Act} {w w0:World} {e:Env} {t:TypeId} {p:String} {af:Array Edge} {r:List Oper} {et:TypeId} {i:TI} {x y:Operand} {v N:Value} {b j:Nat} {G:Av} {L O Bs:List Res} (F:Fits n a e) (ht:TOK P et i) (T:i.size=1)
  (hx:ev e x=some (vP (some ⟨b,j,none⟩))) (hy:ev e y=some v) (I:v.oneCell' = true) (D:w.cell? ⟨b,j,none⟩=some N) (hf:w.frozen? ⟨b,j,none⟩=false)
  (Y:∀ v:Value,v.oneCell' = true→∃ A,Subl O A∧Mem w0 G (Bs++(A++L)) (w.setCell ⟨b,j,none⟩ v))
  (k:∀ A w' H,Subl O A→Mem w0 G (Bs++(A++L)) w'→Fits n H e→rl P E Q r H w'):rl P E Q (⟨none,.store et x y,t,p,af,none⟩::r) a w:=by
 obtain ⟨A,U,V⟩:=Y v I;refine Pe F (Ql ht T (F.ev hx) (F.ev hy) ?_ ?_ ?_ D hf) fun H S=>k A _ H U V S
 ·cases v <;> simp_all [Value.cells,Value.oneCell']
 ·intro c D;subst D;simp [Value.oneCell'] at I
 intro c D;subst D;simp [Value.oneCell'] at I
theorem Ain (M:Mem w0 G L w) (HG:Globs 0 1 2 3 G) {n:Nat} (hn:n < 256) {qa:Option Addr} {qc:Nat} {qs:List Q4} (SQ:Aj Akh 4 G (vS qa qs.length qc) qs) {za:Option Addr} {zc:Nat} {zs:List UInt8} (SZ:Aj rdB 1 G (vS za zs.length zc) zs) {an:Option Addr} {cn:Nat} {ns:List NotD} (SN:Aj Ct 5 G (vS an ns.length cn) ns):Calls pG 4 #[.agg #[vS qa qs.length qc,vS za zs.length zc,iB ((n:Nat):Int)],vS an ns.length cn] w (Ret w0 G L fun G' v=>v=vB true):=by
 have bQ:=SQ.bound;have bZ:=SZ.bound;have bN:=SN.bound;obtain ⟨c,hc⟩:∃ c,c=Ej n:=⟨_,rfl⟩;obtain ⟨l,hl⟩:∃ l,l=Mj c zs qs:=⟨_,rfl⟩;have bz:Dd c:=by rw [hc];exact N8 n
 have a0:Bh c l=0:=by rw [hl,hc];exact Xd
 have cp:l.length≤12:=by rw [hl];exact Aae
 have bl:=T3 (ns:=ns) a0 bz;have c6:=(Dz bl).2.1;refine Ap (vs:=[_,_]) Tryz.func4 rfl (n:=151) rfl rfl<|?_
 refine Bt<|?_
 refine Ch M rfl rfl rfl<|?_;clear M;intro b1 w M
 refine wk ?_;refine A2 ent21 rfl rfl (Xx (ns:=ns) M SN)<|?_;clear M;rintro _ w M ⟨cB,rfl,bm⟩
 refine wk ?_;refine qD rfl ?_ ?_
 ·intro h3;refine Bt<|?_
  refine C3 K1 rfl rfl (Da M HG)<|?_;clear M;rintro _ cu w al M rfl
  replace HG:=HG.mono al;replace SQ:=SQ.mono Bq al;replace SZ:=SZ.mono B7 al;replace SN:=SN.mono Aa al;refine wk ?_;refine Af rfl rfl<|?_
  exact ⟨_,al,M.wn dS1,rfl⟩
 intro h5;refine D8<|Ca<|?_
 have bh:FewN ns:=by rcases bm with h_ | h_;exact absurd h_ tM;exact h_.2
 have aP:∀ x∈ns,x.iZ.length≤900000:=fun x hx=>by have h_:=bh.2 x hx;omega
 have c7:=bh.1;refine Hg<|Vw L8 M 0 rfl rfl rfl rfl<|?_
 refine C3 Apr rfl rfl (Pl M hc hn SQ SZ hl)<|?_;clear M;rintro _ cv w am M ⟨N,O,S,T,rfl,SC,SLq6⟩
 replace HG:=HG.mono am;replace SQ:=SQ.mono Bq am;replace SZ:=SZ.mono B7 am;replace SN:=SN.mono Aa am;refine wk ?_;refine B0 M Fo rfl rfl<|?_;clear M;intro b7 w M
 refine B0 M Az rfl rfl<|?_;clear M;intro b9 w M
 intro a F;refine Bf F M Fo 1 ?_;clear F M a;intro w a M F;replace M:=z_M M;refine Bf F M Az 0<|sZ ?_;clear F M a;intro w M;refine wk ?_;refine C3 ent24 rfl rfl (Ajy M SC SLq6 a0 SN aP)<|?_;clear M;rintro _ cb w ag M ⟨br,bw,rfl,SRq11⟩
 replace HG:=HG.mono ag;replace SQ:=SQ.mono Bq ag;replace SZ:=SZ.mono B7 ag;replace SN:=SN.mono Aa ag;replace SC:=SC.mono Ai ag;replace SLq6:=SLq6.mono Ab ag;refine wk ?_;intro a F;refine Cs F K0 rfl rfl (Hn M SC SLq6 a0 SN aP) ?_;clear F M a;rintro _ ai _ w a ae M ⟨A,ac,ab,rfl,rfl,Eoq12⟩ F;replace HG:=HG.mono ae;replace SQ:=SQ.mono Bq ae;replace SZ:=SZ.mono B7 ae;replace SN:=SN.mono Aa ae;replace SC:=SC.mono Ai ae;replace SLq6:=SLq6.mono Ab ae;replace SRq11:=SRq11.mono Ab ae;have M:=M.perm (Bk (C0 A (Ax c l ns).1.length ac::ab) [rB b9 [vS S l.length T] 54,rB b7 [vS N c.kZ.length O,iI c.cap] 51,rB b1 [vS qa qs.length qc,vS za zs.length zc,iB ((n:Nat):Int)] 46] L);replace M:=z_M M;revert a;refine wk ?_;refine B0 M Az rfl rfl<|?_;clear M;intro Y w M
 intro a F;refine Bf F M Az 0<|sZ ?_;clear F M a;intro w M;refine wk ?_;refine A2 X0 rfl rfl (Akc (Bs:=[rB Y [vS A ((Ax c l ns).1.length) ((Ax c l ns).1.length)] 54,rB b9 [vS S l.length T] 54,rB b7 [vS N c.kZ.length O,iI c.cap] 51,rB b1 [vS qa qs.length qc,vS za zs.length zc,iB ((n:Nat):Int)] 46]) M Eoq12 SRq11)<|?_;clear M;rintro _ w M rfl
 replace M:=z_M M;refine wk ?_;have ap:(decide ((if (Ax c l ns).1=(Ax c l ns).1 then (1:Int) else 0)=0))=false:=(decide_eq_false (by (first | omega | rfl | exact congrArg Prod.snd az | (rw [if_pos rfl];decide) | (rw [az,if_pos rfl];decide))));refine wk ?_;refine Ak (fun a F=>Zp Db.k (F.ev rfl)) rfl<|?_
 refine g_t rfl ap<|Io Az.k rfl rfl<|g_t rfl ap<|Ns Db M 0 rfl rfl rfl rfl<|g_t rfl ap<|Afh Db.k rfl<|g_t rfl ap<|Awi rfl rfl<|Ii rfl ap rfl<|Sc rfl (Ge (decide_eq_true rfl))<|D8<|Ca<|Bt<|Cd rfl<|Afh Du.k rfl<|s_gt rfl rfl<|Ao<|Gd<|?_
 refine fun a F=>I6 (fun a' w'=>Fits 151 a' [(2,pP b1),(5,pP b7),(6,pP b9),(10,pP Y)]∧Mem w0 ai (rB Y [vS A ((Ax c l ns).1.length) ((Ax c l ns).1.length)] 54::rB b9 [vS S l.length T] 54::rB b7 [vS N c.kZ.length O,iI c.cap] 51::rB b1 [vS qa qs.length qc,vS za zs.length zc,iB ((n:Nat):Int)] 46::((C0 A (Ax c l ns).1.length ac::ab)++L)) w') ?_ ?_
 ·skip
  revert a;refine qD rfl ?_ ?_
  ·intro cz;refine Ca<|?_
   obtain ⟨X,hX⟩:=Aq (xs:=ns) (i:=0) tM;have ao:=aP X (mG hX);have az:=Vi (n:=X) a0;intro a F;refine Dv [(true,0),(true,1),(true,2),(true,3),(true,4),(true,5),(false,6),(true,7),(true,8),(true,9),(true,10),(true,11)] (Keep ai [rB Y [vS A ((Ax c l ns).1.length) ((Ax c l ns).1.length)] 54,rB b9 [vS S l.length T] 54,rB b7 [vS N c.kZ.length O,iI c.cap] 51,rB b1 [vS qa qs.length qc,vS za zs.length zc,iB ((n:Nat):Int)] 46]) rfl kR kF (Aw (M.drew _)) ?_;replace M:=M.drew (w.drawn+1);revert a;refine wk ?_;obtain ⟨cf,cq,_,ce,_,Ae17,aR⟩:=SN.at hX;obtain ⟨bB,bC,rfl,aF,aH,aJ,aL,aN,SIe17⟩:=aR;have aQ:X.kind < 256∧Al .i64 X.at_∧Al .i64 X.count∧Al .i64 X.to∧X.iZ.length≤9223372036854775807:=⟨aF,aH,aJ,aL,aN⟩;refine wk ?_;refine l_a rfl<|C3 A0k rfl rfl (Od (c:=c) (l:=l) M SC SLq6 a0 aQ SIe17 tM)<|?_;clear M;rintro _ aq w U M ⟨a4,a5,rfl,Sq18⟩
   replace HG:=HG.mono U;replace SQ:=SQ.mono Bq U;replace SZ:=SZ.mono B7 U;replace SN:=SN.mono Aa U;replace SC:=SC.mono Ai U;replace SLq6:=SLq6.mono Ab U;replace Eoq12:=Eoq12.mono Je U;replace Ae17:=Ae17.mono U;refine Ao<|?_
   refine eK (C':=Keep aq [rB Y [vS A ((Ax c l ns).1.length) ((Ax c l ns).1.length)] 54,rB b9 [vS S l.length T] 54,rB b7 [vS N c.kZ.length O,iI c.cap] 51,rB b1 [vS qa qs.length qc,vS za zs.length zc,iB ((n:Nat):Int)] 46]) (Aw M) (fun w h=>h.mono U (by simp))<|?_
   refine lMv rfl<|l_r (fun a F w M=>F8 (v:=vS a4 ((Ga c l X).1.length) (a5)) (F.ev rfl) rfl) rfl<|l_r (fun a F w M=>F8 (v:=iI ((Ga c l X).2)) (F.ev rfl) rfl) rfl<|lAs rfl<|lAs rfl<|Ayu<|Ca<|?_
   refine fun a F=>I6 (fun a' w'=>∃ (Gc:Av) (aB:Nat) (aA:Option Addr),Gle aq Gc∧Fits 151 a' [(2,pP b1),(5,pP b7),(6,pP b9),(10,pP Y),(13,vS a4 ((Ga c l X).1.length) (a5)),(14,iI ((Ga c l X).2)),(15,pP aB),(16,iI ((L3 c l X).2))]∧Mem w0 Gc (rB aB [vS aA ((L3 c l X).1.length) ((L3 c l X).1.length)] 54::rB Y [vS A ((Ax c l ns).1.length) ((Ax c l ns).1.length)] 54::rB b9 [vS S l.length T] 54::rB b7 [vS N c.kZ.length O,iI c.cap] 51::rB b1 [vS qa qs.length qc,vS za zs.length zc,iB ((n:Nat):Int)] 46::((C0 A (Ax c l ns).1.length ac::ab)++L)) w'∧Aj Bj 6 Gc (vS aA (L3 c l X).1.length (L3 c l X).1.length) (L3 c l X).1) ?_ ?_
   ·skip
    refine Ik (.run 0 (.run 1 (.run 2 (.run 3 (.run 4 (.act 5 (.run 6 (.run 7 (.run 8 (.act 9 (.act 10 (.run 11 .fin) .no) .no)))) (.act 9 (.act 5 (.run 6 (.run 7 (.run 8 (.act 10 (.run 11 .fin) .no)))) .no) .no))))))) (Keep aq [rB Y [vS A ((Ax c l ns).1.length) ((Ax c l ns).1.length)] 54,rB b9 [vS S l.length T] 54,rB b7 [vS N c.kZ.length O,iI c.cap] 51,rB b1 [vS qa qs.length qc,vS za zs.length zc,iB ((n:Nat):Int)] 46]) rfl kR kF (Aw (M.drew _)) ?_;replace M:=M.drew (w.drawn+1);revert a;refine tLb Fo 2 rfl rfl rfl rfl<|tLb Az 1 rfl rfl rfl rfl<|tMv rfl<|?_
    obtain ⟨cg,cr,_,ba,_,Ae19,aS⟩:=SN.at hX;obtain ⟨aV,aW,rfl,aG,aI,aK,aM,aO,SIe19⟩:=aS;have ay:X.kind < 256∧Al .i64 X.at_∧Al .i64 X.count∧Al .i64 X.to∧X.iZ.length≤9223372036854775807:=⟨aG,aI,aK,aM,aO⟩;refine t_r (fun a F w M=>Fw Du.k Ba (F.ev rfl) (F.ev rfl) tM ba) rfl<|t_r (fun a F w M=>Cv Ba rfl (F.ev rfl) (cs:=[iB ((X.kind:Nat):Int),iI X.at_,iI X.count,iI X.to,vS aV X.iZ.length aW]) rfl (M.cellsA Ae19 0 tM rfl)) rfl<|?_
    refine fun a F=>A0 ?_ rfl ?_
    ·skip
     refine Cs F A0j rfl rfl (Ol (c:=c) (l:=l) (x:=X) M SC SLq6 ay SIe19 tM) ?_;clear F M a;rintro _ a2 _ w a H M ⟨aj,aw,au,rfl,rfl,a6⟩ F;replace HG:=HG.mono H;replace SQ:=SQ.mono Bq H;replace SZ:=SZ.mono B7 H;replace SC:=SC.mono Ai H;replace SLq6:=SLq6.mono Ab H;replace Eoq12:=Eoq12.mono Je H;replace Ae17:=Ae17.mono H;replace Sq18:=Sq18.mono Ab H;replace Ae19:=Ae19.mono H;replace SIe19:=SIe19.mono Ac H;have M:=M.perm (Bk (C0 aj (L3 c l X).1.length aw::au) [rB Y [vS A ((Ax c l ns).1.length) ((Ax c l ns).1.length)] 54,rB b9 [vS S l.length T] 54,rB b7 [vS N c.kZ.length O,iI c.cap] 51,rB b1 [vS qa qs.length qc,vS za zs.length zc,iB ((n:Nat):Int)] 46] ((C0 A (Ax c l ns).1.length ac::ab)++L));replace M:=z_M M;revert a;refine Ao<|?_
     refine eK (C':=Keep a2 [rB Y [vS A ((Ax c l ns).1.length) ((Ax c l ns).1.length)] 54,rB b9 [vS S l.length T] 54,rB b7 [vS N c.kZ.length O,iI c.cap] 51,rB b1 [vS qa qs.length qc,vS za zs.length zc,iB ((n:Nat):Int)] 46]) (Aw M) (fun w h=>h.mono H (by simp))<|wk ?_;refine fun a F=>A0 ?_ rfl Bl;revert a;refine B0 M Az rfl rfl<|?_;clear M;intro bg w M
     refine Ao<|?_
     refine eK (C':=Keep a2 [rB Y [vS A ((Ax c l ns).1.length) ((Ax c l ns).1.length)] 54,rB b9 [vS S l.length T] 54,rB b7 [vS N c.kZ.length O,iI c.cap] 51,rB b1 [vS qa qs.length qc,vS za zs.length zc,iB ((n:Nat):Int)] 46]) (Aw M) (fun w h=>h.mono (Gle.refl _) (by simp))<|fun a F=>A0 ?_ rfl Bl
     refine Bf F M Az 0<|sZ ?_;clear F M a;intro w M;refine Ao<|?_
     refine eQ (Aw M)<|wk ?_;obtain ⟨bo,D,M,a8⟩:=Gl (M.perm (Bk [rB bg [vS aj ((L3 c l X).1.length) ((L3 c l X).1.length)] 54,rB Y [vS A ((Ax c l ns).1.length) ((Ax c l ns).1.length)] 54,rB b9 [vS S l.length T] 54,rB b7 [vS N c.kZ.length O,iI c.cap] 51,rB b1 [vS qa qs.length qc,vS za zs.length zc,iB ((n:Nat):Int)] 46] (C0 aj (L3 c l X).1.length aw::au) ((C0 A (Ax c l ns).1.length ac::ab)++L))) a6;replace HG:=HG.mono D;replace SQ:=SQ.mono Bq D;replace SZ:=SZ.mono B7 D;replace SC:=SC.mono Ai D;replace SLq6:=SLq6.mono Ab D;replace Eoq12:=Eoq12.mono Je D;replace Ae17:=Ae17.mono D;replace Sq18:=Sq18.mono Ab D;replace Ae19:=Ae19.mono D;replace SIe19:=SIe19.mono Ac D;replace M:=z_M M;replace M:=z_M M;intro a F
     exact ⟨_,bg,aj,(H.trans D),fU,M.wn tW,a8⟩
    refine A0 ?_ rfl ?_
    ·skip
     revert a;refine B0 M Az rfl rfl<|?_;clear M;intro aC w M
     refine Ao<|?_
     refine eK (C':=Keep aq [rB Y [vS A ((Ax c l ns).1.length) ((Ax c l ns).1.length)] 54,rB b9 [vS S l.length T] 54,rB b7 [vS N c.kZ.length O,iI c.cap] 51,rB b1 [vS qa qs.length qc,vS za zs.length zc,iB ((n:Nat):Int)] 46]) (Aw M) (fun w h=>h.mono (Gle.refl _) (by simp))<|fun a F=>A0 ?_ rfl Bl
     refine Cs F A0j rfl rfl (Ol (c:=c) (l:=l) (x:=X) M SC SLq6 ay SIe19 tM) ?_;clear F M a;rintro _ a3 _ w a I M ⟨ak,ax,av,rfl,rfl,a7⟩ F;replace HG:=HG.mono I;replace SQ:=SQ.mono Bq I;replace SZ:=SZ.mono B7 I;replace SLq6:=SLq6.mono Ab I;replace Eoq12:=Eoq12.mono Je I;replace Ae17:=Ae17.mono I;replace Sq18:=Sq18.mono Ab I;replace Ae19:=Ae19.mono I;have M:=M.perm (Bk (C0 ak (L3 c l X).1.length ax::av) [rB aC [sN] 54,rB Y [vS A ((Ax c l ns).1.length) ((Ax c l ns).1.length)] 54,rB b9 [vS S l.length T] 54,rB b7 [vS N c.kZ.length O,iI c.cap] 51,rB b1 [vS qa qs.length qc,vS za zs.length zc,iB ((n:Nat):Int)] 46] ((C0 A (Ax c l ns).1.length ac::ab)++L));replace M:=z_M M;revert a;refine Ao<|?_
     refine eK (C':=Keep a3 [rB Y [vS A ((Ax c l ns).1.length) ((Ax c l ns).1.length)] 54,rB b9 [vS S l.length T] 54,rB b7 [vS N c.kZ.length O,iI c.cap] 51,rB b1 [vS qa qs.length qc,vS za zs.length zc,iB ((n:Nat):Int)] 46]) (Aw M) (fun w h=>h.mono I (by simp))<|wk ?_;refine fun a F=>A0 ?_ rfl Bl;refine Bf F M Az 0<|sZ ?_;clear F M a;intro w M;refine Ao<|?_
     refine eK (C':=Keep a3 [rB Y [vS A ((Ax c l ns).1.length) ((Ax c l ns).1.length)] 54,rB b9 [vS S l.length T] 54,rB b7 [vS N c.kZ.length O,iI c.cap] 51,rB b1 [vS qa qs.length qc,vS za zs.length zc,iB ((n:Nat):Int)] 46]) (Aw M) (fun w h=>h.mono (Gle.refl _) (by simp))<|wk ?_;obtain ⟨bp,E,M,a9⟩:=Gl (M.perm (Bk [rB aC [vS ak ((L3 c l X).1.length) ((L3 c l X).1.length)] 54,rB Y [vS A ((Ax c l ns).1.length) ((Ax c l ns).1.length)] 54,rB b9 [vS S l.length T] 54,rB b7 [vS N c.kZ.length O,iI c.cap] 51,rB b1 [vS qa qs.length qc,vS za zs.length zc,iB ((n:Nat):Int)] 46] (C0 ak (L3 c l X).1.length ax::av) ((C0 A (Ax c l ns).1.length ac::ab)++L))) a7;replace HG:=HG.mono E;replace SQ:=SQ.mono Bq E;replace SZ:=SZ.mono B7 E;replace SLq6:=SLq6.mono Ab E;replace Eoq12:=Eoq12.mono Je E;replace Ae17:=Ae17.mono E;replace Sq18:=Sq18.mono Ab E;replace Ae19:=Ae19.mono E;replace M:=z_M M;replace M:=z_M M;intro a F
     exact ⟨_,aC,ak,(I.trans E),fU,M.wn tW,a9⟩
    exact Bl
   clear F M;rintro a w ⟨Gc,aB,aA,ah,F,M,bq⟩;revert a;refine Ca<|?_
   replace HG:=HG.mono ah;replace SQ:=SQ.mono Bq ah;replace SZ:=SZ.mono B7 ah;replace SLq6:=SLq6.mono Ab ah;replace Eoq12:=Eoq12.mono Je ah;replace Ae17:=Ae17.mono ah;replace Sq18:=Sq18.mono Ab ah;refine wk ?_;have cm:(!(decide ((L3 c l X).2=(Ga c l X).2)))=false:=(Ge (decide_eq_true (by (first | omega | rfl | exact congrArg Prod.snd az | (rw [if_pos rfl];decide) | (rw [az,if_pos rfl];decide)))));refine wk ?_;refine A2 X0 rfl rfl (Hl (xs:=(L3 c l X).1) (ys:=(Ga c l X).1) M bq Sq18)<|?_;clear M;rintro _ w M rfl
   refine wk ?_;refine Sc rfl (decide_eq_false (by (rw [az,if_pos rfl];decide)))<|?_
   refine D8<|?_
   intro a F
   exact ⟨fU,(R1 (M.wn tW) (U.trans ah))⟩
  intro c0;refine D8<|?_
  intro a F
  exact ⟨fU,M⟩
 clear F M;rintro a w ⟨F,M⟩;revert a;refine wk ?_;have bn:=Aat Eoq12;have c9:=Ayv (Ax c l ns).1;replace M:=z_M M;refine wk ?_;refine fun a F=>Bd (fun m a' w'=>∃ (q:Nat),∃ (Lw:List Res),∃ (aE:List Value),m=(Ax c l ns).1.length - q∧Fits 151 a' [(2,pP b1),(5,pP b7),(6,pP b9),(10,pP Y),(17,iI ((q:Nat):Int))]∧Mem w0 ai (rB Y [vS A ((Ax c l ns).1.length) ((Ax c l ns).1.length)] 54::rB b9 [vS S l.length T] 54::rB b7 [vS N c.kZ.length O,iI c.cap] 51::rB b1 [vS qa qs.length qc,vS za zs.length zc,iB ((n:Nat):Int)] 46::rR (vS A ((Ax c l ns).1.length) ((Ax c l ns).1.length)) ((Ax c l ns).1.length) (aE) 69 6::(Lw++L)) w'∧(q≤(Ax c l ns).1.length)∧(Els (Ari Lw) 6 ai aE (Ahg (Ax c l ns).1))) _ ⟨0,ab,ac,rfl,fU,M,tM,bn⟩ ?_;clear F M;rintro m a w ⟨q,Lw,aE,rfl,F,M,hq,Ew⟩;revert a;refine wk ?_;refine qD rfl ?_ ?_
 ·intro c1;refine wk ?_;obtain ⟨Xi,ao⟩:=Aq (xs:=Ahg (Ax c l ns).1) (i:=q) tM;have cl:=Ayw bl ao;refine wk ?_;obtain ⟨ci,_,bb,aT,_,ca,⟨bD,bI,bM,bS,bW,bt,b6,rfl,aT⟩⟩:=M.atRow (k:=4) rfl tD Ew ao;refine wk ?_;intro a F;refine Jn F M Gh rfl (k:=4) rfl Ew bb ao (f:=0) tD rfl tM rfl rfl (X':=Xi) (fun ch _ h=>by obtain ⟨cA,bH,bL,bR,bV,a_,m_,rfl,h9⟩:=h;exact ⟨_,bH,bL,bR,bV,a_,m_,rfl,h9⟩) ?_;clear F M a;intro aD w a M aZ F;revert a;refine wk ?_;refine fun a F=>Bd (fun m a' w'=>∃ (j:Nat),∃ (Lv:List Res),∃ (ar:List Value),m=Xi - j∧Fits 151 a' [(2,pP b1),(5,pP b7),(6,pP b9),(10,pP Y),(17,iI ((q:Nat):Int)),(18,iI ((j:Nat):Int))]∧Mem w0 ai (rB Y [vS A ((Ax c l ns).1.length) ((Ax c l ns).1.length)] 54::rB b9 [vS S l.length T] 54::rB b7 [vS N c.kZ.length O,iI c.cap] 51::rB b1 [vS qa qs.length qc,vS za zs.length zc,iB ((n:Nat):Int)] 46::rR (vS A ((Ax c l ns).1.length) ((Ax c l ns).1.length)) ((Ax c l ns).1.length) (ar) 69 6::(Lv++L)) w'∧(j≤Xi)∧(Els (Ari Lv) 6 ai ar (Ahg (Ax c l ns).1))) _ ⟨0,Lw,aD,rfl,fU,M,tM,by have h_:=aZ;first | exact h_ | rwa [Vs ao] at h_⟩ ?_;clear F M;rintro m a w ⟨j,Lv,ar,rfl,F,M,hj,Ev⟩;revert a;refine Ca<|Bt<|Cd rfl<|Io Az.k rfl rfl<|Ns Db M 0 rfl rfl rfl rfl<|Cd rfl<|?_
  obtain ⟨cj,_,be,aU,_,aX,⟨bF,bJ,bO,bT,bX,bu,b8,rfl,aU⟩⟩:=M.atRow (k:=4) rfl tD Ev ao;refine Mx Db.k Cn be rfl rfl<|Io Cn.k rfl rfl<|Io Bc.k rfl rfl<|?_
  refine Afi Dx aX 3 rfl rfl tM rfl<|wk ?_;refine qD rfl ?_ ?_
  ·intro c2;refine D8<|Ca<|H2<|Hg<|Io Az.k rfl rfl<|Ns Db M 0 rfl rfl rfl rfl<|Cd rfl<|?_
   obtain ⟨ck,_,bf,a1,_,aY,⟨bG,bK,bP,bU,bY,bv,bA,rfl,a1⟩⟩:=M.atRow (k:=4) rfl tD Ev ao;refine Mx Db.k Cn bf rfl rfl<|Io Cn.k rfl rfl<|Io Bc.k rfl rfl<|?_
   refine Afi Dx aY 3 rfl rfl tM rfl<|?_
   refine Cd rfl<|?_
   obtain ⟨cy,c8,I9,⟨ct,bj⟩,bk,bi⟩:=Awf (Bs:=[rB Y [vS A ((Ax c l ns).1.length) ((Ax c l ns).1.length)] 54,rB b9 [vS S l.length T] 54,rB b7 [vS N c.kZ.length O,iI c.cap] 51,rB b1 [vS qa qs.length qc,vS za zs.length zc,iB ((n:Nat):Int)] 46,rR (vS A ((Ax c l ns).1.length) ((Ax c l ns).1.length)) ((Ax c l ns).1.length) (ar) 69 6]) M a1 (j:=j) tM;refine Mx Dx.k Dg I9 rfl rfl<|fun a F=>?_
   refine Aka F Dg rfl rfl rfl rfl bj bk bi ?_;clear F M bj bk bi a;intro Lx w a bx M F;replace M:=z_M M;revert a;refine wk ?_;intro a F
   exact ⟨_,tM,j+1,Lx,ar,rfl,fU,M,tM,A1o bx Ev⟩
  intro c4;refine wk ?_;intro a F
  exact ⟨_,tM,q+1,Lv,ar,rfl,fU,M,tM,by have h_:=Ev;first | exact h_ | rwa [Vs ao] at h_⟩
 intro c5;refine X8<|Aee<|Aee<|A1p<|Bt<|Vw L8 M 3 rfl rfl rfl rfl<|?_
 refine C3 Apr rfl rfl (Pl M hc hn SQ SZ hl)<|?_;clear M;rintro _ cc w aa M ⟨b0,b3,b4,b5,rfl,SCq36,SLq36⟩
 replace HG:=HG.mono aa;replace SLq6:=SLq6.mono Ab aa;refine wk ?_;refine B0 M Fo rfl rfl<|?_;clear M;intro cw w M
 refine B0 M Az rfl rfl<|?_;clear M;intro cx w M
 intro a F;refine Bf F M Fo 1 ?_;clear F M a;intro w a M F;replace M:=z_M M;refine Bf F M Az 0<|sZ ?_;clear F M a;intro w M;refine wk ?_;refine A2 X0 rfl rfl (Hl (xs:=l) (ys:=l) M SLq6 SLq36)<|?_;clear M;rintro _ w M rfl
 refine wk ?_;have co:(decide ((if l=l then (1:Int) else 0)=1))=true:=(decide_eq_true (by (rw [if_pos rfl])));refine wk ?_;refine C3 K1 rfl rfl (Da M HG)<|?_;clear M;rintro _ cd w V M rfl
 replace HG:=HG.mono V;refine wk ?_;refine Af rfl rfl<|?_
 exact ⟨_,((((am.trans ag).trans ae).trans aa).trans V),M.wn (cN (.cons _ (cN (.cons _ (cN (.cons _ (cN (List.sublist_append_right _ _)))))))),rfl⟩
theorem O3.text {s0:List UInt8}:∀ (r:List ItemD) {xs:List ItemD} {c:List UInt8},O3 s0 xs (Ce r++c)→Ih r→(∀ x∈r,x.key < 18446744073709551616)→xs.length+r.length≤1024→O3 s0 (xs++r) c
 | [],xs,c,h,_,_,_=>by rw [List.append_nil];exact h
 | x::r,xs,c,h,hok,hk,hl=>by
  have h1:=hok x (by simp);have hc:xC (Ce (x::r)++c) [10]=(Cx x,Ce r++c,true):=by
   rw [Kk,List.append_assoc,List.cons_append];exact Iy (Qx h1)
  have hne:¬ Ce (x::r)++c=[]:=by rw [Kk];simp
  simp only [lC] at hl;have h2:=h.next (x:=x) hne (by rw [hc]) (by rw [hc];exact ⟨h1,hk x (by simp),rfl⟩) tM;rw [hc] at h2;have h3:=O3.text r h2 (fun y hy=>hok y (by simp [hy])) (fun y hy=>hk y (by simp [hy])) (by simp only [lA,lC,lN];omega)
  simpa using h3
def W9:List UInt8:=[97,98,99,100,101,102,103,104,105,106,107,108,109,110,111,112,113,114,115,116,117,118,119,120,121,122,48,49,50,51,52,53,54,55,56,57,97,98,99,100,101,102,103,104,105,106,107,108,109,110,111,112,113,114,115,116,117,118,119,120,121,122,126,32]
end Go.Proofs.YtmmhmcplegpenaaGreatDoor
namespace Go.Y
open Go
section
variable {α:Type} {rd:Rd α} {P:Program} {w0 w:World} {G:Av} {L:List Res}
theorem Aj.head {sz:Nat} {ad:Option Addr} {m c:Nat} {xs ys:List α} (S:Aj rd sz G (vS ad m c) (xs++ys)):Aj rd sz G (vS ad xs.length c) xs:=by
 obtain ⟨T,U,A,E,H,I⟩:=S;simp only [Value.slice.injEq] at A;obtain ⟨rfl,rfl,rfl⟩:=A;refine ⟨ad,c,rfl,by simp only [lA] at E;omega,H,?_⟩
 rcases I with ⟨O,h⟩ | ⟨b,o,rfl,N⟩
 ·exact Or.inl ⟨O,(List.append_eq_nil_iff.1 h).1⟩
 exact Or.inr ⟨b,o,rfl,fun i x D=>N i x (by rw [List.getElem?_append_left (A3 D)];exact D)⟩
theorem Sv {x y:Res}:∀ {L:List Res} {k:Nat},L[k]?=some x→(L.set k y).eraseIdx k=L.eraseIdx k∧(L.set k y)[k]?=some y
 | [],k,h=>by simp at h
 | z::L,0,h=>⟨rfl,rfl⟩
 | z::L,k+1,h=>by
  have:=Sv (y:=y) (L:=L) (k:=k) (by simpa using h)
  exact ⟨by simp only [List.set_cons_succ,List.eraseIdx_cons_succ,this.1],by simpa using this.2⟩
theorem Mem.append_both (hm:Hx rd) (M:Mem w0 G L w) {k n c0:Nat} {a:Option Addr} {cs:List Value} {t ty e:TypeId} {i:TI} (hk:L[k]?=some (rR (vS a n c0) n cs e i.size)) (ht:tk P t=.slice e) (hi:TOK P e i) (hz:i.zero.cells.size=i.size) (hs:0 < i.size)
  {xs ys:List α} (E:Els rd i.size G cs xs) {ad:Addr} {c:Nat} {news:List Value} (En:Els rd i.size G news ys) (H:∀ j u,news[j]?=some u→w.cell? (ad.add j)=some u) (h1:∀ u∈news,u.oneCell' = true) (hy:0 < ys.length)
  (ac:xs.length+ys.length≤maxLen) (N:(xs.length+ys.length) * i.bytes≤140737488355328) :
  ∃ O S w' D,(Builtin.append_ #[t,t] ty #[vS a n c0,vS (some ad) ys.length c]).run P w=.ok (vS O (xs++ys).length S) w'∧Gle G D∧Mem w0 D (L.eraseIdx k) w' ∧
   Aj rd i.size D (vS O (xs++ys).length S) (xs++ys)∧Aj rd i.size D (vS a xs.length c0) xs∧n=xs.length:=by
 obtain ⟨A,h2⟩:=M.row_at hk;have hl:news.length=ys.length * i.size:=En.length;have hn:n=xs.length:=by
  have:=E.length;rw [A.1] at this
  exact Nat.eq_of_mul_eq_mul_right hs this
 subst hn;obtain ⟨x,ag,ab,al,am⟩:=hi.info;have hu:=Df ht;obtain ⟨v',w',hr,M'⟩:=M.append (P:=P) (ty:=ty) (m:=ys.length) (c:=c) (ad:=ad) hk ht hi hz hs hl H h1 ac N;obtain ⟨ai,ae⟩:=Sv (y:=rR v' (xs.length+ys.length) (cs++news) e i.size) hk;have U:∃ D O S,Gle G D∧v' = vS O (xs++ys).length S∧Aj rd i.size D v' (xs++ys)∧Mem w0 D (L.eraseIdx k) w':=by
  obtain ⟨_,D,O,S,V,q2,Y,q4⟩:=M'.fZ hm ae (E.append En) hs
  exact ⟨D,O,S,V,q2,Y,by rw [ai] at q4;exact q4⟩
 rcases A.2 with ⟨h0,ah⟩ | ⟨g,an,ao,hv,ap,au,av,aq,ar,aj⟩
 ·obtain ⟨D,O,S,V,rfl,Y,q4⟩:=U;have ak:xs=[]:=List.eq_nil_of_length_eq_zero ah;subst ak;simp only [lN,Value.slice.injEq,true_and] at h0;obtain ⟨rfl,rfl⟩:=h0
  exact ⟨O,S,w',D,hr,V,q4,Y,Aj.nil,rfl⟩
 simp only [Value.slice.injEq,true_and] at hv;obtain ⟨rfl,rfl⟩:=hv
 by_cases hroom:xs.length+ys.length≤c0
 ·obtain ⟨D,O,S,V,rfl,Y,q4⟩:=U;obtain ⟨w2,T,_⟩:=run_append_fits (P:=P) w 0 t ty e x i.size hu ag ab g xs.length c0 cs A ad ys.length c news hl H h1 hroom;have I:=hr;rw [T] at I;simp only [Result.ok.injEq,Value.slice.injEq] at I;obtain ⟨⟨rfl,_,rfl⟩,_⟩:=I
  exact ⟨_,_,w',D,hr,V,q4,Y,Y.head,rfl⟩
 obtain ⟨_,G1,a1,c1,g1,g2,S1,M1⟩:=M.fZ hm hk E hs;have T:=run_append_grow (P:=P) w t ty e x i.zero hu ag am ⟨g,0,none⟩ xs.length c0 cs (by rw [ab];exact A.1) (A.cells (g:=g) rfl) ad ys.length c news (by rw [ab];exact hl) H tM
  (by simp only [maxLen] at ac;omega) (by rw [al];exact growslice_fits tM N)
 have aa:w'.ownsRow 0 e i.size v' (xs.length+ys.length) (cs++news)∧∀ u∈cs++news,u.oneCell' = true:=M'.row_at ae;have I:=hr;rw [T] at I;simp only [Result.ok.injEq] at I;obtain ⟨rfl,rfl⟩:=I;have M2:Mem w0 G1 (rR (vS (some ⟨w.heap.size,0,none⟩) (xs.length+ys.length) (grownCap w (xs.length+ys.length) c0 e)) (xs.length+ys.length) (cs++news) e i.size::L.eraseIdx k) _ :=
  ((M1.drew _).new _).swap_head (x:=.obj w.heap.size _) rfl aa rfl rfl rfl rfl (fun _ _=>rfl)
 obtain ⟨_,D,O,S,V,q2,Y,q4⟩:=M2.fZ hm (k:=0) rfl ((E.append En).mono hm g1) hs;refine ⟨O,S,_,D,by rw [T,q2],g1.trans V,q4,by rw [← q2];exact Y,S1.mono hm V,rfl⟩
theorem Wi {I:Array Oper} {Q:Exit→Act→World→Prop} {n d:Nat} {a:Act} {T:Env} {s et t:TypeId} {p:String} {af:Array Edge} {r:List Oper} {i:TI} {x y:Operand} {k k2 m U sz Y c2:Nat} {V a2:Option Addr} {cs H:List Value} {xs ys:List α}
  (F:Fits n a T) (hm:Hx rd) (M:Mem w0 G L w) (hk:L[k]?=some (rR (vS V m Y) m cs et sz)) (aa:L[k2]?=some (rR (vS a2 U c2) U H et sz)) (hs:tk P s=.slice et) (ht:TOK P et i) (hz:i.zero.cells.size=i.size) (ae:i.size=sz) (A:0 < sz)
  (E:Els rd sz G cs xs) (E2:Els rd sz G H ys) (ah:0 < ys.length) (hx:ev T x=some (vS V m Y)) (hy:ev T y=some (vS a2 U c2))
  (hb:(xs.length+ys.length) * i.bytes≤140737488355328) (ak:xs.length+ys.length≤9223372036854775807) (hd:Nat.ble (d+1) n=true)
  (kk:∀ N S D w' O,Gle G D→Mem w0 D (L.eraseIdx k) w'→Aj rd sz D (vS N (xs++ys).length S) (xs++ys)→Aj rd sz D (vS V xs.length Y) xs→Fits n O ((d,vS N (xs++ys).length S)::T)→rl P I Q r O w') :
  rl P I Q (⟨some d,.call ⟨.builtin .append,#[x,y],#[s,s]⟩,t,p,af,none⟩::r) a w:=by
 subst ae;obtain ⟨ho,h1⟩:=M.row_at aa;have ab:U=ys.length:=by
  have:=E2.length;rw [ho.1] at this
  exact Nat.eq_of_mul_eq_mul_right A this
 subst ab
 rcases ho.2 with ⟨_,h0⟩ | ⟨g,ai,aj,hv,al,ao,ap,am,an,ag⟩
 ·omega
 simp only [Value.slice.injEq,true_and] at hv;obtain ⟨rfl,rfl⟩:=hv;obtain ⟨N,S,w',D,hr,q1,q2,q3,q4,rfl⟩:=M.append_both (P:=P) (ty:=t) (c:=c2) (ad:=⟨g,0,none⟩) hm hk hs ht hz A E E2 (ho.cells (g:=g) rfl) h1 ah (by simp only [maxLen];omega) hb
 exact Bo F (Gb (F.ev hx) (F.ev hy) hr) hd fun O F'=>kk N S D w' O q1 q2 q3 q4 F'
end
end Go.Y
namespace Go.Proofs.YtmmhmcplegpenaaGreatDoor
open Go Go.Y Go.Proofs
theorem N7 {P:Program} {ρ:Operand→Value} {dd:Option Tmp} {t:TypeId} {p:String} {af:Array Edge} {g:Option (Nat × Bool)} {w:World} {D A:TypeId} {x:Operand} {k':IntKind} {a:Int} (E:tk P A=.int .u8) (H:∃ u,P.underlying D=some u) (N:ρ x=vI k' a) :
  (execOp ρ ⟨dd,.convert D A x,t,p,af,g⟩).run P w=.ok (.value (iB (IntKind.u8.wrap a))) w:=by
 obtain ⟨u,I⟩:=H
 simp [execOp,N,convert,B9 I,B9 (Be E),Conv.intToInt]
theorem Rb (a:Int):∃ z:Nat,z < 256∧IntKind.u8.wrap a=(z:Int):=by
 have A:0≤IntKind.u8.wrap a∧IntKind.u8.wrap a≤255:=by unfold IntKind.wrap;simp [IntKind.bits,IntKind.signed];omega
 exact ⟨(IntKind.u8.wrap a).toNat,tM,tM⟩
end Go.Proofs.YtmmhmcplegpenaaGreatDoor
