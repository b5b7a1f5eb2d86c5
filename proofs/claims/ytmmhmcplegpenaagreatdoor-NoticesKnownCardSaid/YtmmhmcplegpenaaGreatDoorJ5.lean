/- Own lemmas and walks. -/
import Derived.Test.YtmmhmcplegpenaaGreatDoorJ4
import Derived.Test.YtmmhmcplegpenaaGreatDoorYC
import Derived.Laws.RangeAny
import Derived.Laws.RangeString
import Derived.Shelf.GgClosure.StringsIndexFunc
import Derived.Test.YtmmhmcplegpenaaGreatDoorJ2
set_option linter.unusedSimpArgs false
set_option linter.unusedVariables false
set_option maxRecDepth 10000
set_option maxHeartbeats 1600000
open Go.Value renaming slice→vS,string→vT,int→vI,bool→vB,pointer→vP
open Go.IntKind renaming i64→kI,u64→kU
open Go.Lib renaming cut→xC
open Go.Proofs.Tryz renaming prog→pG
open Go.Y.Res renaming blk→rB,row→rR
open Go.Y (pP qT iI iB iU sN)
open List renaming length_append→lA,length_cons→lC,length_nil→lN,length_take→lT,length_drop→lD,mem_of_getElem?→mG,mem_cons→mC,length_map→lM
namespace Go.Proofs.YtmmhmcplegpenaaGreatDoor.T
open Go Go.Y Go.Proofs
variable {w0 w:World} {G:Av} {L:List Res}
theorem Lg (M:Mem w0 G L w) {x:ItemD} {ma:Option Addr} {mc:Nat} (ht:x.text.length≤9223372036854775807) (SM:Aj Cr 1 G (vS ma x.mZ.length mc) x.mZ) (ai:Al .u64 x.key) {ad:Option Addr} {cd:Nat} {xs:List SlotD} (S:Aj rdSlot 3 G (vS ad xs.length cd) xs) (aK:xs.length≤8):Calls pG 187 #[vS ad xs.length cd,.agg #[iU x.key,iB x.typ,qT x.text,vS ma x.mZ.length mc]] w (Ret w0 G L fun G' v=>∃ V c',v=vS V ((xs).map (Cc x)).length c'∧Aj Fa 2 G' (vS V ((xs).map (Cc x)).length c') ((xs).map (Cc x))):=by
 refine Ap (vs:=[_,_]) Tryz.func187 rfl (n:=51) rfl rfl<|?_
 refine Bt<|?_
 refine Ch M rfl rfl rfl<|?_;clear M;intro b1 w M
 refine wk ?_;have bM:=SM.bound;have aC:0≤x.key∧x.key≤18446744073709551615:=ai;refine wk ?_;have M:=M.nilrow 282 2;intro a F;refine Bd (fun m V w'=>∃ (i:Nat),∃ (ay:Option Addr),∃ (I:Nat),∃ (cy:Nat),∃ (E:List Value),m=xs.length - i∧Fits 51 V [(0,vS ad xs.length cd),(3,pP b1),(5,vS ay I cy),(6,iI ((i:Nat):Int))]∧Mem w0 G (rR (vS ay I cy) (I) (E) 282 2::rB b1 [iU x.key,iB x.typ,qT x.text,vS ma x.mZ.length mc] 26::L) w'∧(i≤xs.length)∧(I=((xs.take i).map (Cc x)).length)∧(Els Fa 2 G E ((xs.take i).map (Cc x)))) _ ⟨0,(none),(0),(0),([]),rfl,fU,M,Nat.zero_le _,rfl,Els.nil⟩ ?_;clear F M;rintro m a w ⟨i,ay,I,cy,E,rfl,F,M,hi,H,Ey⟩;revert a;refine wk ?_;refine qD rfl ?_ ?_
 ·intro h2;refine wk ?_;obtain ⟨A,D⟩:=Aq (xs:=xs) (i:=i) tM;obtain ⟨aF,aL,_,av,_,aq,⟨rfl,T,ax,U⟩⟩:=S.at D;refine Mx Rh.k F1 av rfl rfl<|Io F1.k rfl rfl<|Vv Dg M aq 2 rfl rfl rfl rfl<|Dq rfl<|Ca<|Bt<|Cd rfl<|Cd rfl<|?_
  obtain ⟨aG,aM,_,aw,_,ar,⟨rfl,a2,az,a5⟩⟩:=S.at D;refine Mx Rh.k F1 aw rfl rfl<|Io F1.k rfl rfl<|Vv Cp M ar 1 rfl rfl rfl rfl<|H2<|Bt<|s_eq rfl rfl<|Dq rfl<|Ao<|Gd<|?_
  refine fun a F=>I6 (fun V w'=>∃ (vv:List UInt8),Fits 51 V [(0,vS ad xs.length cd),(3,pP b1),(5,vS ay I cy),(6,iI ((i:Nat):Int)),(7,qT vv)]∧Mem w0 G (rR (vS ay I cy) (I) (E) 282 2::rB b1 [iU x.key,iB x.typ,qT x.text,vS ma x.mZ.length mc] 26::L) w'∧(vv=I0 x A)) ?_ ?_
  ·skip
   revert a;refine qD rfl ?_ ?_
   ·intro h5;refine wk ?_;intro a F
    exact ⟨(x.text),fU,M,by unfold I0;(try rw [if_pos tA]);(try rw [if_neg tA]);(try rw [if_pos tA]);(try rw [if_neg tA]);(try rw [if_pos tA]);(try rw [if_neg tA])⟩
   intro h6;refine wk ?_;refine qD rfl ?_ ?_
   ·intro h7;refine wk ?_;have a4:(x.key:Int)=(((x.key).toNat:Nat):Int):=by omega
    intro a F;rw [a4] at F;revert a;refine A2 X1 rfl rfl (Qq (u:=(x.key).toNat) M tM)<|?_;clear M;rintro _ w M rfl
    refine Dq rfl<|Ao<|?_
    intro a F
    exact ⟨(Lib.decDigits ((x.key).toNat)),fU,M,by unfold I0;(try rw [if_pos tA]);(try rw [if_neg tA]);(try rw [if_pos tA]);(try rw [if_neg tA]);(try rw [if_pos tA]);(try rw [if_neg tA])⟩
   intro h9;refine wk ?_;refine qD rfl ?_ ?_
   ·intro aH;refine wk ?_;refine Ak (fun a F=>Bb Gh.k ⟨_,by rw [Be Cj.k]⟩ (F.ev rfl) (Gn tM tM)) rfl<|A2 X1 rfl rfl (Qq (u:=x.mZ.length) M tM)<|?_;clear M;rintro _ w M rfl
    refine Dq rfl<|Ao<|?_
    intro a F
    exact ⟨(Lib.decDigits x.mZ.length),fU,M,by unfold I0;(try rw [if_pos tA]);(try rw [if_neg tA]);(try rw [if_pos tA]);(try rw [if_neg tA]);(try rw [if_pos tA]);(try rw [if_neg tA])⟩
   intro aI;refine D8<|?_
   intro a F
   exact ⟨(A.v),fU,M,by unfold I0;(try rw [if_pos tA]);(try rw [if_neg tA]);(try rw [if_pos tA]);(try rw [if_neg tA]);(try rw [if_pos tA]);(try rw [if_neg tA])⟩
  clear F M;rintro a w ⟨vv,F,M,a6⟩;revert a;refine e_bn<|Gd<|?_
  intro a F;rw [a6] at F;have aD:I≤8:=by rw [H,lM,lT];omega
  revert a;refine wk ?_;obtain ⟨aA,aE,_,a8,_,a7,⟨rfl,ao,al,ap⟩⟩:=S.at D;refine wk ?_;refine Ak (fun a F=>Am (cs:=[qT A.n,qT (I0 x A)]) Ki.k rfl Ki (F.evp rfl) rfl) rfl<|fun a F=>?_
  refine Ar F M Abu.k Ki rfl rfl (cs:=[qT A.n,qT (I0 x A)]) rfl rfl tS tD rfl ?_;clear F M a;intro aN w a M F;obtain ⟨a9,aB,rfl,am,aj,a0⟩:=M.rS (k:=0) rfl;have au:Els Fa 2 G [qT A.n,qT (I0 x A)] [Cc x A]:=Els.one ⟨rfl,T,Abd ht ai tM A U⟩ rfl;refine A4 F M (k:=1) (k2:=0) rfl rfl Abu.k Ki rfl rfl tD rfl rfl tX tO rfl ?_;clear F M a;intro aO w a M F;have Y:=Els.append Ey au;obtain ⟨ac,ag,rfl,an,ak,a1⟩:=M.rS (k:=1) rfl;revert a;refine wk ?_;intro a F
  exact ⟨_,tM,i+1,(ac),(I+1),(ag),(E++([qT A.n,qT (I0 x A)])),rfl,fU,(M.wn tW),tM,by rw [Tr.take_snoc' D,List.map_append,lA,← H];rfl,by rw [Tr.take_snoc' D,List.map_append];exact Y⟩
 intro aJ;refine wk ?_;refine Af rfl rfl<|?_
 rw [List.take_of_length_le tM] at H Ey;obtain ⟨a3,aa,ae,ah,N,O,ab,M⟩:=M.fZ Dy (k:=0) rfl Ey tD;clear O ae ah
 exact ⟨aa,N,M.wn dS1,_,_,by rw [H],by have h_:=ab;rw [H] at h_;exact h_⟩
def A2f (x:ItemD) (p:PT):Prop:=∀ (w0 w:World) (G:Av) (L:List Res) (ma tap kap:Option Addr) (mc tcp kcp:Nat),Mem w0 G L w→Al .u8 p.kind→(p.tag.length≤9223372036854775807∧p.key.length≤9223372036854775807∧p.text.length≤9223372036854775807)→Aj rdSlot 3 G (vS tap p.as.length tcp) p.as→Aj rdP 6 G (vS kap p.kids.length kcp) p.kids→Aj Cr 1 G (vS ma x.mZ.length mc) x.mZ→(∃ n,Tr.Ok Bm n p) →
  Calls pG 151 #[.agg #[iB p.kind,qT p.tag,qT p.key,vS tap p.as.length tcp,qT p.text,vS kap p.kids.length kcp],.agg #[iU x.key,iB x.typ,qT x.text,vS ma x.mZ.length mc]] w (Ret w0 G L fun G' v=>∃ a' c',v=vS a' (Fy x p).length c'∧Aj rdN 6 G' (vS a' (Fy x p).length c') (Fy x p))
theorem Ajz {x:ItemD} (aX:Al .u64 x.key) (cW:ItemOk x) (ht:x.text.length≤9223372036854775807) {p:PT} (ih:∀ c∈p.kids,A2f x c) {w0 w:World} {G:Av} {L:List Res} (M:Mem w0 G L w) {H:Option Addr} {I:Nat} {D:Option Addr} {E:Nat} (ep:Al .u8 p.kind) (N:(p.tag.length≤9223372036854775807∧p.key.length≤9223372036854775807∧p.text.length≤9223372036854775807)) (SAp:Aj rdSlot 3 G (vS H p.as.length I) p.as) (SKp:Aj rdP 6 G (vS D p.kids.length E) p.kids) {ma:Option Addr} {mc:Nat} (SM:Aj Cr 1 G (vS ma x.mZ.length mc) x.mZ) (dt:∃ n,Tr.Ok Bm n p) :
  Calls pG 151 #[.agg #[iB p.kind,qT p.tag,qT p.key,vS H p.as.length I,qT p.text,vS D p.kids.length E],.agg #[iU x.key,iB x.typ,qT x.text,vS ma x.mZ.length mc]] w (Ret w0 G L fun G' v=>∃ a' c',v=vS a' (Fy x p).length c'∧Aj rdN 6 G' (vS a' (Fy x p).length c') (Fy x p)):=by
 refine Ap (vs:=[_,_]) Tryz.func151 rfl (n:=91) rfl rfl<|?_
 refine Bt<|?_
 refine Ch M rfl rfl rfl<|?_;clear M;intro b1 w M
 refine Ch M rfl rfl rfl<|?_;clear M;intro b2 w M
 refine wk ?_;have bM:=SM.bound;have aD:=cW.2.2.1;have dP:0≤x.key∧x.key≤18446744073709551615:=aX;obtain ⟨nk,a7⟩:=dt;have eo:=Aod a7;refine wk ?_;refine qD rfl ?_ ?_
 ·intro h3;refine wk ?_;refine Ak (fun a F=>Am (cs:=[iB 2,qT [],qT [],sN,qT p.text,sN]) A1.k rfl A1 (F.evp rfl) rfl) rfl<|fun a F=>?_
  refine Ar F M D6.k A1 rfl rfl (cs:=[iB 2,qT [],qT [],sN,qT p.text,sN]) rfl rfl tS tD rfl ?_;clear F M a;intro v4 w a M F;obtain ⟨dZ,eb,rfl,cX,cU,dQ⟩:=M.rS (k:=0) rfl;revert a;refine wk ?_;refine Af rfl rfl<|?_
  have E5:Els rdN 6 G [iB 2,qT [],qT [],sN,qT p.text,sN] [(.mk 2 ([]:List UInt8) ([]:List UInt8) ([]) p.text ([]):NT)]:=Els.one (F5 (x:=(.mk 2 ([]:List UInt8) ([]:List UInt8) ([]) p.text ([]):NT)) Abp (by refine ⟨?_,?_,?_⟩ <;> first | exact Nat.zero_le _ | assumption | exact N.1 | exact N.2.1 | exact N.2.2 | (have h_:=C7 x.key.toNat tM;show (Lib.decDigits x.key.toNat).length≤_;omega)) Aj.nil Aj.nil) rfl;obtain ⟨dU,cQ,cS,cT,cl,cm,cR,M⟩:=M.fZ Ff (k:=0) rfl E5 tD;clear cm cS cT
  exact ⟨cQ,((Gle.refl _).trans cl),M.wn dS2,_,_,by rw [Aor tA];rfl,by rw [Aor tA];exact cR⟩
 intro h7;refine wk ?_;refine qD rfl ?_ ?_
 ·intro h8;refine wk ?_;refine Ak (fun a F=>Am (cs:=[iB 2,qT [],qT [],sN,qT x.text,sN]) A1.k rfl A1 (F.evp rfl) rfl) rfl<|fun a F=>?_
  refine Ar F M D6.k A1 rfl rfl (cs:=[iB 2,qT [],qT [],sN,qT x.text,sN]) rfl rfl tS tD rfl ?_;clear F M a;intro v9 w a M F;obtain ⟨ea,ec,rfl,cY,cV,dR⟩:=M.rS (k:=0) rfl;revert a;refine wk ?_;refine Af rfl rfl<|?_
  have cH:Els rdN 6 G [iB 2,qT [],qT [],sN,qT x.text,sN] [(.mk 2 ([]:List UInt8) ([]:List UInt8) ([]) x.text ([]):NT)]:=Els.one (F5 (x:=(.mk 2 ([]:List UInt8) ([]:List UInt8) ([]) x.text ([]):NT)) Abp (by refine ⟨?_,?_,?_⟩ <;> first | exact Nat.zero_le _ | assumption | exact N.1 | exact N.2.1 | exact N.2.2 | (have h_:=C7 x.key.toNat tM;show (Lib.decDigits x.key.toNat).length≤_;omega)) Aj.nil Aj.nil) rfl;obtain ⟨dm,b6,bQ,cb,aZ,bi,bG,M⟩:=M.fZ Ff (k:=0) rfl cH tD;clear bi bQ cb
  exact ⟨b6,((Gle.refl _).trans aZ),M.wn dS2,_,_,by rw [Aoq tA];rfl,by rw [Aoq tA];exact bG⟩
 intro ed;refine wk ?_;refine qD rfl ?_ ?_
 ·intro ee;refine wk ?_;have cn:(x.key:Int)=(((x.key).toNat:Nat):Int):=by omega
  intro a F;rw [cn] at F;revert a;refine A2 X1 rfl rfl (Qq (u:=(x.key).toNat) M tM)<|?_;clear M;rintro _ w M rfl
  refine Ak (fun a F=>Am (cs:=[iB 2,qT [],qT [],sN,qT (Lib.decDigits ((x.key).toNat)),sN]) A1.k rfl A1 (F.evp rfl) rfl) rfl<|fun a F=>?_
  refine Ar F M D6.k A1 rfl rfl (cs:=[iB 2,qT [],qT [],sN,qT (Lib.decDigits ((x.key).toNat)),sN]) rfl rfl tS tD rfl ?_;clear F M a;intro eq w a M F;obtain ⟨d8,dK,rfl,c2,co,cZ⟩:=M.rS (k:=0) rfl;revert a;refine wk ?_;refine Af rfl rfl<|?_
  have cI:Els rdN 6 G [iB 2,qT [],qT [],sN,qT (Lib.decDigits ((x.key).toNat)),sN] [(.mk 2 ([]:List UInt8) ([]:List UInt8) ([]) (Lib.decDigits ((x.key).toNat)) ([]):NT)]:=Els.one (F5 (x:=(.mk 2 ([]:List UInt8) ([]:List UInt8) ([]) (Lib.decDigits ((x.key).toNat)) ([]):NT)) Abp (by refine ⟨?_,?_,?_⟩ <;> first | exact Nat.zero_le _ | assumption | exact N.1 | exact N.2.1 | exact N.2.2 | (have h_:=C7 x.key.toNat tM;show (Lib.decDigits x.key.toNat).length≤_;omega)) Aj.nil Aj.nil) rfl;obtain ⟨dn,b7,bR,cc,ba,bj,bH,M⟩:=M.fZ Ff (k:=0) rfl cI tD;clear bj bR cc
  exact ⟨b7,((Gle.refl _).trans ba),M.wn dS2,_,_,by rw [Aop tA];rfl,by rw [Aop tA];exact bH⟩
 intro ef;refine wk ?_;refine qD rfl ?_ ?_
 ·intro eg;refine wk ?_;have M:=M.nilrow 193 6;intro a F;refine Bd (fun m a' w'=>∃ (j:Nat),∃ (az:Option Addr),∃ (nz:Nat),∃ (cz:Nat),∃ (aU:List Value),m=x.mZ.length - j∧∃ aF,Gle G aF∧Fits 91 a' [(2,pP b1),(3,pP b2),(5,vS az nz cz),(6,iI ((j:Nat):Int))]∧Mem w0 aF (rR (vS az nz cz) (nz) (aU) 193 6::rB b2 [iU x.key,iB x.typ,qT x.text,vS ma x.mZ.length mc] 26::rB b1 [iB p.kind,qT p.tag,qT p.key,vS H p.as.length I,qT p.text,vS D p.kids.length E] 79::L) w'∧(j≤x.mZ.length)∧(nz=((x.mZ.take j).map (Aaw x p.tag p.as)).length)∧(Els rdN 6 aF aU ((x.mZ.take j).map (Aaw x p.tag p.as)))) _ ⟨0,(none),(0),(0),([]),rfl,G,Gle.refl _,fU,M,Nat.zero_le _,rfl,Els.nil⟩ ?_;clear F M;rintro m a w ⟨j,az,nz,cz,aU,rfl,aF,aw,F,M,hj,aI,Ez⟩;replace SAp:=SAp.mono mono_rdSlot aw;replace SKp:=SKp.mono mono_rdP aw;replace SM:=SM.mono Au aw;revert a;refine wk ?_;refine qD rfl ?_ ?_
  ·intro eh;refine wk ?_;have dS:nz≤8:=by rw [aI,lM,lT];omega
   intro a F;refine Ik (.run 0 (.run 1 (.run 2 (.run 3 (.run 4 (.run 5 (.run 6 (.run 7 (.run 8 (.run 9 (.run 10 (.run 12 (.run 13 (.run 14 (.run 15 (.run 16 (.run 17 (.act 11 (.act 18 (.run 19 (.act 20 (.act 21 (.run 22 .fin) .no) .no)) .no) (.act 18 (.act 11 (.run 19 (.act 20 (.act 21 (.run 22 .fin) .no) .no)) .no) .no))))))))))))))))))) (Keep aF [rB b2 [iU x.key,iB x.typ,qT x.text,vS ma x.mZ.length mc] 26,rB b1 [iB p.kind,qT p.tag,qT p.key,vS H p.as.length I,qT p.text,vS D p.kids.length E] 79]) rfl kR kF (Aw (M.drew _)) ?_;replace M:=M.drew (w.drawn+1);revert a;refine wk ?_;obtain ⟨A,ag⟩:=Aq (xs:=x.mZ) (i:=j) tM;obtain ⟨dD,dV,_,d2,_,Ae22,⟨rfl,cF⟩⟩:=SM.at ag;refine wk ?_;obtain ⟨dE,dW,_,d3,_,Ae23,⟨rfl,cG⟩⟩:=SM.at ag;refine wk ?_;refine t_r (fun a F w M=>Am (cs:=[iB 2,qT [],qT [],sN,qT A,sN]) A1.k rfl A1 (F.evp rfl) rfl) rfl<|fun a F=>A0 ?_ rfl ?_
   ·skip
    revert a;refine C3 Adz rfl rfl (Lg (x:=x) (xs:=p.as) M ht SM aX SAp (Kd a7 tM).1)<|?_;clear M;rintro _ aN w V M ⟨a3,a5,rfl,St24⟩
    replace SAp:=SAp.mono mono_rdSlot V;replace SKp:=SKp.mono mono_rdP V;replace SM:=SM.mono Au V;replace Ez:=Ez.mono Ff V;replace Ae22:=Ae22.mono V;replace Ae23:=Ae23.mono V;refine Ao<|?_
    refine eK (C':=Keep aN [rB b2 [iU x.key,iB x.typ,qT x.text,vS ma x.mZ.length mc] 26,rB b1 [iB p.kind,qT p.tag,qT p.key,vS H p.as.length I,qT p.text,vS D p.kids.length E] 79]) (Aw M) (fun w h=>h.mono V (by simp))<|fun a F=>A0 ?_ rfl Bl
    refine Ar F M D6.k A1 rfl rfl (cs:=[iB 2,qT [],qT [],sN,qT A,sN]) rfl rfl tS tD rfl ?_;clear F M a;intro er w a M F;obtain ⟨aq,au,rfl,c4,cp,da⟩:=M.rS (k:=0) rfl;revert a;refine Ao<|?_
    refine eK (C':=Keep aN [rB b2 [iU x.key,iB x.typ,qT x.text,vS ma x.mZ.length mc] 26,rB b1 [iB p.kind,qT p.tag,qT p.key,vS H p.as.length I,qT p.text,vS D p.kids.length E] 79]) (Aw M) (fun w h=>h.mono (Gle.refl _) (by simp))<|?_
    have cJ:Els rdN 6 aN [iB 2,qT [],qT [],sN,qT A,sN] [(.mk 2 ([]:List UInt8) ([]:List UInt8) ([]) A ([]):NT)]:=Els.one (F5 (x:=(.mk 2 ([]:List UInt8) ([]:List UInt8) ([]) A ([]):NT)) Abp (by refine ⟨?_,?_,?_⟩ <;> first | exact Nat.zero_le _ | assumption | exact N.1 | exact N.2.1 | exact N.2.2 | (have h_:=C7 x.key.toNat tM;show (Lib.decDigits x.key.toNat).length≤_;omega)) Aj.nil Aj.nil) rfl;obtain ⟨bx,a1,bS,cd,T,bk,aO,M⟩:=M.fZ Ff (k:=0) rfl cJ tD;clear bk bS cd;replace SAp:=SAp.mono mono_rdSlot T;replace SKp:=SKp.mono mono_rdP T;replace SM:=SM.mono Au T;replace Ez:=Ez.mono Ff T;replace Ae22:=Ae22.mono T;replace Ae23:=Ae23.mono T;replace St24:=St24.mono Dy T;clear bx;replace aO:Aj rdN 6 a1 (vS aq ([(.mk 2 ([]:List UInt8) ([]:List UInt8) ([]) A ([]):NT)]).length (au)) ([(.mk 2 ([]:List UInt8) ([]:List UInt8) ([]) A ([]):NT)]):=aO;refine t_r (fun a F w M=>Am (cs:=[iB 1,qT p.tag,qT A,vS a3 ((p.as.map (Cc x)).length) (a5),qT [],vS aq (([(.mk 2 ([]:List UInt8) ([]:List UInt8) ([]) A ([]):NT)]).length) (au)]) A1.k rfl A1 (F.evp rfl) rfl) rfl<|fun a F=>A0 ?_ rfl Bl
    refine Ar F M D6.k A1 rfl rfl (cs:=[iB 1,qT p.tag,qT A,vS a3 ((p.as.map (Cc x)).length) (a5),qT [],vS aq (([(.mk 2 ([]:List UInt8) ([]:List UInt8) ([]) A ([]):NT)]).length) (au)]) rfl rfl tS tD rfl ?_;clear F M a;intro es w a M F;obtain ⟨d9,dL,rfl,c5,cq,db⟩:=M.rS (k:=0) rfl;revert a;refine Ao<|?_
    refine eK (C':=Keep a1 [rB b2 [iU x.key,iB x.typ,qT x.text,vS ma x.mZ.length mc] 26,rB b1 [iB p.kind,qT p.tag,qT p.key,vS H p.as.length I,qT p.text,vS D p.kids.length E] 79]) (Aw M) (fun w h=>h.mono T (by simp))<|?_
    have cK:Els rdN 6 a1 [iB 1,qT p.tag,qT A,vS a3 ((p.as.map (Cc x)).length) (a5),qT [],vS aq (([(.mk 2 ([]:List UInt8) ([]:List UInt8) ([]) A ([]):NT)]).length) (au)] [(.mk 1 p.tag A (p.as.map (Cc x)) ([]:List UInt8) ([(.mk 2 ([]:List UInt8) ([]:List UInt8) ([]) A ([]):NT)]):NT)]:=Els.one (F5 (x:=(.mk 1 p.tag A (p.as.map (Cc x)) ([]:List UInt8) ([(.mk 2 ([]:List UInt8) ([]:List UInt8) ([]) A ([]):NT)]):NT)) Aqh (by refine ⟨?_,?_,?_⟩ <;> first | exact Nat.zero_le _ | assumption | exact N.1 | exact N.2.1 | exact N.2.2 | (have h_:=C7 x.key.toNat tM;show (Lib.decDigits x.key.toNat).length≤_;omega)) St24 aO) rfl;intro a F;refine A0 ?_ rfl Bl;refine A4 F M (k:=1) (k2:=0) rfl rfl D6.k A1 rfl rfl tD rfl rfl tX tO rfl ?_;clear F M a;intro eu w a M F;have b4:=Els.append Ez cK;obtain ⟨bO,bZ,rfl,c6,cr,dc⟩:=M.rS (k:=1) rfl;revert a;refine Ao<|?_
    refine eK (C':=Keep a1 [rB b2 [iU x.key,iB x.typ,qT x.text,vS ma x.mZ.length mc] 26,rB b1 [iB p.kind,qT p.tag,qT p.key,vS H p.as.length I,qT p.text,vS D p.kids.length E] 79]) (Aw M) (fun w h=>h.mono (Gle.refl _) (by simp))<|wk ?_;intro a F
    exact ⟨_,tM,j+1,(bO),(nz+1),(bZ),(aU++([iB 1,qT p.tag,qT A,vS a3 ((p.as.map (Cc x)).length) (a5),qT [],vS aq (([(.mk 2 ([]:List UInt8) ([]:List UInt8) ([]) A ([]):NT)]).length) (au)])),rfl,a1,((aw.trans V).trans T),fU,(M.wn tW),tM,by rw [Kg ag,lA,← aI];rfl,by rw [Kg ag];exact b4⟩
   refine A0 ?_ rfl ?_
   ·skip
    refine Ar F M D6.k A1 rfl rfl (cs:=[iB 2,qT [],qT [],sN,qT A,sN]) rfl rfl tS tD rfl ?_;clear F M a;intro ew w a M F;obtain ⟨ar,av,rfl,c7,ct,de⟩:=M.rS (k:=0) rfl;revert a;refine Ao<|?_
    refine eK (C':=Keep aF [rB b2 [iU x.key,iB x.typ,qT x.text,vS ma x.mZ.length mc] 26,rB b1 [iB p.kind,qT p.tag,qT p.key,vS H p.as.length I,qT p.text,vS D p.kids.length E] 79]) (Aw M) (fun w h=>h.mono (Gle.refl _) (by simp))<|fun a F=>A0 ?_ rfl Bl
    revert a;refine C3 Adz rfl rfl (Lg (x:=x) (xs:=p.as) M ht SM aX SAp (Kd a7 tM).1)<|?_;clear M;rintro _ aY w Y M ⟨a4,a6,rfl,St32⟩
    replace SAp:=SAp.mono mono_rdSlot Y;replace SKp:=SKp.mono mono_rdP Y;replace SM:=SM.mono Au Y;replace Ez:=Ez.mono Ff Y;replace Ae22:=Ae22.mono Y;replace Ae23:=Ae23.mono Y;refine Ao<|?_
    refine eK (C':=Keep aY [rB b2 [iU x.key,iB x.typ,qT x.text,vS ma x.mZ.length mc] 26,rB b1 [iB p.kind,qT p.tag,qT p.key,vS H p.as.length I,qT p.text,vS D p.kids.length E] 79]) (Aw M) (fun w h=>h.mono Y (by simp))<|?_
    have cL:Els rdN 6 aY [iB 2,qT [],qT [],sN,qT A,sN] [(.mk 2 ([]:List UInt8) ([]:List UInt8) ([]) A ([]):NT)]:=Els.one (F5 (x:=(.mk 2 ([]:List UInt8) ([]:List UInt8) ([]) A ([]):NT)) Abp (by refine ⟨?_,?_,?_⟩ <;> first | exact Nat.zero_le _ | assumption | exact N.1 | exact N.2.1 | exact N.2.2 | (have h_:=C7 x.key.toNat tM;show (Lib.decDigits x.key.toNat).length≤_;omega)) Aj.nil Aj.nil) rfl;obtain ⟨bz,a2,bT,ce,U,bl,aP,M⟩:=M.fZ Ff (k:=0) rfl cL tD;clear bl bT ce;replace SAp:=SAp.mono mono_rdSlot U;replace SKp:=SKp.mono mono_rdP U;replace SM:=SM.mono Au U;replace Ez:=Ez.mono Ff U;replace Ae22:=Ae22.mono U;replace Ae23:=Ae23.mono U;replace St32:=St32.mono Dy U;clear bz;replace aP:Aj rdN 6 a2 (vS ar ([(.mk 2 ([]:List UInt8) ([]:List UInt8) ([]) A ([]):NT)]).length (av)) ([(.mk 2 ([]:List UInt8) ([]:List UInt8) ([]) A ([]):NT)]):=aP;refine t_r (fun a F w M=>Am (cs:=[iB 1,qT p.tag,qT A,vS a4 ((p.as.map (Cc x)).length) (a6),qT [],vS ar (([(.mk 2 ([]:List UInt8) ([]:List UInt8) ([]) A ([]):NT)]).length) (av)]) A1.k rfl A1 (F.evp rfl) rfl) rfl<|fun a F=>A0 ?_ rfl Bl
    refine Ar F M D6.k A1 rfl rfl (cs:=[iB 1,qT p.tag,qT A,vS a4 ((p.as.map (Cc x)).length) (a6),qT [],vS ar (([(.mk 2 ([]:List UInt8) ([]:List UInt8) ([]) A ([]):NT)]).length) (av)]) rfl rfl tS tD rfl ?_;clear F M a;intro ex w a M F;obtain ⟨dA,dM,rfl,c8,cu,df⟩:=M.rS (k:=0) rfl;revert a;refine Ao<|?_
    refine eK (C':=Keep a2 [rB b2 [iU x.key,iB x.typ,qT x.text,vS ma x.mZ.length mc] 26,rB b1 [iB p.kind,qT p.tag,qT p.key,vS H p.as.length I,qT p.text,vS D p.kids.length E] 79]) (Aw M) (fun w h=>h.mono U (by simp))<|?_
    have cM:Els rdN 6 a2 [iB 1,qT p.tag,qT A,vS a4 ((p.as.map (Cc x)).length) (a6),qT [],vS ar (([(.mk 2 ([]:List UInt8) ([]:List UInt8) ([]) A ([]):NT)]).length) (av)] [(.mk 1 p.tag A (p.as.map (Cc x)) ([]:List UInt8) ([(.mk 2 ([]:List UInt8) ([]:List UInt8) ([]) A ([]):NT)]):NT)]:=Els.one (F5 (x:=(.mk 1 p.tag A (p.as.map (Cc x)) ([]:List UInt8) ([(.mk 2 ([]:List UInt8) ([]:List UInt8) ([]) A ([]):NT)]):NT)) Aqh (by refine ⟨?_,?_,?_⟩ <;> first | exact Nat.zero_le _ | assumption | exact N.1 | exact N.2.1 | exact N.2.2 | (have h_:=C7 x.key.toNat tM;show (Lib.decDigits x.key.toNat).length≤_;omega)) St32 aP) rfl;intro a F;refine A0 ?_ rfl Bl;refine A4 F M (k:=1) (k2:=0) rfl rfl D6.k A1 rfl rfl tD rfl rfl tX tO rfl ?_;clear F M a;intro ey w a M F;have b5:=Els.append Ez cM;obtain ⟨bP,ca,rfl,c9,cv,dg⟩:=M.rS (k:=1) rfl;revert a;refine Ao<|?_
    refine eK (C':=Keep a2 [rB b2 [iU x.key,iB x.typ,qT x.text,vS ma x.mZ.length mc] 26,rB b1 [iB p.kind,qT p.tag,qT p.key,vS H p.as.length I,qT p.text,vS D p.kids.length E] 79]) (Aw M) (fun w h=>h.mono (Gle.refl _) (by simp))<|wk ?_;intro a F
    exact ⟨_,tM,j+1,(bP),(nz+1),(ca),(aU++([iB 1,qT p.tag,qT A,vS a4 ((p.as.map (Cc x)).length) (a6),qT [],vS ar (([(.mk 2 ([]:List UInt8) ([]:List UInt8) ([]) A ([]):NT)]).length) (av)])),rfl,a2,((aw.trans Y).trans U),fU,(M.wn tW),tM,by rw [Kg ag,lA,← aI];rfl,by rw [Kg ag];exact b5⟩
   exact Bl
  intro ei;refine wk ?_;refine Af rfl rfl<|?_
  rw [List.take_of_length_le tM] at aI Ez;obtain ⟨dp,b8,bU,cf,bb,bm,bI,M⟩:=M.fZ Ff (k:=0) rfl Ez tD;clear bm bU cf
  exact ⟨b8,(aw.trans bb),M.wn dS2,_,_,by rw [Aoo tA,aI],by rw [Aoo tA];have h_:=bI;rw [aI] at h_;exact h_⟩
 intro ej;refine wk ?_;have aE:=Axn a7 tA tA tA tA;intro a F;refine Ik (.run 0 (.run 1 (.run 2 (.run 3 (.run 4 (.run 5 (.run 6 (.act 7 (.run 8 (.act 9 (.act 10 .fin .no) .no)) (.act 9 (.act 7 (.run 8 (.act 10 .fin .no)) .no) .no))))))))) (Keep G [rB b2 [iU x.key,iB x.typ,qT x.text,vS ma x.mZ.length mc] 26,rB b1 [iB p.kind,qT p.tag,qT p.key,vS H p.as.length I,qT p.text,vS D p.kids.length E] 79]) rfl kR kF (Aw (M.drew _)) ?_;replace M:=M.drew (w.drawn+1);revert a;refine wk ?_;refine fun a F=>A0 ?_ rfl ?_
 ·skip
  revert a;refine C3 Adz rfl rfl (Lg (x:=x) (xs:=p.as) M ht SM aX SAp (Kd a7 tM).1)<|?_;clear M;rintro _ aB w ai M ⟨aa,ac,rfl,St41⟩
  replace SAp:=SAp.mono mono_rdSlot ai;replace SKp:=SKp.mono mono_rdP ai;replace SM:=SM.mono Au ai;refine Ao<|?_
  refine eK (C':=Keep aB [rB b2 [iU x.key,iB x.typ,qT x.text,vS ma x.mZ.length mc] 26,rB b1 [iB p.kind,qT p.tag,qT p.key,vS H p.as.length I,qT p.text,vS D p.kids.length E] 79]) (Aw M) (fun w h=>h.mono ai (by simp))<|t_r (fun a F w M=>Am (cs:=[iB 1,qT p.tag,qT p.key,vS aa ((p.as.map (Cc x)).length) (ac),qT [],sN]) A1.k rfl A1 (F.evp rfl) rfl) rfl<|fun a F=>A0 ?_ rfl Bl
  revert a;refine B0 M A1 rfl rfl<|?_;clear M;intro aG w M
  refine Ao<|?_
  refine eK (C':=Keep aB [rB b2 [iU x.key,iB x.typ,qT x.text,vS ma x.mZ.length mc] 26,rB b1 [iB p.kind,qT p.tag,qT p.key,vS H p.as.length I,qT p.text,vS D p.kids.length E] 79]) (Aw M) (fun w h=>h.mono (Gle.refl _) (by simp))<|fun a F=>A0 ?_ rfl Bl
  refine Bf F M A1 0<|sZ ?_;clear F M a;intro w M;refine Ao<|?_
  refine eQ (Aw M)<|wk ?_;have M:=M.nilrow 193 6;intro a F;refine Bd (fun m a' w'=>∃ (i:Nat),∃ (ay:Option Addr),∃ (ny:Nat),∃ (cy:Nat),∃ (ah:List Value),m=p.kids.length - i∧∃ aL,Gle aB aL∧Fits 91 a' [(2,pP b1),(3,pP b2),(7,pP aG),(8,iI ((i:Nat):Int))]∧Mem w0 aL (rR (vS ay ny cy) (ny) (ah) 193 6::rB aG [iB 1,qT p.tag,qT p.key,vS aa ((p.as.map (Cc x)).length) (ac),qT [],vS ay ny cy] 193::rB b2 [iU x.key,iB x.typ,qT x.text,vS ma x.mZ.length mc] 26::rB b1 [iB p.kind,qT p.tag,qT p.key,vS H p.as.length I,qT p.text,vS D p.kids.length E] 79::L) w'∧(i≤p.kids.length)∧(ny=(madesF x (p.kids.take i)).length)∧(Els rdN 6 aL ah (madesF x (p.kids.take i)))) _ ⟨0,(none),(0),(0),([]),rfl,aB,Gle.refl _,fU,M,Nat.zero_le _,rfl,Els.nil⟩ ?_;clear F M;rintro m a w ⟨i,ay,ny,cy,ah,rfl,aL,ax,F,M,hi,a8,Ey⟩;replace SAp:=SAp.mono mono_rdSlot ax;replace SKp:=SKp.mono mono_rdP ax;replace SM:=SM.mono Au ax;replace St41:=St41.mono Dy ax;revert a;refine wk ?_;refine qD rfl ?_ ?_
  ·intro ek;refine wk ?_;have bw:=Pk aD (p.kids.take i);intro a F;rw [lT] at bw;refine Mq [(.free,0),(.pure,1),(.free,2),(.pure,3),(.free,4),(.free,5),(.pure,6),(.pure,7),(.keep,8),(.keep,9),(.free,10),(.chg,11)] [11] (Keep aL [rB aG [iB 1,qT p.tag,qT p.key,vS aa ((p.as.map (Cc x)).length) (ac),qT [],vS ay ny cy] 193,rB b2 [iU x.key,iB x.typ,qT x.text,vS ma x.mZ.length mc] 26,rB b1 [iB p.kind,qT p.tag,qT p.key,vS H p.as.length I,qT p.text,vS D p.kids.length E] 79]) rfl kR kF (Aw (M.drew _)) ?_;replace M:=M.drew (w.drawn+1);revert a;refine wk ?_;obtain ⟨ao,am⟩:=Aq (xs:=p.kids) (i:=i) tM;obtain ⟨dG,dX,_,d4,_,Ae46,bg⟩:=SKp.at am;obtain ⟨dy,d0,du,dw,rfl,br,bu,SAe46,SKe46⟩:=D7 bg;refine wk ?_;have dl:=Xc aD ao;refine k_k rfl<|C3 Alo rfl rfl (ih ao (mG am) _ _ _ _ _ _ _ _ _ _ M br bu SAe46 SKe46 SM (Wv a7 _ (mG am)))<|?_;clear M;rintro _ a9 w O M ⟨d6,dI,rfl,bD⟩
   replace SAp:=SAp.mono mono_rdSlot O;replace SKp:=SKp.mono mono_rdP O;replace SM:=SM.mono Au O;replace St41:=St41.mono Dy O;replace Ey:=Ey.mono Ff O;replace Ae46:=Ae46.mono O;refine Ao<|?_
   refine eK (C':=Keep a9 [rB aG [iB 1,qT p.tag,qT p.key,vS aa ((p.as.map (Cc x)).length) (ac),qT [],vS ay ny cy] 193,rB b2 [iU x.key,iB x.typ,qT x.text,vS ma x.mZ.length mc] 26,rB b1 [iB p.kind,qT p.tag,qT p.key,vS H p.as.length I,qT p.text,vS D p.kids.length E] 79]) (Aw M) (fun w h=>h.mono O (by simp))<|k_k rfl<|fun a F=>?_
   refine Kc F M (k:=0) rfl D6.k A1 rfl rfl tD rfl bD rfl tX tO rfl ?_;clear F M a;intro ez aS w a M aJ F;have aJ:=Els.append Ey aJ;obtain ⟨aQ,aV,rfl,cA,cw,dh⟩:=M.rS (k:=0) rfl;revert a;refine Ao<|?_
   refine eK (C':=Keep a9 [rB aG [iB 1,qT p.tag,qT p.key,vS aa ((p.as.map (Cc x)).length) (ac),qT [],vS ay ny cy] 193,rB b2 [iU x.key,iB x.typ,qT x.text,vS ma x.mZ.length mc] 26,rB b1 [iB p.kind,qT p.tag,qT p.key,vS H p.as.length I,qT p.text,vS D p.kids.length E] 79]) (Aw M) (fun w h=>h.mono (Gle.refl _) (by simp))<|wk ?_;refine k_c rfl<|D0 D6 M 1 rfl rfl rfl rfl rfl rfl<|?_;clear M;intro w M
   refine Ao<|?_
   refine fun a F=>⟨Keep a9 [rR (vS aQ (ny+(Fy x ao).length) (aV)) (ny+(Fy x ao).length) (ah++aS) 193 6,rB aG [iB 1,qT p.tag,qT p.key,vS aa ((p.as.map (Cc x)).length) (ac),qT [],vS aQ (ny+(Fy x ao).length) (aV)] 193,rB b2 [iU x.key,iB x.typ,qT x.text,vS ma x.mZ.length mc] 26,rB b1 [iB p.kind,qT p.tag,qT p.key,vS H p.as.length I,qT p.text,vS D p.kids.length E] 79],M.keep (Gle.refl _) (by simp),?_⟩;revert a;refine wk ?_;intro a F
   exact ⟨_,tM,i+1,(aQ),(ny+(Fy x ao).length),(aV),(ah++aS),rfl,a9,(ax.trans O),fU,M,tM,by rw [Dr am,lA,← a8],by rw [Dr am];exact aJ⟩
  intro el;refine wk ?_;intro a F;rw [List.take_of_length_le tM] at a8 Ey;subst a8;obtain ⟨b0,b9,bV,cg,ak,bn,bJ,M⟩:=M.fZ Ff (k:=0) rfl Ey tD;clear bn bV cg;replace SAp:=SAp.mono mono_rdSlot ak;replace SKp:=SKp.mono mono_rdP ak;replace SM:=SM.mono Au ak;replace St41:=St41.mono Dy ak;clear b0;revert a;refine wk ?_;intro a F;refine Ar F M D6.k A1 rfl rfl (cs:=[iB 1,qT p.tag,qT p.key,vS aa ((p.as.map (Cc x)).length) (ac),qT [],vS ay ((madesF x p.kids).length) (cy)]) rfl rfl tS tD rfl ?_;clear F M a;intro e0 w a M F;obtain ⟨dB,dN,rfl,cB,cx,di⟩:=M.rS (k:=0) rfl;revert a;refine wk ?_;refine Af rfl rfl<|?_
  have cO:Els rdN 6 b9 [iB 1,qT p.tag,qT p.key,vS aa ((p.as.map (Cc x)).length) (ac),qT [],vS ay ((madesF x p.kids).length) (cy)] [(.mk 1 p.tag p.key (p.as.map (Cc x)) ([]:List UInt8) (madesF x p.kids):NT)]:=Els.one (F5 (x:=(.mk 1 p.tag p.key (p.as.map (Cc x)) ([]:List UInt8) (madesF x p.kids):NT)) Aqh (by refine ⟨?_,?_,?_⟩ <;> first | exact Nat.zero_le _ | assumption | exact N.1 | exact N.2.1 | exact N.2.2 | (have h_:=C7 x.key.toNat tM;show (Lib.decDigits x.key.toNat).length≤_;omega)) St41 bJ) rfl;obtain ⟨dq,bA,bW,ci,be,bo,bK,M⟩:=M.fZ Ff (k:=0) rfl cO tD;clear bo bW ci
  exact ⟨bA,(((ai.trans ax).trans ak).trans be),M.wn dS3,_,_,by rw [Un aE];rfl,by rw [Un aE];exact bK⟩
 refine A0 ?_ rfl ?_
 ·skip
  revert a;refine B0 M A1 rfl rfl<|?_;clear M;intro aH w M
  refine Ao<|?_
  refine eK (C':=Keep G [rB b2 [iU x.key,iB x.typ,qT x.text,vS ma x.mZ.length mc] 26,rB b1 [iB p.kind,qT p.tag,qT p.key,vS H p.as.length I,qT p.text,vS D p.kids.length E] 79]) (Aw M) (fun w h=>h.mono (Gle.refl _) (by simp))<|fun a F=>A0 ?_ rfl Bl
  revert a;refine C3 Adz rfl rfl (Lg (x:=x) (xs:=p.as) M ht SM aX SAp (Kd a7 tM).1)<|?_;clear M;rintro _ aC w aj M ⟨ab,ae,rfl,St56⟩
  replace SKp:=SKp.mono mono_rdP aj;replace SM:=SM.mono Au aj;refine Ao<|?_
  refine eK (C':=Keep aC [rB b2 [iU x.key,iB x.typ,qT x.text,vS ma x.mZ.length mc] 26,rB b1 [iB p.kind,qT p.tag,qT p.key,vS H p.as.length I,qT p.text,vS D p.kids.length E] 79]) (Aw M) (fun w h=>h.mono aj (by simp))<|t_r (fun a F w M=>Am (cs:=[iB 1,qT p.tag,qT p.key,vS ab ((p.as.map (Cc x)).length) (ae),qT [],sN]) A1.k rfl A1 (F.evp rfl) rfl) rfl<|fun a F=>A0 ?_ rfl Bl
  refine Bf F M A1 0<|sZ ?_;clear F M a;intro w M;refine Ao<|?_
  refine eK (C':=Keep aC [rB b2 [iU x.key,iB x.typ,qT x.text,vS ma x.mZ.length mc] 26,rB b1 [iB p.kind,qT p.tag,qT p.key,vS H p.as.length I,qT p.text,vS D p.kids.length E] 79]) (Aw M) (fun w h=>h.mono (Gle.refl _) (by simp))<|wk ?_;have M:=M.nilrow 193 6;intro a F;refine Bd (fun m a' w'=>∃ (i:Nat),∃ (ay:Option Addr),∃ (ny:Nat),∃ (cy:Nat),∃ (ah:List Value),m=p.kids.length - i∧∃ aM,Gle aC aM∧Fits 91 a' [(2,pP b1),(3,pP b2),(7,pP aH),(8,iI ((i:Nat):Int))]∧Mem w0 aM (rR (vS ay ny cy) (ny) (ah) 193 6::rB aH [iB 1,qT p.tag,qT p.key,vS ab ((p.as.map (Cc x)).length) (ae),qT [],vS ay ny cy] 193::rB b2 [iU x.key,iB x.typ,qT x.text,vS ma x.mZ.length mc] 26::rB b1 [iB p.kind,qT p.tag,qT p.key,vS H p.as.length I,qT p.text,vS D p.kids.length E] 79::L) w'∧(i≤p.kids.length)∧(ny=(madesF x (p.kids.take i)).length)∧(Els rdN 6 aM ah (madesF x (p.kids.take i)))) _ ⟨0,(none),(0),(0),([]),rfl,aC,Gle.refl _,fU,M,Nat.zero_le _,rfl,Els.nil⟩ ?_;clear F M;rintro m a w ⟨i,ay,ny,cy,ah,rfl,aM,a0,F,M,hi,a8,Ey⟩;replace SKp:=SKp.mono mono_rdP a0;replace SM:=SM.mono Au a0;replace St56:=St56.mono Dy a0;revert a;refine wk ?_;refine qD rfl ?_ ?_
  ·intro em;refine wk ?_;have bw:=Pk aD (p.kids.take i);intro a F;rw [lT] at bw;refine Mq [(.free,0),(.pure,1),(.free,2),(.pure,3),(.free,4),(.free,5),(.pure,6),(.pure,7),(.keep,8),(.keep,9),(.free,10),(.chg,11)] [11] (Keep aM [rB aH [iB 1,qT p.tag,qT p.key,vS ab ((p.as.map (Cc x)).length) (ae),qT [],vS ay ny cy] 193,rB b2 [iU x.key,iB x.typ,qT x.text,vS ma x.mZ.length mc] 26,rB b1 [iB p.kind,qT p.tag,qT p.key,vS H p.as.length I,qT p.text,vS D p.kids.length E] 79]) rfl kR kF (Aw (M.drew _)) ?_;replace M:=M.drew (w.drawn+1);revert a;refine wk ?_;obtain ⟨ap,an⟩:=Aq (xs:=p.kids) (i:=i) tM;obtain ⟨dH,dY,_,d5,_,Ae59,bh⟩:=SKp.at an;obtain ⟨dz,d1,dv,dx,rfl,bt,bv,SAe59,SKe59⟩:=D7 bh;refine wk ?_;have dl:=Xc aD ap;refine k_k rfl<|C3 Alo rfl rfl (ih ap (mG an) _ _ _ _ _ _ _ _ _ _ M bt bv SAe59 SKe59 SM (Wv a7 _ (mG an)))<|?_;clear M;rintro _ aA w S M ⟨d7,dJ,rfl,bF⟩
   replace St56:=St56.mono Dy S;replace Ey:=Ey.mono Ff S;replace Ae59:=Ae59.mono S;refine Ao<|?_
   refine eK (C':=Keep aA [rB aH [iB 1,qT p.tag,qT p.key,vS ab ((p.as.map (Cc x)).length) (ae),qT [],vS ay ny cy] 193,rB b2 [iU x.key,iB x.typ,qT x.text,vS ma x.mZ.length mc] 26,rB b1 [iB p.kind,qT p.tag,qT p.key,vS H p.as.length I,qT p.text,vS D p.kids.length E] 79]) (Aw M) (fun w h=>h.mono S (by simp))<|k_k rfl<|fun a F=>?_
   refine Kc F M (k:=0) rfl D6.k A1 rfl rfl tD rfl bF rfl tX tO rfl ?_;clear F M a;intro e1 aT w a M aK F;have aK:=Els.append Ey aK;obtain ⟨aR,aW,rfl,cD,c0,dj⟩:=M.rS (k:=0) rfl;revert a;refine Ao<|?_
   refine eK (C':=Keep aA [rB aH [iB 1,qT p.tag,qT p.key,vS ab ((p.as.map (Cc x)).length) (ae),qT [],vS ay ny cy] 193,rB b2 [iU x.key,iB x.typ,qT x.text,vS ma x.mZ.length mc] 26,rB b1 [iB p.kind,qT p.tag,qT p.key,vS H p.as.length I,qT p.text,vS D p.kids.length E] 79]) (Aw M) (fun w h=>h.mono (Gle.refl _) (by simp))<|wk ?_;refine k_c rfl<|D0 D6 M 1 rfl rfl rfl rfl rfl rfl<|?_;clear M;intro w M
   refine Ao<|?_
   refine fun a F=>⟨Keep aA [rR (vS aR (ny+(Fy x ap).length) (aW)) (ny+(Fy x ap).length) (ah++aT) 193 6,rB aH [iB 1,qT p.tag,qT p.key,vS ab ((p.as.map (Cc x)).length) (ae),qT [],vS aR (ny+(Fy x ap).length) (aW)] 193,rB b2 [iU x.key,iB x.typ,qT x.text,vS ma x.mZ.length mc] 26,rB b1 [iB p.kind,qT p.tag,qT p.key,vS H p.as.length I,qT p.text,vS D p.kids.length E] 79],M.keep (Gle.refl _) (by simp),?_⟩;revert a;refine wk ?_;intro a F
   exact ⟨_,tM,i+1,(aR),(ny+(Fy x ap).length),(aW),(ah++aT),rfl,aA,(a0.trans S),fU,M,tM,by rw [Dr an,lA,← a8],by rw [Dr an];exact aK⟩
  intro en;refine wk ?_;intro a F;rw [List.take_of_length_le tM] at a8 Ey;subst a8;obtain ⟨b3,bB,bX,cj,al,bp,bL,M⟩:=M.fZ Ff (k:=0) rfl Ey tD;clear bp bX cj;replace St56:=St56.mono Dy al;clear b3;revert a;refine wk ?_;intro a F;refine Ar F M D6.k A1 rfl rfl (cs:=[iB 1,qT p.tag,qT p.key,vS ab ((p.as.map (Cc x)).length) (ae),qT [],vS ay ((madesF x p.kids).length) (cy)]) rfl rfl tS tD rfl ?_;clear F M a;intro e2 w a M F;obtain ⟨dC,dO,rfl,cE,c1,dk⟩:=M.rS (k:=0) rfl;revert a;refine wk ?_;refine Af rfl rfl<|?_
  have cP:Els rdN 6 bB [iB 1,qT p.tag,qT p.key,vS ab ((p.as.map (Cc x)).length) (ae),qT [],vS ay ((madesF x p.kids).length) (cy)] [(.mk 1 p.tag p.key (p.as.map (Cc x)) ([]:List UInt8) (madesF x p.kids):NT)]:=Els.one (F5 (x:=(.mk 1 p.tag p.key (p.as.map (Cc x)) ([]:List UInt8) (madesF x p.kids):NT)) Aqh (by refine ⟨?_,?_,?_⟩ <;> first | exact Nat.zero_le _ | assumption | exact N.1 | exact N.2.1 | exact N.2.2 | (have h_:=C7 x.key.toNat tM;show (Lib.decDigits x.key.toNat).length≤_;omega)) St56 bL) rfl;obtain ⟨dr,bC,bY,ck,bf,bq,bN,M⟩:=M.fZ Ff (k:=0) rfl cP tD;clear bq bY ck
  exact ⟨bC,(((aj.trans a0).trans al).trans bf),M.wn dS3,_,_,by rw [Un aE];rfl,by rw [Un aE];exact bN⟩
 exact Bl
theorem Aqu {x:ItemD} (A:Al .u64 x.key) (D:ItemOk x) (T:x.text.length≤9223372036854775807) (p:PT):A2f x p:=by
 induction p using Tr.ind with
 | _ p ih=>intro w0 w G L ma Y U mc aa V M O S H I N E;exact Ajz A D T ih M O S H I N E
theorem rrender_spec (M:Mem w0 G L w) {p:PT} {al:Option Addr} {am:Nat} {aj:Option Addr} {ak:Nat} (Y:Al .u8 p.kind) (aa:(p.tag.length≤9223372036854775807∧p.key.length≤9223372036854775807∧p.text.length≤9223372036854775807)) (SAp:Aj rdSlot 3 G (vS al p.as.length am) p.as) (SKp:Aj rdP 6 G (vS aj p.kids.length ak) p.kids) {x:ItemD} {ma:Option Addr} {mc:Nat} (ht:x.text.length≤9223372036854775807) (SM:Aj Cr 1 G (vS ma x.mZ.length mc) x.mZ) (ar:Al .u64 x.key) {most:Int}:Calls pG 111 #[.agg #[iB p.kind,qT p.tag,qT p.key,vS al p.as.length am,qT p.text,vS aj p.kids.length ak],.agg #[iU x.key,iB x.typ,qT x.text,vS ma x.mZ.length mc],iI most] w (Ret w0 G L fun G' v=>∃ a1 c1 a2 c2,v=.tuple #[.agg #[iB (D3 p x most).kind,qT (D3 p x most).tag,qT (D3 p x most).key,vS a1 (D3 p x most).as.length c1,qT (D3 p x most).text,vS a2 (D3 p x most).kids.length c2],iI (rendE p x most)]∧Aj Fa 2 G' (vS a1 (D3 p x most).as.length c1) (D3 p x most).as∧Aj rdN 6 G' (vS a2 (D3 p x most).kids.length c2) (D3 p x most).kids):=by
 refine Ap (vs:=[_,_,_]) Tryz.func111 rfl (n:=44) rfl rfl<|?_
 refine Bt<|?_
 refine Ch M rfl rfl rfl<|?_;clear M;intro b1 w M
 refine Ch M rfl rfl rfl<|?_;clear M;intro b2 w M
 refine B0 M A1 rfl rfl<|?_;clear M;intro b3 w M
 refine wk ?_
 rcases bE (decide (most < 1)) with an | ao
 ·skip
  have h5:=dT an;refine wk ?_;refine Ak (fun a F=>Am (cs:=[iB 0,qT [],qT [],sN,qT [],sN]) A1.k rfl A1 (F.evp rfl) rfl) rfl<|fun a F=>?_
  refine Bf F M A1 0<|sZ ?_;clear F M a;intro w M;refine wk ?_;refine fun a F=>B1 F M (k:=0) rfl rfl A1 rfl rfl rfl rfl ?_;have E:rendE p x most=1:=Rr tM;have D:D3 p x most=K6:=Gx (by rw [E];(first | decide | omega))
  exact ⟨_,(Gle.refl _),(M.wn tW),none,0,none,0,by rw [E,D];rfl,by rw [D];exact Aj.nil,by rw [D];exact Aj.nil⟩
 have h6:=dF ao;refine wk ?_;refine qD rfl ?_ ?_
 ·intro h7;refine Bt<|?_
  refine Ak (fun a F=>Am (cs:=[iB 0,qT [],qT [],sN,qT [],sN]) A1.k rfl A1 (F.evp rfl) rfl) rfl<|fun a F=>?_
  refine Bf F M A1 0<|sZ ?_;clear F M a;intro w M;refine wk ?_;refine fun a F=>B1 F M (k:=0) rfl rfl A1 rfl rfl rfl rfl ?_;have E:rendE p x most=1:=Rr tM;have D:D3 p x most=K6:=Gx (by rw [E];(first | decide | omega))
  exact ⟨_,(Gle.refl _),(M.wn tW),none,0,none,0,by rw [E,D];rfl,by rw [D];exact Aj.nil,by rw [D];exact Aj.nil⟩
 intro h8;refine wk ?_;refine A2 A1d rfl rfl (Rp (x:=p) M Y aa SAp SKp)<|?_;clear M;rintro _ w M rfl
 refine wk ?_;refine Ag rfl ?_ ?_
 ·intro ap;have h9:=dF (Ad ap);have T:¬ ValidP p:=fun U=>by have:=chkP_zero.2 U;omega
  refine Bt<|?_
  refine Ak (fun a F=>Am (cs:=[iB 0,qT [],qT [],sN,qT [],sN]) A1.k rfl A1 (F.evp rfl) rfl) rfl<|wk ?_;refine A2 A1d rfl rfl (Rp (x:=p) M Y aa SAp SKp)<|?_;clear M;rintro _ w M rfl
  intro a F;refine Bf F M A1 0<|sZ ?_;clear F M a;intro w M;refine wk ?_;refine fun a F=>B1 F M (k:=0) rfl rfl A1 rfl rfl rfl rfl ?_;have E:rendE p x most=Y8 p:=by rw [Vh T];exact Zu tM T
  have D:D3 p x most=K6:=Gx (by rw [E];(first | decide | omega))
  exact ⟨_,(Gle.refl _),(M.wn tW),none,0,none,0,by rw [E,D];rfl,by rw [D];exact Aj.nil,by rw [D];exact Aj.nil⟩
 intro ac;have a8:=dT (Ae ac);have T:ValidP p:=chkP_zero.1 tM;refine wk ?_;refine A2 A0z rfl rfl (Nq (x:=x) M ht SM)<|?_;clear M;rintro _ w M rfl
 refine wk ?_;refine Ag rfl ?_ ?_
 ·intro ae;have a9:=dF (Ad ae);have N:¬ ItemOk x:=fun U=>by have:=De.2 U;omega
  refine Bt<|?_
  refine Ak (fun a F=>Am (cs:=[iB 0,qT [],qT [],sN,qT [],sN]) A1.k rfl A1 (F.evp rfl) rfl) rfl<|wk ?_;refine A2 A0z rfl rfl (Nq (x:=x) M ht SM)<|?_;clear M;rintro _ w M rfl
  intro a F;refine Bf F M A1 0<|sZ ?_;clear F M a;intro w M;refine wk ?_;refine fun a F=>B1 F M (k:=0) rfl rfl A1 rfl rfl rfl rfl ?_;have E:rendE p x most=Hi x:=by rw [E1 N];exact Zv tM T N
  have D:D3 p x most=K6:=Gx (by rw [E];(first | decide | omega))
  exact ⟨_,(Gle.refl _),(M.wn tW),none,0,none,0,by rw [E,D];rfl,by rw [D];exact Aj.nil,by rw [D];exact Aj.nil⟩
 intro ag;have aA:=dT (Ae ag);have N:ItemOk x:=De.1 tM;refine wk ?_;refine C3 Alo rfl rfl (Aqu ar N ht p _ _ _ _ _ _ _ _ _ _ M Y aa SAp SKp SM (T5 T))<|?_;clear M;rintro _ az w A M ⟨a3,a5,rfl,ab⟩
 have aq:(Fy x p)[0]?=some (node1 x p):=by rw [Un T.1];rfl
 obtain ⟨a4,a6,_,a0,_,ay,V⟩:=ab.at aq;obtain ⟨aw,ax,au,av,rfl,O,S,H,I⟩:=D7 V;refine wk ?_;refine B0 M A1 rfl rfl<|?_;clear M;intro a7 w M
 intro a F;refine Bf F M A1 0<|sZ ?_;clear F M a;intro w M;refine wk ?_;refine A2 ent152 rfl rfl (H9 (x:=(node1 x p)) M O S H I)<|?_;clear M;rintro _ w M rfl
 refine wk ?_
 rcases bE (!(decide (Yd (node1 x p)=0))) with ah | ai
 ·skip
  have aB:=dF (Ad ah);refine wk ?_;refine Ak (fun a F=>Am (cs:=[iB 0,qT [],qT [],sN,qT [],sN]) A1.k rfl A1 (F.evp rfl) rfl) rfl<|fun a F=>?_
  refine Bf F M A1 1<|sZ ?_;clear F M a;intro w M;refine wk ?_;refine fun a F=>B1 F M (k:=1) rfl rfl A1 rfl rfl rfl rfl ?_;have E:rendE p x most=14:=rend_many tM T N (by first | omega | (left;rw [Vg fun U=>by have:=Sh U;omega]));have D:D3 p x most=K6:=Gx (by rw [E];(first | decide | omega))
  exact ⟨_,A,(M.wn tW),none,0,none,0,by rw [E,D];rfl,by rw [D];exact Aj.nil,by rw [D];exact Aj.nil⟩
 have aC:=dT (Ae ai);refine wk ?_;refine A2 A0y rfl rfl (Uk (x:=(node1 x p)) M O S H I)<|?_;clear M;rintro _ w M rfl
 refine wk ?_;refine qD rfl ?_ ?_
 ·intro aD;refine Bt<|?_
  refine Ak (fun a F=>Am (cs:=[iB 0,qT [],qT [],sN,qT [],sN]) A1.k rfl A1 (F.evp rfl) rfl) rfl<|fun a F=>?_
  refine Bf F M A1 1<|sZ ?_;clear F M a;intro w M;refine wk ?_;refine fun a F=>B1 F M (k:=1) rfl rfl A1 rfl rfl rfl rfl ?_;have E:rendE p x most=14:=rend_many tM T N (by first | omega | (left;rw [Vg fun U=>by have:=Sh U;omega]));have D:D3 p x most=K6:=Gx (by rw [E];(first | decide | omega))
  exact ⟨_,A,(M.wn tW),none,0,none,0,by rw [E,D];rfl,by rw [D];exact Aj.nil,by rw [D];exact Aj.nil⟩
 intro aE;refine wk ?_;intro a F;refine Bf F M A1 1 ?_;clear F M a;intro w a M F;revert a;refine Dq rfl<|Fl<|?_
 refine fun a F=>B1 F M (k:=1) rfl rfl A1 rfl rfl rfl rfl ?_;have E:rendE p x most=0:=rend_ok tM T N (by have U:=Oz.2 (T0.1 tM);omega);have D:=Afw E
 exact ⟨_,A,(M.wn tW),_,_,_,_,by rw [E,D],by rw [D];exact H,by rw [D];exact I⟩
end Go.Proofs.YtmmhmcplegpenaaGreatDoor.T
namespace Go.Proofs.YtmmhmcplegpenaaGreatDoor
open Go Go.Y
structure ItemD where
 key:Nat
 typ:Nat
 text:List UInt8
 mZ:List (List UInt8)
deriving DecidableEq
def Bp:Rd ItemD:=fun G cs x=>∃ (a:Option Addr) (c:Nat),cs=[iU ((x.key:Nat):Int),iB ((x.typ:Nat):Int),qT x.text,vS a x.mZ.length c] ∧
 x.key < 18446744073709551616∧x.typ < 256∧x.text.length≤9223372036854775807∧x.mZ.length≤9223372036854775807∧Aj Cr 1 G (vS a x.mZ.length c) x.mZ
theorem Ac:Hx Bp:=by
 rintro G O cs x h ⟨a,c,A,D,E,H,I,N⟩
 exact ⟨a,c,A,D,E,H,I,N.mono Au h⟩
def Dl (c:UInt8):Prop:=(97≤nb c∧nb c≤122)∨(48≤nb c∧nb c≤57)
def C2 (s:List UInt8):Prop:=(1≤s.length∧s.length≤16)∧∀ c∈s,Dl c
def J7 (c:UInt8):Prop:=32≤nb c∧nb c≤126
def Str (s:List UInt8):Prop:=s.length≤64∧∀ c∈s,J7 c
instance (c:UInt8):Decidable (Dl c):=by unfold Dl;infer_instance
instance (c:UInt8):Decidable (J7 c):=by unfold J7;infer_instance
instance (s:List UInt8):Decidable (C2 s):=by unfold C2;infer_instance
instance (s:List UInt8):Decidable (Str s):=by unfold Str;infer_instance
theorem Str.nil:Str []:=⟨by simp,by simp⟩
theorem D9 {α:Type} {p:α→Prop} {s:List α} {i:Nat} {c:α} (h:∀ (m:Nat) (b:α),m < i→s[m]?=some b→p b) (E:s[i]?=some c) (H:p c):∀ (m:Nat) (b:α),m < i+1→s[m]?=some b→p b:=by
 intro m b I A
 rcases Nat.lt_or_ge m i with D | D
 ·exact h m b D A
 have:m=i:=by omega
 subst this;rw [E] at A;simp only [Option.some.injEq] at A;subst A;exact H
theorem E3 {α:Type} {p:α→Prop} {s:List α} {i:Nat} (h:∀ (m:Nat) (b:α),m < i→s[m]?=some b→p b) (E:s.length≤i):∀ c∈s,p c:=by
 intro c D;obtain ⟨m,A⟩:=List.mem_iff_getElem?.1 D
 exact h m c (by have:=A3 A;omega) A
theorem He {α:Type} {p:α→Prop} {s:List α} {i:Nat} {c:α} (A:s[i]?=some c) (D:¬ p c):¬ ∀ c∈s,p c:=fun h=>D (h c (mG A))
def Jg (r:Nat):Bool:=decide ((r:Int) < 32) || decide (126 < (r:Int))
def P3 (r:Nat):Bool:=(decide ((r:Int) < 97) || decide (122 < (r:Int))) && (decide ((r:Int) < 48) || decide (57 < (r:Int)))
theorem Ahp {bad:Nat→Bool} {P:UInt8→Prop} (h1:∀ b:UInt8,bad b.toNat=false↔P b) (h2:∀ r,128≤r→bad r=true) (l:List UInt8):∀ (f pos:Nat),l.length≤pos+f→(Lib.idxFuncFrom bad true (str l) f pos < 0↔∀ (m:Nat) (b:UInt8),pos≤m→l[m]?=some b→P b)
 | 0,pos,h=>by
  have:Lib.idxFuncFrom bad true (str l) 0 pos = -1:=rfl;rw [this];refine ⟨fun _ m b hm hb=>?_,fun _=>by decide⟩;have:=A3 hb;omega
 | f+1,pos,h=>by
  unfold Lib.idxFuncFrom
  by_cases hp:pos < (str l).size
  ·rw [if_pos hp];have hl:pos < l.length:=by rw [Cl] at hp;exact hp
   have hb:l[pos]?=some ((str l)[pos]'hp):=by rw [← Abx,getElem?_pos (str l) pos hp]
   generalize hB:(str l)[pos]'hp=B at hb
   by_cases ha:B.toNat < 128
   ·have hd:=decode_ascii (str l) pos hp (by rw [hB];exact ha);rw [hB] at hd;rw [hd]
    by_cases hg:P B
    ·have hbad:bad B.toNat=false:=(h1 B).2 hg;simp only [hbad,Bool.false_eq_true,if_false];rw [Ahp h1 h2 l f (pos+1) tM]
     constructor
     ·intro h1 m b hm hb'
      rcases Nat.eq_or_lt_of_le hm with e | e
      ·subst e;rw [hb] at hb';simp only [Option.some.injEq] at hb';subst hb';exact hg
      ·exact h1 m b tM hb'
     ·exact fun h1 m b hm hb'=>h1 m b tM hb'
    ·have hbad:bad B.toNat=true:=by
      cases hx:bad B.toNat with
      | true=>rfl
      | false=>exact absurd ((h1 B).1 hx) hg
     simp only [hbad,if_true];refine ⟨fun h1=>by omega,fun h1=>absurd (h1 pos B (Nat.le_refl _) hb) hg⟩
   ·have hd:=(decode_high (str l) pos hp (by rw [hB];omega)).1;have hbad:bad (Utf8.decode (str l) pos).1=true:=h2 _ tM;simp only [hbad,if_true];refine ⟨fun h1=>by omega,fun h3=>?_⟩;have h4:=(h1 B).2 (h3 pos B (Nat.le_refl _) hb);rw [h2 _ tM] at h4;cases h4
  ·rw [if_neg hp];refine ⟨fun _ m b hm hb=>?_,fun _=>by decide⟩;have:=A3 hb;rw [Cl] at hp;omega
theorem idx_P {bad:Nat→Bool} {P:UInt8→Prop} (A:∀ b:UInt8,bad b.toNat=false↔P b) (D:∀ r,128≤r→bad r=true) (l:List UInt8):Lib.idxFunc bad true (str l) < 0↔∀ c∈l,P c:=by
 unfold Lib.idxFunc;rw [Ahp A D l _ 0 (by rw [Cl];omega)]
 constructor
 ·intro h c H;obtain ⟨m,I⟩:=List.mem_iff_getElem?.1 H
  exact h m c (Nat.zero_le _) I
 exact fun h m b _ E=>h b (mG E)
theorem Adu (l:List UInt8):Lib.idxFunc Jg true (str l) < 0↔∀ c∈l,J7 c :=
 idx_P (fun b=>by simp only [Jg,J7,nb,Bool.or_eq_false_iff,decide_eq_false_iff_not];omega) (fun r h=>by simp only [Jg,Bool.or_eq_true,decide_eq_true_eq];omega) l
theorem Azr (l:List UInt8):Lib.idxFunc P3 true (str l) < 0↔∀ c∈l,Dl c :=
 idx_P (fun b=>by simp only [P3,Dl,nb,Bool.and_eq_false_iff,Bool.or_eq_false_iff,decide_eq_false_iff_not];omega) (fun r h=>by simp only [P3,Bool.and_eq_true,Bool.or_eq_true,decide_eq_true_eq];omega) l
def ItemOk (t:Int) (x:ItemD):Prop:=x.key≠0∧(x.typ:Int) < t∧Str x.text∧x.mZ.length≤8∧∀ s∈x.mZ,C2 s
instance (t:Int) (x:ItemD):Decidable (ItemOk t x):=by unfold ItemOk;infer_instance
def Hi (t:Int) (x:ItemD):Int:=if ItemOk t x then 0 else 6
theorem Dc {t:Int} {x:ItemD} (h:ItemOk t x):Hi t x=0:=by unfold Hi;rw [if_pos h]
theorem E1 {t:Int} {x:ItemD} (h:¬ ItemOk t x):Hi t x=6:=by unfold Hi;rw [if_neg h]
theorem De {t:Int} {x:ItemD}:Hi t x=0↔ItemOk t x:=by
 unfold Hi
 split
 ·rename_i h;exact ⟨fun _=>h,fun _=>rfl⟩
 rename_i h;exact ⟨fun A=>(by cases A),fun A=>absurd A h⟩
theorem G7 {l:List (List UInt8)} {i:Nat} (h:∀ (m:Nat) (s:List UInt8),m < i→l[m]?=some s→C2 s) (A:l.length≤i):∀ s∈l,C2 s:=E3 h A
theorem Ahc {t:Int} {x:ItemD} {i:Nat} {s:List UInt8} (h:x.mZ[i]?=some s) (D:¬ C2 s):¬ ItemOk t x:=fun A=>D (A.2.2.2.2 s (mG h))
theorem Ph {α:Type} {p:α→Prop} {l:List α} {i:Nat} {x:α} (h:∀ (m:Nat) (s:α),m < i→l[m]?=some s→p s) (D:l[i]?=some x) (A:p x):∀ (m:Nat) (s:α),m < i+1→l[m]?=some s→p s:=D9 h D A
def Aqe (x:ItemD):Prop:=x.text.length≤70∧x.mZ.length≤12∧∀ s∈x.mZ,s.length≤20
def Few (l:List ItemD):Prop:=l.length≤30∧∀ x∈l,Aqe x
instance (x:ItemD):Decidable (Aqe x):=by unfold Aqe;infer_instance
instance (l:List ItemD):Decidable (Few l):=by unfold Few;infer_instance
theorem Few.no {l:List ItemD} {i:Nat} {x:ItemD} (h:l[i]?=some x) (D:¬ Aqe x):¬ Few l:=fun A=>D (A.2 x (mG h))
theorem Ml {x y:ItemD} (A:x.key=y.key) (D:x.typ=y.typ) (E:x.text=y.text) (H:x.mZ=y.mZ):x=y:=by
 cases x;cases y;simp_all
theorem Pi {α:Type} {xs ys:List α} {i:Nat} {x y:α} (D:xs[i]?=some x) (A:ys[i]?=some y) (h:x≠y):xs≠ys:=by
 rintro rfl;rw [D] at A;simp only [Option.some.injEq] at A;exact h A
theorem Vf {α:Type} {xs ys:List α} {i:Nat} {x y:α} (h:∀ m,m < i→xs[m]?=ys[m]?) (D:xs[i]?=some x) (E:ys[i]?=some y) (H:x=y):∀ m,m < i+1→xs[m]?=ys[m]?:=by
 intro m I
 rcases Nat.lt_or_ge m i with A | A
 ·exact h m A
 have:m=i:=by omega
 subst this;rw [D,E,H]
theorem Adx {α:Type} {xs ys:List α} {i:Nat} (h:∀ m,m < i→xs[m]?=ys[m]?) (E:xs.length=ys.length) (D:xs.length≤i):xs=ys:=by
 apply List.ext_getElem?
 intro m
 rcases Nat.lt_or_ge m i with A | A
 ·exact h m A
 rw [List.getElem?_eq_none tM,List.getElem?_eq_none tM]
def Mo (xs:List ItemD) (k:Nat) (z:Int):Prop:=(z = -1∧∀ x∈xs,x.key≠k)∨∃ (i:Nat) (x:ItemD),z=(i:Int)∧xs[i]?=some x∧x.key=k∧∀ (m:Nat) (y:ItemD),m < i→xs[m]?=some y→y.key≠k
theorem Mo.uniq {xs:List ItemD} {k:Nat} {z S:Int} (h:Mo xs k z) (H:Mo xs k S):z=S:=by
 rcases h with ⟨rfl,h⟩ | ⟨i,x,rfl,N,O,T⟩ <;> rcases H with ⟨rfl,H⟩ | ⟨j,y,rfl,A,D,I⟩
 ·rfl
 ·exact absurd D (h y (mG A))
 ·exact absurd O (H x (mG N))
 rcases Nat.lt_trichotomy i j with E | E | E
 ·exact absurd O (I i x E N)
 ·rw [E]
 exact absurd D (T j y E A)
theorem Mo.none {xs:List ItemD} {k i:Nat} (h:∀ (m:Nat) (y:ItemD),m < i→xs[m]?=some y→y.key≠k) (A:xs.length≤i):Mo xs k (-1):=Or.inl ⟨rfl,E3 (p:=fun y:ItemD=>y.key≠k) h A⟩
theorem Mo.some {xs:List ItemD} {k i:Nat} {x:ItemD} (h:∀ (m:Nat) (y:ItemD),m < i→xs[m]?=some y→y.key≠k) (D:xs[i]?=some x) (A:x.key=k):Mo xs k (i:Int):=Or.inr ⟨i,x,rfl,D,A,h⟩
structure KindD where
 part:T.PT
 base:Int
 sticky:Bool
 pool:Int
structure RulesD where
 kZ:List KindD
 cap:Int
structure EntD where
 item:ItemD
 size:Int
 known:Bool
def Cq:Rd KindD:=fun G cs k=>∃ c1,cs=c1++[iI k.base,vB k.sticky,iI k.pool]∧T.rdP G c1 k.part∧Al .i64 k.base
theorem Ai:Hx Cq:=by
 rintro G I cs x h ⟨A,D,E,H⟩
 exact ⟨A,D,T.mono_rdP _ _ _ _ h E,H⟩
def Bj:Rd EntD:=fun G cs x=>∃ c1,cs=c1++[iI x.size,vB x.known]∧Bp G c1 x.item∧Al .i64 x.size
theorem Ab:Hx Bj:=by
 rintro G I cs x h ⟨A,D,E,H⟩
 exact ⟨A,D,Ac _ _ _ _ h E,H⟩
def tI (x:ItemD):T.ItemD:=⟨(x.key:Int),(x.typ:Int),x.text,x.mZ⟩
theorem tI_ok {t:Int} {x:ItemD} (h:ItemOk t x):T.ItemOk (tI x):=by
 obtain ⟨A,_,D,E,H⟩:=h
 exact ⟨fun e=>A (by simpa [tI] using e),D,E,H⟩
def Bv (f:Nat→Int):Nat→Int
 | 0=>0
 | n+1=>if Bv f n=0 then f n else Bv f n
theorem F9 {f:Nat→Int} {n:Nat} (h:Bv f n=0):Bv f (n+1)=f n:=by simp [Bv,h]
theorem Ut {f:Nat→Int} {n:Nat} (h:Bv f n≠0):∀ m,n≤m→Bv f m=Bv f n:=by
  intro m A
  induction m with
  | zero => have : n = 0 := by omega
            subst this;rfl
  | succ m ih =>
    rcases Nat.eq_or_lt_of_le A with e | e
    · rw [e]
    · have:=ih tM
      simp only [Bv,this,h,if_false]
theorem Kz {f:Nat→Int} {i n:Nat} (h:Bv f i=0) (E:i < n) (D:f i≠0):Bv f n=f i:=by
 have A:=F9 h;rw [Ut (n:=i+1) (by rw [A];exact D) n tM,A]
theorem Ds {f:Nat→Int}:∀ {n:Nat},Bv f n=0↔∀ i,i < n→f i=0
 | 0=>⟨fun _ i h=>by omega,fun _=>rfl⟩
 | n+1=>by
  constructor
  ·intro h
   by_cases h0:Bv f n=0
   ·have h1:=Ds.1 h0;rw [F9 h0] at h;intro i hi
    rcases Nat.eq_or_lt_of_le (show i≤n by omega) with e | e
    ·rw [e];exact h
    ·exact h1 i e
   ·rw [Ut h0 _ (Nat.le_succ n)] at h;exact absurd h h0
  ·intro h;rw [F9 (Ds.2 fun i hi=>h i tM)]
   exact h n tM
theorem Ng {f g:Nat→Int}:∀ {n:Nat},(∀ i,i < n→f i=g i)→Bv f n=Bv g n
 | 0,_=>rfl
 | n+1,h=>by simp only [Bv,Ng (n:=n) fun i hi=>h i tM,h n tM]
def Nm (k:KindD):Prop:=(1≤k.base∧k.base≤2305843009213693952)∧T.ValidP k.part
def Dd (c:RulesD):Prop:=((1≤c.kZ.length∧c.kZ.length≤8)∧(1≤c.cap∧c.cap≤64))∧∀ k∈c.kZ,Nm k
open Classical in
noncomputable def Mr (c:RulesD):Int:=if Dd c then 0 else 7
theorem Qg {c:RulesD} (h:Dd c):Mr c=0:=by unfold Mr;rw [if_pos h]
theorem Ka {c:RulesD} (h:¬ Dd c):Mr c=7:=by unfold Mr;rw [if_neg h]
theorem T6 {c:RulesD}:Mr c=0↔Dd c:=by
 unfold Mr
 split
 ·rename_i h;exact ⟨fun _=>h,fun _=>rfl⟩
 rename_i h;exact ⟨fun A=>(by cases A),fun A=>absurd A h⟩
def Dt (c:RulesD) (x:ItemD):Int:=match c.kZ[x.typ]? with
 | some k=>k.base
 | none=>0
theorem Jk {c:RulesD} {x:ItemD} {k:KindD} (h:c.kZ[x.typ]?=some k):Dt c x=k.base:=by unfold Dt;rw [h]
noncomputable def Hz (c:RulesD) (x:ItemD):Int:=match c.kZ[x.typ]? with
 | some k=>T.rendE k.part (tI x) c.cap
 | none=>0
theorem Qp {c:RulesD} {x:ItemD} {k:KindD} (h:c.kZ[x.typ]?=some k):Hz c x=T.rendE k.part (tI x) c.cap:=by unfold Hz;rw [h]
theorem J5 {c:RulesD} {x:ItemD} (h:ItemOk (c.kZ.length:Int) x):∃ k,c.kZ[x.typ]?=some k:=Aq (by have:=h.2.1;omega)
theorem Akd {c:RulesD} {x:ItemD} (H:Dd c) (N:ItemOk (c.kZ.length:Int) x):Hz c x=0∨Hz c x=14:=by
 obtain ⟨k,I⟩:=J5 N;rw [Qp I];have A:¬ (c.cap < 1∨64 < c.cap):=by have:=H.1.2;omega
 have D:=(H.2 k (mG I)).2;have E:=tI_ok N
 by_cases h4:T.cntF (T.node1 (tI x) k.part)=0∨c.cap < (T.cntF (T.node1 (tI x) k.part):Int)
 ·exact Or.inr (T.rend_many A D E h4)
 exact Or.inl (T.rend_ok A D E h4)
open Classical in
noncomputable def E7 (c:RulesD) (x:ItemD) (seen:Prop):Int:=if ¬ ItemOk (c.kZ.length:Int) x then 6 else if seen then 8 else if Hz c x=0 then 0 else 14
section
variable {c:RulesD} {x:ItemD} {seen:Prop}
theorem R8 (h:¬ ItemOk (c.kZ.length:Int) x):E7 c x seen=6:=by unfold E7;rw [if_pos h]
theorem Vc (h:ItemOk (c.kZ.length:Int) x) (A:seen):E7 c x seen=8:=by unfold E7;rw [if_neg (not_not_intro h),if_pos A]
theorem Kt (h:ItemOk (c.kZ.length:Int) x) (A:¬ seen) (D:¬ Hz c x=0):E7 c x seen=14:=by unfold E7;rw [if_neg (not_not_intro h),if_neg A,if_neg D]
theorem Lj (h:ItemOk (c.kZ.length:Int) x) (A:¬ seen) (D:Hz c x=0):E7 c x seen=0:=by unfold E7;rw [if_neg (not_not_intro h),if_neg A,if_pos D]
theorem Fj:E7 c x seen=0↔ItemOk (c.kZ.length:Int) x∧¬ seen∧Hz c x=0:=by
 unfold E7
 split
 ·rename_i h;exact ⟨fun A=>(by cases A),fun A=>absurd A.1 h⟩
 rename_i h
 split
 ·rename_i D;exact ⟨fun A=>(by cases A),fun A=>absurd D A.2.1⟩
 rename_i D
 split
 ·rename_i A;exact ⟨fun _=>⟨Classical.byContradiction h,D,A⟩,fun _=>rfl⟩
 rename_i A;exact ⟨fun E=>(by cases E),fun E=>absurd E.2.2 A⟩
theorem Xq:0≤E7 c x seen:=by
 unfold E7;split
 ·decide
 split
 ·decide
 split <;> decide
theorem Up {A:Prop} (h:seen↔A):E7 c x seen=E7 c x A:=by rw [propext h]
end
def Dj (l:List EntD) (k:Nat):Prop:=∃ y∈l,y.item.key=k
def Jh (c:RulesD) (x:EntD):Prop:=(1≤x.size∧x.size≤2305843009213693952)∧(x.known=true∨x.size=Dt c x.item)
open Classical in
noncomputable def Tv (c:RulesD) (pre:List EntD) (x:EntD):Int :=
 if E7 c x.item (Dj pre x.item.key)=0 then (if Jh c x then 0 else 12) else E7 c x.item (Dj pre x.item.key)
noncomputable def Im (c:RulesD) (l:List EntD) (i:Nat):Int:=match l[i]? with
 | some x=>Tv c (l.take i) x
 | none=>0
theorem Rj {c:RulesD} {l:List EntD} {i:Nat} {x:EntD} (h:l[i]?=some x):Im c l i=Tv c (l.take i) x:=by unfold Im;rw [h]
section
variable {c:RulesD} {pre:List EntD} {x:EntD}
theorem Tu (h:E7 c x.item (Dj pre x.item.key)≠0):Tv c pre x=E7 c x.item (Dj pre x.item.key):=by unfold Tv;rw [if_neg h]
theorem entE_12 (h:E7 c x.item (Dj pre x.item.key)=0) (A:¬ Jh c x):Tv c pre x=12:=by unfold Tv;rw [if_pos h,if_neg A]
theorem entE_0 (h:E7 c x.item (Dj pre x.item.key)=0) (A:Jh c x):Tv c pre x=0:=by unfold Tv;rw [if_pos h,if_pos A]
theorem Pv:Tv c pre x=0↔E7 c x.item (Dj pre x.item.key)=0∧Jh c x:=by
 unfold Tv
 split
 ·rename_i h
  split
  ·rename_i A;exact ⟨fun _=>⟨h,A⟩,fun _=>rfl⟩
  rename_i A;exact ⟨fun D=>(by cases D),fun D=>absurd D.2 A⟩
 rename_i h;exact ⟨fun A=>absurd A h,fun A=>absurd A.1 h⟩
end
def Hj:List EntD→Int
 | []=>0
 | x::l=>max x.size 0+Hj l
theorem O8:∀ l:List EntD,0≤Hj l
 | []=>Int.le_refl _
 | x::l=>by have:=O8 l;simp only [Hj];omega
theorem Il:∀ a b:List EntD,Hj (a++b)=Hj a+Hj b
 | [],b=>by simp [Hj]
 | x::a,b=>by simp only [List.cons_append,Hj,Il a b];omega
theorem Kb {l:List EntD} {i:Nat} {x:EntD} (h:l[i]?=some x):Hj (l.take (i+1))=Hj (l.take i)+max x.size 0:=by
 rw [List.take_add_one,h,Il];simp [Hj]
theorem sumF_le {l:List EntD} (i:Nat):Hj (l.take i)≤Hj l:=by
 have h:=Il (l.take i) (l.drop i);rw [List.take_append_drop] at h;have:=O8 (l.drop i);omega
def Yq (l:List EntD):Int:=if Hj l≤4611686018427387904 then Hj l else 4611686018427387905
def Dp (l:List EntD):Int:=if Hj l≤4611686018427387904 then 0 else 13
theorem Abq {l:List EntD} {i:Nat} (h:4611686018427387904 < Hj (l.take i)):Yq l=4611686018427387905:=by
 have:=sumF_le (l:=l) i;unfold Yq;rw [if_neg tM]
theorem Amc {l:List EntD} {i:Nat} {z:Int} (A:z=Hj (l.take i)) (h:z≤4611686018427387904) (D:l.length≤i):Yq l=z:=by
 rw [List.take_of_length_le D] at A;unfold Yq;rw [if_pos tM,A]
theorem Agc {l:List EntD}:4611686018427387904 < Yq l↔¬ Hj l≤4611686018427387904:=by
 unfold Yq;split
 ·rename_i h;omega
 rename_i h;exact ⟨fun _=>h,fun _=>by decide⟩
theorem Agb {l:List EntD} (h:¬ 4611686018427387904 < Yq l):Dp l=0:=by unfold Dp;rw [if_pos (Classical.byContradiction fun A=>h (Agc.2 A))]
theorem Aoc {l:List EntD} (h:4611686018427387904 < Yq l):Dp l=13:=by unfold Dp;rw [if_neg (Agc.1 h)]
theorem Tc {l:List EntD}:Dp l=0↔Hj l≤4611686018427387904:=by
 unfold Dp;split
 ·rename_i h;exact ⟨fun _=>h,fun _=>rfl⟩
 rename_i h;exact ⟨fun A=>(by cases A),fun A=>absurd A h⟩
open Classical in
noncomputable def Bh (c:RulesD) (l:List EntD):Int :=
 if ¬ Dd c then 7 else if 1024 < l.length then 3 else if Bv (Im c l) l.length=0 then Dp l else Bv (Im c l) l.length
section
variable {c:RulesD} {l:List EntD}
theorem Apw (h:¬ Dd c):Bh c l=7:=by unfold Bh;rw [if_pos h]
theorem Apx (h:Dd c) (A:1024 < l.length):Bh c l=3:=by unfold Bh;rw [if_neg (not_not_intro h),if_pos A]
theorem Nj {i:Nat} {x:EntD} {z:Int} (h:Dd c) (N:¬ 1024 < l.length) (O:Bv (Im c l) i=0) (A:l[i]?=some x) (H:Tv c (l.take i) x=z) (I:z≠0):Bh c l=z:=by
 have D:Im c l i≠0:=by rw [Rj A,H];exact I
 have E:=Kz O (A3 A) D;unfold Bh;rw [if_neg (not_not_intro h),if_neg N,if_neg (by rw [E];exact D),E,Rj A,H]
theorem Kh {i:Nat} (h:Dd c) (A:¬ 1024 < l.length) (D:Bv (Im c l) i=0) (H:l.length≤i):Bh c l=Dp l:=by
 have E:Bv (Im c l) l.length=0:=Ds.2 fun j I=>Ds.1 D j tM;unfold Bh;rw [if_neg (not_not_intro h),if_neg A,if_pos E]
theorem scan_ok {i:Nat} {x:EntD} (A:Bv (Im c l) i=0) (D:l[i]?=some x) (E:Tv c (l.take i) x=0):Bv (Im c l) (i+1)=0:=by rw [F9 A,Rj D,E]
end
def Sl (l:List EntD) (k:Nat) (z:Int):Prop:=(z = -1∧∀ x∈l,x.item.key≠k)∨∃ (i:Nat) (x:EntD),z=(i:Int)∧l[i]?=some x∧x.item.key=k∧∀ (m:Nat) (y:EntD),m < i→l[m]?=some y→y.item.key≠k
theorem Sl.none {l:List EntD} {k i:Nat} (h:∀ (m:Nat) (y:EntD),m < i→l[m]?=some y→y.item.key≠k) (A:l.length≤i):Sl l k (-1):=Or.inl ⟨rfl,E3 (p:=fun y:EntD=>y.item.key≠k) h A⟩
theorem Sl.some {l:List EntD} {k i:Nat} {x:EntD} (h:∀ (m:Nat) (y:EntD),m < i→l[m]?=some y→y.item.key≠k) (D:l[i]?=some x) (A:x.item.key=k):Sl l k (i:Int):=Or.inr ⟨i,x,rfl,D,A,h⟩
theorem Sl.has {l:List EntD} {k:Nat} {z:Int} (h:Sl l k z):0≤z↔Dj l k:=by
 rcases h with ⟨rfl,h⟩ | ⟨i,x,rfl,D,A,I⟩
 ·exact ⟨fun A=>by omega,fun ⟨y,H,E⟩=>absurd E (h y H)⟩
 exact ⟨fun _=>⟨x,mG D,A⟩,fun _=>by omega⟩
section
variable {c:RulesD} {l:List EntD} {i:Nat} {x:EntD}
theorem ck6 (E:Dd c) (A:¬ 1024 < l.length) (D:Bv (Im c l) i=0) (H:l[i]?=some x) (h:¬ ItemOk (c.kZ.length:Int) x.item):Bh c l=6 :=
 Nj E A D H (by rw [Tu (by rw [R8 h];decide),R8 h]) tD
theorem ck8 (H:Dd c) (D:¬ 1024 < l.length) (E:Bv (Im c l) i=0) (I:l[i]?=some x) (h:ItemOk (c.kZ.length:Int) x.item) (A:Dj (l.take i) x.item.key):Bh c l=8 :=
 Nj H D E I (by rw [Tu (by rw [Vc h A];decide),Vc h A]) tD
theorem ck14 (I:Dd c) (E:¬ 1024 < l.length) (H:Bv (Im c l) i=0) (N:l[i]?=some x) (h:ItemOk (c.kZ.length:Int) x.item) (A:¬ Dj (l.take i) x.item.key) (D:¬ Hz c x.item=0):Bh c l=14 :=
 Nj I E H N (by rw [Tu (by rw [Kt h A D];decide),Kt h A D]) tD
theorem ck12 (N:Dd c) (A:¬ 1024 < l.length) (D:Bv (Im c l) i=0) (O:l[i]?=some x) (h:ItemOk (c.kZ.length:Int) x.item) (E:¬ Dj (l.take i) x.item.key) (H:Hz c x.item=0) (I:¬ Jh c x):Bh c l=12 :=
 Nj N A D O (entE_12 (Lj h E H) I) tD
theorem ck0 (A:Bv (Im c l) i=0) (I:l[i]?=some x) (h:ItemOk (c.kZ.length:Int) x.item) (D:¬ Dj (l.take i) x.item.key) (E:Hz c x.item=0) (H:Jh c x):Bv (Im c l) (i+1)=0 :=
 scan_ok A I (entE_0 (Lj h D E) H)
end
def F3 (l:List EntD) (i:Nat) (ks:List Nat):Prop:=∀ q,q∈ks↔Dj (l.take i) q
theorem F3.zero (l:List EntD):F3 l 0 []:=fun q=>⟨fun h=>by simp at h,fun ⟨y,A,_⟩=>by simp at A⟩
theorem F3.step {l:List EntD} {i:Nat} {ks:List Nat} {x:EntD} (h:F3 l i ks) (E:l[i]?=some x):F3 l (i+1) (x.item.key::ks):=by
 intro q;rw [mC,h q,List.take_add_one,E]
 constructor
 ·rintro (rfl | ⟨y,A,D⟩)
  ·exact ⟨x,by simp,rfl⟩
  exact ⟨y,by simp [A],D⟩
 rintro ⟨y,A,D⟩;simp only [Option.toList_some,List.mem_append,List.mem_singleton] at A
 rcases A with A | rfl
 ·exact Or.inr ⟨y,A,D⟩
 exact Or.inl D.symm
theorem Awe {x:ItemD} (h:x.key < 18446744073709551616):Al .u64 (tI x).key:=⟨by show (0:Int)≤((x.key:Nat):Int);omega,by show ((x.key:Nat):Int)≤18446744073709551615;omega⟩
end Go.Proofs.YtmmhmcplegpenaaGreatDoor
