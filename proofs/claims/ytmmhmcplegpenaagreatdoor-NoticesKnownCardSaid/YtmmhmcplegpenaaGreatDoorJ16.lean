/- Own lemmas and walks. -/
import Derived.Test.YtmmhmcplegpenaaGreatDoorJ15
import Derived.Test.YtmmhmcplegpenaaGreatDoorJ14
set_option linter.unusedSimpArgs false
set_option linter.unusedVariables false
set_option maxRecDepth 10000
set_option maxHeartbeats 1600000
open Go.Value renaming slice→vS,string→vT,int→vI,bool→vB,pointer→vP
open Go.IntKind renaming i64→kI,u64→kU
open Go.Lib renaming cut→xC
open Go.Proofs.Tryz renaming prog→pG
open Go.Y.Res renaming blk→rB,row→rR
open Go.Y (pP qT iI iB iU sN)
open List renaming length_append→lA,length_cons→lC,length_nil→lN,length_take→lT,length_drop→lD,mem_of_getElem?→mG,mem_cons→mC,length_map→lM
namespace Go.Proofs.YtmmhmcplegpenaaGreatDoor
open Go Go.Y Go.Proofs
theorem Mk {xs:List NotD} {e:NotD × Option Value}:(Re xs++[e])[xs.length]?=some e:=by
 rw [List.getElem?_append_right (by rw [O6];exact Nat.le_refl _),O6,Nat.sub_self];rfl
theorem Aff {xs:List NotD} {e A:NotD × Option Value}:(Re xs++[e]).set xs.length A = Re xs++[A]:=by
 rw [List.set_append_right _ _ (by rw [O6];exact Nat.le_refl _),O6,Nat.sub_self];rfl
theorem Axv {G:Av} {x:NotD} {sz:Int} (h:Head x sz):Els Ct 5 G [iB ((x.kind:Nat):Int),iI x.at_,iI x.count,iI x.to,sN] [x]:=by
 have A:=Azs h;have D:=h.it;have E:x.iZ.length=0:=by rw [D];rfl
 refine ⟨[_,_,_,_,_],[],rfl,rfl,⟨none,0,?_,A.1,A.2.1,A.2.2.1,A.2.2.2,tM,?_⟩,rfl⟩
 ·rw [E]
 rw [D];exact Aj.nil
theorem Acj {w0 w:World} {G:Av} {L:List Res} (M:Mem w0 G L w) {s:List UInt8} (hs:s.length≤9223372036854775807):Calls pG 35 #[qT s] w (Ret w0 G L fun G' v=>∃ (a:Option Addr) (cc:Nat) (ys:List NotD) (ln:Nat) (e:Int),v=.tuple #[vS a ys.length cc,iI ((ln:Nat):Int),iI e]∧Aj Ct 5 G' (vS a ys.length cc) ys∧PF s (ys,ln,e)):=by
 refine Ap (vs:=[_]) Tryz.func35 rfl (n:=85) rfl rfl<|wk ?_;refine qD rfl ?_ ?_
 ·intro h1;refine wk ?_;refine Hc rfl rfl rfl rfl<|?_
  exact ⟨_,(Gle.refl _),M,none,0,[],0,_,rfl,Aj.nil,Or.inl ⟨tM,rfl⟩⟩
 intro h2;refine wk ?_;have M:=M.nilrow 65 5;replace M:=z_M M;have M:=M.nilrow 26 4;replace M:=z_M M;intro a F;refine Bd (fun m a' w'=>∃ (c:List UInt8),∃ (O:Nat),∃ (S:Nat),∃ (ai:Option Addr),∃ (ni:Nat),∃ (ci:Nat),∃ (T:List Value),∃ (ao:Option Addr),∃ (no:Nat),∃ (co:Nat),∃ (V:List Value),m=c.length∧∃ G3,Gle G G3∧Fits 85 a' [(0,qT c),(5,vS ao no co),(6,iI ((O:Nat):Int)),(7,iI ((S:Nat):Int))]∧Mem w0 G3 (rR (vS ai ni ci) (ni) (T) 26 4::rR (vS ao no co) (no) (V) 65 5::L) w'∧(RpS s c G3 (vS ai ni ci) ni T no V O S)) _ ⟨s,0,0,(none),(0),(0),[],(none),(0),(0),[],rfl,G,Gle.refl _,fU,M,Awu⟩ ?_;clear F M;rintro m a w ⟨c,O,S,ai,ni,ci,T,ao,no,co,V,rfl,G3,U,F,M,hS⟩;revert a;refine Ca<|Ca<|?_
 rcases hS with ⟨b8,xs,hA⟩ | ⟨xs,x,sz,ys,hB⟩
 ·skip
  subst b8;obtain rfl:=hA.len;have Eo:=hA.els;have bm:=hA.suf;have b7:=hA.few;have M:=M.wn (cN (cC (sR _)));have M:=M.nilrow 26 4;replace M:=z_M M;refine wk ?_
  rcases bE (!(decide (c=([]:List UInt8)))) with be | a8
  ·skip
   have h4:=dF (Ad be);have c1:(decide (c=([]:List UInt8)))=false:=(Ad be);refine wk ?_;refine A2 Qd rfl rfl (Gz (s:=c) (c:=(10:UInt8)) M tM)<|?_;clear M;rintro _ w M rfl
   have b6:=E8 (10:UInt8) c;refine wk ?_;refine qD rfl ?_ ?_
   ·intro h6;refine wk ?_;refine Hc rfl rfl rfl rfl<|?_
    exact ⟨_,U,M.wn dS2,none,0,[],(S+1),_,rfl,Aj.nil,Or.inr ⟨tM,hA.bad tA (Aru (Iz tA))⟩⟩
   intro h7;refine wk ?_;have hq:=Q8 tA;refine wk ?_;refine A2 ent91 rfl rfl (Afp (s:=((xC c [(10:UInt8)]).1)) M tM)<|?_;clear M;rintro _ w M ⟨x8,c7,ce,rfl,aB⟩
   refine wk ?_;refine B0 M Ba rfl rfl<|?_;clear M;intro b9 w M
   intro a F;refine Bf F M Ba 0<|sZ ?_;clear F M a;intro w M;refine wk ?_;refine qD rfl ?_ ?_
   ·intro cf;refine wk ?_;refine Hc rfl rfl rfl rfl<|?_
    exact ⟨_,U,M.wn dS3,none,0,[],(S+1),_,rfl,Aj.nil,Or.inr ⟨tM,hA.bad tA (Ayb (by rcases aB with ⟨b5,_⟩ | ⟨_,h_⟩;exact absurd (Iz tA) (by rw [b5];decide);exact h_))⟩⟩
   intro cg;refine wk ?_
   rcases aB with ⟨_,hh,he⟩ | ⟨b4,_⟩
   intro a F
   case inr=>exact absurd (Q8 tA) (by rw [b4];decide)
   have aD:=head10 hq he;have bf:=Hv hq;revert a;refine wk ?_;refine qD rfl ?_ ?_
   ·intro cj;refine wk ?_;refine Hc rfl rfl rfl rfl<|?_
    exact ⟨_,U,M.wn dS3,none,0,[],(S+1),_,rfl,Aj.nil,Or.inr ⟨tM,hA.full ⟨_,_,_,hh,aD⟩ tM⟩⟩
   intro ck;refine wk ?_;obtain ⟨p,hp⟩:=Int.eq_ofNat_of_zero_le hh.rs.1;subst hp;have c5:=hh.rs.2;refine wk ?_;intro a F;refine Ar F M Du.k Ba rfl rfl (cs:=[iB ((x8.kind:Nat):Int),iI x8.at_,iI x8.count,iI x8.to,sN]) rfl rfl tS tD rfl ?_;clear F M a;intro c8 w a M F;obtain ⟨bR,bY,rfl,bw,bp,bA⟩:=M.rS (k:=0) rfl;refine A4 F M (k:=3) (k2:=0) rfl rfl Du.k Ba rfl rfl tD rfl rfl tX tO rfl ?_;clear F M a;intro c9 w a M F;obtain ⟨a6,a7,rfl,bx,bq,bB⟩:=M.rS (k:=3) rfl;revert a;refine wk ?_
   rcases Nat.lt_or_ge 0 p with bM | bM
   ·skip
    refine wk ?_;intro a F
    exact ⟨_,(by have az:=Hv (c:=c) hq;omega),(xC c [(10:UInt8)]).2.1,p,(S+1),(none),(0),(0),[],(a6),(xs.length+1),(a7),V++([iB ((x8.kind:Nat):Int),iI x8.at_,iI x8.count,iI x8.to,sN]),rfl,G3,U,fU,(M.wn (cN (.cons _ (cC (.cons_cons _ (sR _)))))),Or.inr ⟨xs,x8,((p:Nat):Int),[],hA.first hh tM aD rfl rfl tM tM⟩⟩
   obtain rfl:p=0:=by omega
   refine wk ?_;intro a F
   exact ⟨_,(by have az:=Hv (c:=c) hq;omega),(xC c [(10:UInt8)]).2.1,0,(S+1),(none),(0),(0),[],(a6),(xs.length+1),(a7),V++([iB ((x8.kind:Nat):Int),iI x8.at_,iI x8.count,iI x8.to,sN]),rfl,G3,U,fU,(M.wn (cN (.cons _ (cC (.cons_cons _ (sR _)))))),Or.inl ⟨rfl,_,hA.one hh tM aD (Axv hh) tM⟩⟩
  have cl:=dT (Ae a8);have bZ:(decide (c=([]:List UInt8)))=true:=(Ae a8);refine wk ?_;refine Hc rfl rfl rfl rfl<|?_
  obtain ⟨bL,aQ,aW,aZ,aC,aE,aV,M⟩:=M.fZ Aa (k:=1) rfl Eo tD;clear aE aW aZ
  exact ⟨aQ,U.trans aC,M.wn dS1,ao,co,xs,0,0,rfl,aV,Or.inr ⟨tM,hA.fin tA⟩⟩
 obtain rfl:=hB.nit;obtain rfl:=hB.len;have Eo:=hB.els;have Ei:=hB.its;have bm:=hB.suf;have cd:=hB.pos;have c4:=hB.lf;have c6:=hB.hd.rs;have b7:=hB.few;refine wk ?_
 rcases bE (!(decide (c=([]:List UInt8)))) with a9 | aA
 ·skip
  have cm:=dF (Ad a9);have ca:(decide (c=([]:List UInt8)))=false:=(Ad a9);refine wk ?_;refine A2 Qd rfl rfl (Gz (s:=c) (c:=(10:UInt8)) M tM)<|?_;clear M;rintro _ w M rfl
  have bn:=E8 (10:UInt8) c;refine wk ?_;refine qD rfl ?_ ?_
  ·intro cn;refine wk ?_;refine Hc rfl rfl rfl rfl<|?_
   exact ⟨_,U,M.wn dS2,none,0,[],(S+1),_,rfl,Aj.nil,Or.inr ⟨tM,hB.bad (Z7 (Iz tA))⟩⟩
  intro cp;refine wk ?_;have hq:=Q8 tA;refine wk ?_;refine qD rfl ?_ ?_
  ·intro cq;refine wk ?_;refine Ak (fun a F=>Bg (F.ev rfl) (F.ev rfl) (by (simp only [lA,lC,lN];omega))) rfl<|C3 ent90 rfl rfl (Zx (s:=((xC c [(10:UInt8)]).1)++([10]:List UInt8)) M (by (simp only [lA,lC,lN];omega)))<|?_;clear M;rintro _ ae w Y M ⟨A,E,I,bW,rfl,ap,SMk24,aM,aI⟩
   replace hB:=hB.mono Y;replace Eo:=Eo.mono Jq Y;replace Ei:=Ei.mono Ac Y;refine wk ?_;refine B0 M Bc rfl rfl<|?_;clear M;intro av w M
   intro a F;refine Bf F M Bc 0 ?_;clear F M a;intro w a M F;revert a;refine Dq rfl<|Ca<|Bt<|Cd rfl<|s_eq rfl rfl<|Ao<|Gd<|?_
   refine qD rfl ?_ ?_
   ·intro cr;refine Bt<|Cd rfl<|Dq rfl<|Dq rfl<|Dq rfl<|Fl<|Fu<|Fu<|Iw<|Fu<|Iw<|Fu<|?_
    refine Hc rfl rfl rfl rfl<|?_
    exact ⟨_,(U.trans Y),M.wn dS3,none,0,[],(S+1),_,rfl,Aj.nil,Or.inr ⟨tM,hB.bad (Agm (aI (Iz tA)))⟩⟩
   intro ct;refine D8<|Bt<|Cd rfl<|Afh Du.k rfl<|Amh rfl rfl<|?_
   have bg:(((xs.length+1:Nat):Int) - 1:Int)=(((xs.length+1) - 1:Nat):Int):=by omega
   intro a F;rw [bg] at F;revert a;refine Dq rfl<|Ca<|?_
   refine fun a F=>Mq [(.free,0),(.free,1),(.free,2),(.free,3),(.free,4),(.free,5),(.pure,6),(.pure,7),(.keep,8),(.chg,9),(.free,10),(.free,11),(.chg,12)] [9,12] (Keep ae [rB av [iU ((A.key:Nat):Int),iB ((A.typ:Nat):Int),qT A.text,vS E A.mZ.length I] 26,rR (vS ai ys.length ci) (ys.length) (T) 26 4,rR (vS ao (xs.length+1) (co)) (xs.length+1) (V) 65 5]) rfl kR kF (Aw (M.drew _)) ?_;replace M:=M.drew (w.drawn+1);revert a;refine wk ?_;obtain ⟨bS,_,bP,bH,_,aO,rfl⟩:=M.atRowK (k:=2) rfl tD Eo (Lr:=[rB av [iU ((A.key:Nat):Int),iB ((A.typ:Nat):Int),qT A.text,vS E A.mZ.length I] 26,rR (vS ai ys.length ci) (ys.length) (T) 26 4,rR (vS ao (xs.length+1) (co)) (xs.length+1) (V) 65 5]) (k':=2) rfl (Mk (xs:=xs));refine wk ?_;refine k_p (fun a F w M=>Cw (agf Ci rfl) (F.ev rfl) (Yh (aO w M) 4 rfl rfl)) rfl<|wk ?_;refine k_k rfl<|fun a F=>?_
   refine Ar F M Ci.k Bc rfl rfl (cs:=[iU ((A.key:Nat):Int),iB ((A.typ:Nat):Int),qT A.text,vS E A.mZ.length I]) rfl rfl tS tD rfl ?_;clear F M a;intro cA w a M F;obtain ⟨ar,ax,rfl,bz,br,bC⟩:=M.rS (k:=0) rfl;revert a;refine Ao<|?_
   refine eQ (Aw M)<|?_
   have Eb:Els Bp 4 ae [iU ((A.key:Nat):Int),iB ((A.typ:Nat):Int),qT A.text,vS E A.mZ.length I] [A]:=⟨[iU ((A.key:Nat):Int),iB ((A.typ:Nat):Int),qT A.text,vS E A.mZ.length I],[],rfl,rfl,⟨E,I,rfl,ap.1,ap.2.1,ap.2.2,(by have h_:=SMk24.bound;omega),SMk24⟩,rfl⟩;refine k_c rfl<|fun a F=>?_
   refine A4 F M (k:=2) (k2:=0) rfl rfl Ci.k Bc rfl rfl tD rfl rfl tX tO rfl ?_;clear F M a;intro cB w a M F;have a2:=Els.append Ei Eb;obtain ⟨ah,ak,rfl,b0,bt,bD⟩:=M.rS (k:=2) rfl;revert a;refine Ao<|?_
   replace M:=z_M M;intro a F;refine ⟨Keep ae [rR (vS ar 1 (ax)) 1 ([iU ((A.key:Nat):Int),iB ((A.typ:Nat):Int),qT A.text,vS E A.mZ.length I]) 26 4,rB av [iU ((A.key:Nat):Int),iB ((A.typ:Nat):Int),qT A.text,vS E A.mZ.length I] 26,rR (vS ah (ys.length+1) (ak)) (ys.length+1) (T++([iU ((A.key:Nat):Int),iB ((A.typ:Nat):Int),qT A.text,vS E A.mZ.length I])) 26 4,rR (vS ao (xs.length+1) (co)) (xs.length+1) (V) 65 5],M.keep (Gle.refl _) (by simp),?_⟩;obtain ⟨bT,_,aT,bI,_,bN,rfl⟩:=M.atRowK (k:=3) rfl tD Eo (Lr:=[rR (vS ar 1 (ax)) 1 ([iU ((A.key:Nat):Int),iB ((A.typ:Nat):Int),qT A.text,vS E A.mZ.length I]) 26 4,rB av [iU ((A.key:Nat):Int),iB ((A.typ:Nat):Int),qT A.text,vS E A.mZ.length I] 26,rR (vS ah (ys.length+1) (ak)) (ys.length+1) (T++([iU ((A.key:Nat):Int),iB ((A.typ:Nat):Int),qT A.text,vS E A.mZ.length I])) 26 4,rR (vS ao (xs.length+1) (co)) (xs.length+1) (V) 65 5]) (k':=3) rfl (Mk (xs:=xs));revert a;refine wk ?_;refine k_c rfl<|fun a F=>?_
   refine Jn F M Ci rfl (k:=3) rfl Eo aT (Mk (xs:=xs)) (f:=4) tD rfl rfl rfl rfl (X':=(x,some (Value.slice ah (ys.length+1) (ak)))) (Agi) ?_;clear F M a;intro am w a M Eu34 F;revert a;refine Ao<|?_
   replace M:=z_M M;intro a F;refine ⟨Keep ae [rR (vS ar 1 (ax)) 1 ([iU ((A.key:Nat):Int),iB ((A.typ:Nat):Int),qT A.text,vS E A.mZ.length I]) 26 4,rB av [iU ((A.key:Nat):Int),iB ((A.typ:Nat):Int),qT A.text,vS E A.mZ.length I] 26,rR (vS ah (ys.length+1) (ak)) (ys.length+1) (T++([iU ((A.key:Nat):Int),iB ((A.typ:Nat):Int),qT A.text,vS E A.mZ.length I])) 26 4,rR (vS ao (xs.length+1) (co)) (xs.length+1) (am) 65 5],M.keep (Gle.refl _) (by simp),?_⟩;revert a;refine wk ?_;intro a F;rw [Aff] at Eu34;obtain ⟨a1,a0⟩:=Azg hq (aM (Q8 tA));have bf:=Hv hq
   rcases Nat.lt_or_ge 1 O with aH | aH
   ·skip
    revert a;refine wk ?_;have bh:(((O:Nat):Int) - 1:Int)=((O - 1:Nat):Int):=by omega
    intro a F;rw [bh] at F;revert a;refine wk ?_;intro a F
    exact ⟨_,(by have az:=Hv (c:=c) hq;omega),(xC c [(10:UInt8)]).2.1,(O - 1),(S+1),(ah),(ys.length+1),(ak),T++([iU ((A.key:Nat):Int),iB ((A.typ:Nat):Int),qT A.text,vS E A.mZ.length I]),(ao),(xs.length+1),(co),am,rfl,ae,(U.trans Y),fU,(M.wn (cN (.cons _ (cC (.cons_cons _ (sR _)))))),Or.inr ⟨xs,x,sz,ys++[A],hB.more a0 a1 a2 rfl Eu34 tM tM⟩⟩
   obtain ⟨aK,aR,aX,ba,ab,aF,a4,M⟩:=M.fZ Ac (k:=2) rfl a2 tD;clear aF aX ba;replace hB:=hB.mono ab;replace Ei:=Ei.mono Ac ab;replace Eb:=Eb.mono Ac ab;replace Eu34:=Eu34.mono Jq ab;rw [aK] at a4 Eu34;have M:=M.nilrow 26 4;replace M:=z_M M;revert a;refine wk ?_;have bi:(((O:Nat):Int) - 1:Int)=((O - 1:Nat):Int):=by omega
   intro a F;rw [bi] at F;revert a;refine wk ?_;intro a F
   exact ⟨_,(by have az:=Hv (c:=c) hq;omega),(xC c [(10:UInt8)]).2.1,(O - 1),(S+1),(none),(0),(0),[],(ao),(xs.length+1),(co),am,rfl,aR,((U.trans Y).trans ab),fU,(M.wn (cC (cN (.cons _ (cC (sR _)))))),Or.inl ⟨tM,_,hB.last a0 a1 a4 Eu34 tM tM⟩⟩
  intro cu;intro a F
  omega
 have cv:=dT (Ae aA);have cb:(decide (c=([]:List UInt8)))=true:=(Ae aA);refine wk ?_;refine qD rfl ?_ ?_
 ·intro cw;refine wk ?_;refine A2 Qd rfl rfl (Gz (s:=c) (c:=(10:UInt8)) M tM)<|?_;clear M;rintro _ w M rfl
  have bo:=E8 (10:UInt8) c;refine wk ?_;refine qD rfl ?_ ?_
  ·intro cx;refine wk ?_;refine Hc rfl rfl rfl rfl<|?_
   exact ⟨_,U,M.wn dS2,none,0,[],(S+1),_,rfl,Aj.nil,Or.inr ⟨tM,hB.bad (Z7 (Iz tA))⟩⟩
  intro cy;refine wk ?_;have hq:=Q8 tA;refine wk ?_;refine Ak (fun a F=>Bg (F.ev rfl) (F.ev rfl) (by (simp only [lA,lC,lN];omega))) rfl<|C3 ent90 rfl rfl (Zx (s:=((xC c [(10:UInt8)]).1)++([10]:List UInt8)) M (by (simp only [lA,lC,lN];omega)))<|?_;clear M;rintro _ ag w aa M ⟨D,H,N,bX,rfl,aq,SMk44,aN,aJ⟩
  replace hB:=hB.mono aa;replace Eo:=Eo.mono Jq aa;replace Ei:=Ei.mono Ac aa;refine wk ?_;refine B0 M Bc rfl rfl<|?_;clear M;intro aw w M
  intro a F;refine Bf F M Bc 0 ?_;clear F M a;intro w a M F;revert a;refine Dq rfl<|Ca<|Bt<|Cd rfl<|s_eq rfl rfl<|Ao<|Gd<|?_
  refine qD rfl ?_ ?_
  ·intro cz;refine Bt<|Cd rfl<|Dq rfl<|Dq rfl<|Dq rfl<|Fl<|Fu<|Fu<|Iw<|Fu<|Iw<|Fu<|?_
   refine Hc rfl rfl rfl rfl<|?_
   exact ⟨_,(U.trans aa),M.wn dS3,none,0,[],(S+1),_,rfl,Aj.nil,Or.inr ⟨tM,hB.bad (Agm (aJ (Iz tA)))⟩⟩
  intro c0;refine D8<|Bt<|Cd rfl<|Afh Du.k rfl<|Amh rfl rfl<|?_
  have bj:(((xs.length+1:Nat):Int) - 1:Int)=(((xs.length+1) - 1:Nat):Int):=by omega
  intro a F;rw [bj] at F;revert a;refine Dq rfl<|Ca<|?_
  refine fun a F=>Mq [(.free,0),(.free,1),(.free,2),(.free,3),(.free,4),(.free,5),(.pure,6),(.pure,7),(.keep,8),(.chg,9),(.free,10),(.free,11),(.chg,12)] [9,12] (Keep ag [rB aw [iU ((D.key:Nat):Int),iB ((D.typ:Nat):Int),qT D.text,vS H D.mZ.length N] 26,rR (vS ai ys.length ci) (ys.length) (T) 26 4,rR (vS ao (xs.length+1) (co)) (xs.length+1) (V) 65 5]) rfl kR kF (Aw (M.drew _)) ?_;replace M:=M.drew (w.drawn+1);revert a;refine wk ?_;obtain ⟨bU,_,bQ,bJ,_,aP,rfl⟩:=M.atRowK (k:=2) rfl tD Eo (Lr:=[rB aw [iU ((D.key:Nat):Int),iB ((D.typ:Nat):Int),qT D.text,vS H D.mZ.length N] 26,rR (vS ai ys.length ci) (ys.length) (T) 26 4,rR (vS ao (xs.length+1) (co)) (xs.length+1) (V) 65 5]) (k':=2) rfl (Mk (xs:=xs));refine wk ?_;refine k_p (fun a F w M=>Cw (agf Ci rfl) (F.ev rfl) (Yh (aP w M) 4 rfl rfl)) rfl<|wk ?_;refine k_k rfl<|fun a F=>?_
  refine Ar F M Ci.k Bc rfl rfl (cs:=[iU ((D.key:Nat):Int),iB ((D.typ:Nat):Int),qT D.text,vS H D.mZ.length N]) rfl rfl tS tD rfl ?_;clear F M a;intro cD w a M F;obtain ⟨au,ay,rfl,b1,bu,bF⟩:=M.rS (k:=0) rfl;revert a;refine Ao<|?_
  refine eQ (Aw M)<|?_
  have Eb:Els Bp 4 ag [iU ((D.key:Nat):Int),iB ((D.typ:Nat):Int),qT D.text,vS H D.mZ.length N] [D]:=⟨[iU ((D.key:Nat):Int),iB ((D.typ:Nat):Int),qT D.text,vS H D.mZ.length N],[],rfl,rfl,⟨H,N,rfl,aq.1,aq.2.1,aq.2.2,(by have h_:=SMk44.bound;omega),SMk44⟩,rfl⟩;refine k_c rfl<|fun a F=>?_
  refine A4 F M (k:=2) (k2:=0) rfl rfl Ci.k Bc rfl rfl tD rfl rfl tX tO rfl ?_;clear F M a;intro cE w a M F;have a3:=Els.append Ei Eb;obtain ⟨aj,al,rfl,b3,bv,bG⟩:=M.rS (k:=2) rfl;revert a;refine Ao<|?_
  replace M:=z_M M;intro a F;refine ⟨Keep ag [rR (vS au 1 (ay)) 1 ([iU ((D.key:Nat):Int),iB ((D.typ:Nat):Int),qT D.text,vS H D.mZ.length N]) 26 4,rB aw [iU ((D.key:Nat):Int),iB ((D.typ:Nat):Int),qT D.text,vS H D.mZ.length N] 26,rR (vS aj (ys.length+1) (al)) (ys.length+1) (T++([iU ((D.key:Nat):Int),iB ((D.typ:Nat):Int),qT D.text,vS H D.mZ.length N])) 26 4,rR (vS ao (xs.length+1) (co)) (xs.length+1) (V) 65 5],M.keep (Gle.refl _) (by simp),?_⟩;obtain ⟨bV,_,aU,bK,_,bO,rfl⟩:=M.atRowK (k:=3) rfl tD Eo (Lr:=[rR (vS au 1 (ay)) 1 ([iU ((D.key:Nat):Int),iB ((D.typ:Nat):Int),qT D.text,vS H D.mZ.length N]) 26 4,rB aw [iU ((D.key:Nat):Int),iB ((D.typ:Nat):Int),qT D.text,vS H D.mZ.length N] 26,rR (vS aj (ys.length+1) (al)) (ys.length+1) (T++([iU ((D.key:Nat):Int),iB ((D.typ:Nat):Int),qT D.text,vS H D.mZ.length N])) 26 4,rR (vS ao (xs.length+1) (co)) (xs.length+1) (V) 65 5]) (k':=3) rfl (Mk (xs:=xs));revert a;refine wk ?_;refine k_c rfl<|fun a F=>?_
  refine Jn F M Ci rfl (k:=3) rfl Eo aU (Mk (xs:=xs)) (f:=4) tD rfl rfl rfl rfl (X':=(x,some (Value.slice aj (ys.length+1) (al)))) (Agi) ?_;clear F M a;intro an w a M Eu54 F;revert a;refine Ao<|?_
  replace M:=z_M M;intro a F;refine ⟨Keep ag [rR (vS au 1 (ay)) 1 ([iU ((D.key:Nat):Int),iB ((D.typ:Nat):Int),qT D.text,vS H D.mZ.length N]) 26 4,rB aw [iU ((D.key:Nat):Int),iB ((D.typ:Nat):Int),qT D.text,vS H D.mZ.length N] 26,rR (vS aj (ys.length+1) (al)) (ys.length+1) (T++([iU ((D.key:Nat):Int),iB ((D.typ:Nat):Int),qT D.text,vS H D.mZ.length N])) 26 4,rR (vS ao (xs.length+1) (co)) (xs.length+1) (an) 65 5],M.keep (Gle.refl _) (by simp),?_⟩;revert a;refine wk ?_;intro a F;rw [Aff] at Eu54;obtain ⟨a1,a0⟩:=Azg hq (aN (Q8 tA));have bf:=Hv hq
  rcases Nat.lt_or_ge 1 O with aH | aH
  ·skip
   revert a;refine wk ?_;have bk:(((O:Nat):Int) - 1:Int)=((O - 1:Nat):Int):=by omega
   intro a F;rw [bk] at F;revert a;refine wk ?_;intro a F
   exact ⟨_,(by have az:=Hv (c:=c) hq;omega),(xC c [(10:UInt8)]).2.1,(O - 1),(S+1),(aj),(ys.length+1),(al),T++([iU ((D.key:Nat):Int),iB ((D.typ:Nat):Int),qT D.text,vS H D.mZ.length N]),(ao),(xs.length+1),(co),an,rfl,ag,(U.trans aa),fU,(M.wn (cN (.cons _ (cC (.cons_cons _ (sR _)))))),Or.inr ⟨xs,x,sz,ys++[D],hB.more a0 a1 a3 rfl Eu54 tM tM⟩⟩
  obtain ⟨aL,aS,aY,bb,ac,aG,a5,M⟩:=M.fZ Ac (k:=2) rfl a3 tD;clear aG aY bb;replace hB:=hB.mono ac;replace Eu54:=Eu54.mono Jq ac;rw [aL] at a5 Eu54;have M:=M.nilrow 26 4;replace M:=z_M M;revert a;refine wk ?_;have bl:(((O:Nat):Int) - 1:Int)=((O - 1:Nat):Int):=by omega
  intro a F;rw [bl] at F;revert a;refine wk ?_;intro a F
  exact ⟨_,(by have az:=Hv (c:=c) hq;omega),(xC c [(10:UInt8)]).2.1,(O - 1),(S+1),(none),(0),(0),[],(ao),(xs.length+1),(co),an,rfl,aS,((U.trans aa).trans ac),fU,(M.wn (cC (cN (.cons _ (cC (sR _)))))),Or.inl ⟨tM,_,hB.last a0 a1 a5 Eu54 tM tM⟩⟩
 intro c2;intro a F
 omega
theorem Aga {w0 w:World} {G:Av} {L:List Res} (M:Mem w0 G L w) (HG:Globs 0 1 2 3 G) {s:List UInt8} (hs:s.length≤9223372036854775807):Calls pG 8 #[qT s] w (Ret w0 G L fun G' v=>v=vB true):=by
 refine Ap (vs:=[_]) Tryz.func8 rfl (n:=64) rfl rfl<|wk ?_;refine qD rfl ?_ ?_
 ·intro h1;refine Bt<|?_
  refine C3 K1 rfl rfl (Da M HG)<|?_;clear M;rintro _ am w Y M rfl
  replace HG:=HG.mono Y;refine wk ?_;refine Af rfl rfl<|?_
  exact ⟨_,Y,M,rfl⟩
 intro h3;refine wk ?_;refine C3 ent35 rfl rfl (Acj (s:=(s)) M tM)<|?_;clear M;rintro _ an w N M ⟨aq,au,E,a0,aa,rfl,Sq4,U⟩
 replace HG:=HG.mono N;refine wk ?_;refine C3 Xz rfl rfl (Hm (s:=(s)) M HG tM)<|?_;clear M;rintro _ ao w H M ⟨ar,a2,a1,av,rfl,Sq5,ag⟩
 replace HG:=HG.mono H;replace Sq4:=Sq4.mono Aa H;have ae:=ag.uniq U;simp only [Prod.mk.injEq] at ae;obtain ⟨O,S,T⟩:=ae;have O:=O.symm;have S:=S.symm;have T:=T.symm;subst O;subst S;subst T;refine wk ?_;refine A2 A0i rfl rfl (Km (xs:=E) (ys:=E) M Sq5 Sq4)<|?_;clear M;rintro _ w M rfl
 refine wk ?_;refine Sc rfl (decide_eq_false (by rw [if_pos rfl];decide))<|wk ?_;refine Ag rfl ?_ ?_
 ·intro ab;have h6:=dF (Ad ab);have aw:(decide (aa=0))=false:=(Ad ab);refine Ca<|?_
  have az:E.length=0:=by rw [pf_bad U tA];rfl
  refine wk ?_;have ay:(decide (((E.length:Nat):Int)=0))=true:=(decide_eq_true (by (first | omega | rfl | exact if_pos rfl | exact V.2 | decide)));refine wk ?_;refine C3 K1 rfl rfl (Da M HG)<|?_;clear M;rintro _ ap w I M rfl
  replace HG:=HG.mono I;replace Sq5:=Sq5.mono Aa I;refine wk ?_;refine Af rfl rfl<|?_
  exact ⟨_,((N.trans H).trans I),M,rfl⟩
 intro ac;have h9:=dT (Ae ac);have ax:(decide (aa=0))=true:=(Ae ac);refine wk ?_;have V:=pf_text U tM;have al:=V.1;refine wk ?_;refine C3 Uv rfl rfl (H5 (ns:=E) M HG Sq5)<|?_;clear M;rintro _ ah w A M rfl
 replace HG:=HG.mono A;refine wk ?_;have aj:(decide (Dk E=0))=true:=(decide_eq_true (by (first | omega | rfl | exact if_pos rfl | exact V.2 | decide)));refine wk ?_;have ak:(decide ((D2 E)=s))=true:=(decide_eq_true (by (first | omega | rfl | exact if_pos rfl | exact V.2 | decide)));refine wk ?_;refine C3 K1 rfl rfl (Da M HG)<|?_;clear M;rintro _ ai w D M rfl
 replace HG:=HG.mono D;refine wk ?_;refine Af rfl rfl<|?_
 exact ⟨_,(((N.trans H).trans A).trans D),M,rfl⟩
open Go Go.Y Go.RowKit
section
variable {P:Program} {w:World} {t:TypeId} {p:String} {af:Array Edge} {ρ:Operand→Value} {dd:Option Tmp} {g:Option (Nat × Bool)}
theorem Awm {x y:Operand} {ty yt:TypeId} {k N:IntKind} {a b:Int} {n m:Nat} (H:ρ x=vI k a) (I:ρ y=vI N b) (A:a=(n:Int)) (D:b=(m:Int)) (E:m≤k.bits) :
  (execOp ρ ⟨dd,.binOp .shr ty x y yt,t,p,af,g⟩).run P w=.ok (.value (vI k ((n / 2 ^ m:Nat):Int))) w:=by
 subst A;have:=Awl (P:=P) (w:=w) (t:=t) (p:=p) (af:=af) (dd:=dd) (g:=g) (ty:=ty) (yt:=yt) H I D E;rw [this,Int.natCast_ediv,Int.natCast_pow];rfl
theorem Awq {x y:Operand} {ty yt:TypeId} {n:Nat} (H:ρ x=iB ((n:Nat):Int)) (I:ρ y=iB 1) (h:n < 256) :
  (execOp ρ ⟨dd,.binOp .and ty x y yt,t,p,af,g⟩).run P w=.ok (.value (iB ((n % 2:Nat):Int))) w:=by
 have E:(BitVec.ofInt IntKind.u8.bits ((n:Nat):Int) &&& BitVec.ofInt IntKind.u8.bits 1).toNat=n % 2:=by
  rw [BitVec.toNat_and];simp only [BitVec.toNat_ofInt,IntKind.bits];have D:(((n:Nat):Int) % ((2 ^ 8:Nat):Int)).toNat=n:=by omega
  rw [D]
  exact Nat.and_one_is_mod n
 have A:IntKind.u8.wrap ((n % 2:Nat):Int)=((n % 2:Nat):Int):=K7 (by constructor;show (0:Int)≤_;omega;show _≤(255:Int);omega);simp only [execOp,H,I,eqGuard,binOp,Op.intArith,Op.intBits,E,A]
 simp [A]
end
structure Q4 where
 a:Nat
 b:Nat
 c:Nat
 d:Nat
def Akh:Rd Q4:=fun _ cs q=>cs=[iB ((q.a:Nat):Int),iB ((q.b:Nat):Int),iB ((q.c:Nat):Int),iB ((q.d:Nat):Int)]∧q.a < 256∧q.b < 256∧q.c < 256∧q.d < 256
theorem Bq:Hx Akh:=fun _ _ _ _ _ h=>h
def TXT:List (List UInt8):=[[],[97],[114,111,119],[116,119,111,32,119,111,114,100,115],[32,32],[126,33,45,44],[97,32,108,111,110,103,101,114,32,116,101,120,116,32,111,102,32,116,104,105,115,32,107,105,110,100],[57]]
def MKS:List (List UInt8):=[[97],[98,50],[107,101,121]]
def Rg (i:Nat):List UInt8:=TXT.getD i []
def mkT (i:Nat):List UInt8:=MKS.getD i []
theorem Avu {i:Nat} (h:i < 8):TXT[i]?=some (Rg i):=by
 rcases (show i=0∨i=1∨i=2∨i=3∨i=4∨i=5∨i=6∨i=7 by omega) with rfl | rfl | rfl | rfl | rfl | rfl | rfl | rfl <;> rfl
theorem mk_at {i:Nat} (h:i < 3):MKS[i]?=some (mkT i):=by
 rcases (show i=0∨i=1∨i=2 by omega) with rfl | rfl | rfl <;> rfl
theorem txt_ok {i:Nat} (h:i < 8):Str (Rg i):=by
 rcases (show i=0∨i=1∨i=2∨i=3∨i=4∨i=5∨i=6∨i=7 by omega) with rfl | rfl | rfl | rfl | rfl | rfl | rfl | rfl <;> decide
theorem Adi {i:Nat} (h:i < 3):C2 (mkT i):=by
 rcases (show i=0∨i=1∨i=2 by omega) with rfl | rfl | rfl <;> decide
def mkU (d:Nat):Nat→List (List UInt8)
 | 0=>[]
 | i+1=>mkU d i++(if d / 2 ^ i % 2=0 then [] else [mkT ((i+d / 8) % 3)])
theorem Adg {d i:Nat} (h:d / 2 ^ i % 2=0):mkU d (i+1)=mkU d i:=by rw [mkU,if_pos h,List.append_nil]
theorem Li {d i:Nat} (h:¬ d / 2 ^ i % 2=0):mkU d (i+1)=mkU d i++[mkT ((i+d / 8) % 3)]:=by rw [mkU,if_neg h]
theorem Adh (d:Nat):∀ i,(mkU d i).length≤i
 | 0=>Nat.le_refl _
 | i+1=>by
  have:=Adh d i
  by_cases h:d / 2 ^ i % 2=0
  ·rw [Adg h];omega
  ·rw [Li h,lA];simp only [lC,lN];omega
theorem Adf (d:Nat):∀ i,∀ s∈mkU d i,C2 s
 | 0,s,h=>by cases h
 | i+1,s,hs=>by
  by_cases h:d / 2 ^ i % 2=0
  ·rw [Adg h] at hs;exact Adf d i s hs
  ·rw [Li h] at hs
   rcases List.mem_append.1 hs with hs | hs
   ·exact Adf d i s hs
   ·rw [List.mem_singleton.1 hs];exact Adi (Nat.mod_lt _ tD)
def mkA (d:Nat):List (List UInt8):=if 240≤d then mkU d 3++[[97],[97]] else mkU d 3
theorem Aoj (d:Nat):(mkA d).length≤5:=by
 have:=Adh d 3;unfold mkA;split
 ·rw [lA];simp only [lC,lN];omega
 omega
def Gq (q:Q4):ItemD:=⟨1+q.a % 60,q.b % 3,Rg (q.c % 8),mkA q.d⟩
theorem Axl (q:Q4):ItemOk 3 (Gq q):=by
 refine ⟨?_,?_,txt_ok (Nat.mod_lt _ tD),?_,?_⟩
 ·show 1+q.a % 60≠0;omega
 ·show ((q.b % 3:Nat):Int) < 3;omega
 ·have:=Aoj q.d;show (mkA q.d).length≤8;omega
 show ∀ s∈mkA q.d,C2 s
 intro s A;unfold mkA at A
 split at A
 ·rcases List.mem_append.1 A with A | A
  ·exact Adf _ _ _ A
  simp only [mC,List.not_mem_nil,or_false,or_self] at A;rw [A];decide
 exact Adf _ _ _ A
open Classical in
noncomputable def Ama (out:List ItemD) (x:ItemD):List ItemD:=if Kx out x.key then out else out++[x]
theorem Ael {out:List ItemD} {x:ItemD} (h:Kx out x.key):Ama out x=out:=by unfold Ama;rw [if_pos h]
theorem Aek {out:List ItemD} {x:ItemD} (h:¬ Kx out x.key):Ama out x=out++[x]:=by unfold Ama;rw [if_neg h]
noncomputable def ofI (qs:List Q4):Nat→List ItemD
 | 0=>[]
 | i+1=>match qs[i]? with
  | some q=>Ama (ofI qs i) (Gq q)
  | none=>ofI qs i
theorem Rw {qs:List Q4} {i:Nat} {q:Q4} (h:qs[i]?=some q):ofI qs (i+1)=Ama (ofI qs i) (Gq q):=by rw [ofI,h]
theorem Acz (qs:List Q4):∀ i,(ofI qs i).length≤i
 | 0=>Nat.le_refl _
 | i+1=>by
  have:=Acz qs i;rw [ofI]
  split
  ·unfold Ama;split
   ·omega
   ·rw [lA];simp only [lC,lN];omega
  ·omega
theorem Axq (qs:List Q4):∀ i,(∀ x∈ofI qs i,ItemOk 3 x∧x.mZ.length≤5)∧((ofI qs i).map ItemD.key).Nodup
 | 0=>⟨fun x h=>(by cases h),List.nodup_nil⟩
 | i+1=>by
  obtain ⟨h1,h2⟩:=Axq qs i;rw [ofI]
  split
  ·rename_i q _
   by_cases h:Kx (ofI qs i) (Gq q).key
   ·rw [Ael h];exact ⟨h1,h2⟩
   ·rw [Aek h];refine ⟨fun x hx=>?_,?_⟩
    ·rcases List.mem_append.1 hx with hx | hx
     ·exact h1 x hx
     ·rw [List.mem_singleton.1 hx];exact ⟨Axl q,Aoj q.d⟩
    ·rw [List.map_append,List.map_singleton,List.nodup_append];refine ⟨h2,by simp,?_⟩;intro a ha b hb;rw [List.mem_singleton.1 hb];rintro rfl
     exact h (Aaq.2 ha)
  ·exact ⟨h1,h2⟩
def kRow:T.PT:=.mk 1 [114,111,119] [] [⟨[110],3,[]⟩,⟨[116,101,120,116],1,[]⟩] [] [.mk 3 [] [] [] [] []]
def kHead:T.PT:=.mk 1 [104,101,97,100] [104] [⟨[105,100],2,[]⟩] [] [.mk 2 [] [] [] [35] [],.mk 4 [] [] [] [] []]
def kTags:T.PT:=.mk 1 [114,111,119] [] [] [] [.mk 1 [98] [98,50] [] [] [.mk 3 [] [] [] [] []],.mk 5 [116,97,103] [] [⟨[111,102],2,[]⟩] [] []]
def Tj (n:Nat):List KindD:=[⟨kRow,10+((n % 7:Nat):Int),false,((n % 4:Nat):Int)⟩,⟨kHead,6+((n % 3:Nat):Int),true,((n / 4 % 3:Nat):Int)⟩,⟨kTags,20,decide (n % 16=15),((n / 8 % 3:Nat):Int)⟩]
def Ej (n:Nat):RulesD:=⟨Tj n,12⟩
theorem kRow_ok:T.ValidP kRow:=by decide
theorem Aza:T.ValidP kHead:=by decide
theorem Ayz:T.ValidP kTags:=by decide
theorem N8 (n:Nat):Dd (Ej n):=by
 refine ⟨⟨⟨show (1:Nat)≤3 by decide,show (3:Nat)≤8 by decide⟩,by show (1:Int)≤12∧(12:Int)≤64;decide⟩,fun k A=>?_⟩;have A:k∈Tj n:=A;simp only [Tj,mC,List.not_mem_nil,or_false] at A
 rcases A with rfl | rfl | rfl
 ·exact ⟨by show (1:Int)≤10+_∧(10:Int)+_≤_;omega,kRow_ok⟩
 ·exact ⟨by show (1:Int)≤6+_∧(6:Int)+_≤_;omega,Aza⟩
 exact ⟨by show (1:Int)≤20∧(20:Int)≤_;decide,Ayz⟩
theorem Alx {n:Nat} {x:ItemD} (h:ItemOk 3 x):1≤Dt (Ej n) x∧Dt (Ej n) x≤20:=by
 obtain ⟨k,A⟩:∃ k,(Ej n).kZ[x.typ]?=some k:=Aq (by show x.typ < 3;have:=h.2.1;omega);rw [Jk A];have D:k∈Tj n:=mG A;simp only [Tj,mC,List.not_mem_nil,or_false] at D
 rcases D with rfl | rfl | rfl
 ·show (1:Int)≤10+_∧(10:Int)+_≤_;omega
 ·show (1:Int)≤6+_∧(6:Int)+_≤_;omega
 show (1:Int)≤20∧(20:Int)≤20;decide
def L0 (c:RulesD) (zs:List UInt8) (n:Nat) (x:ItemD):EntD:=match zs[n]? with
 | some z=>if 0 < z.toNat then ⟨x,1+((z.toNat % 40:Nat):Int),true⟩ else B8 c x
 | none=>B8 c x
theorem ent_yes {c:RulesD} {zs:List UInt8} {n:Nat} {x:ItemD} {z:UInt8} (h:zs[n]?=some z) (A:0 < z.toNat):L0 c zs n x=⟨x,1+((z.toNat % 40:Nat):Int),true⟩:=by unfold L0;rw [h];simp only [if_pos A]
theorem A0b {c:RulesD} {zs:List UInt8} {n:Nat} {x:ItemD} {z:UInt8} (h:zs[n]?=some z) (A:¬ 0 < z.toNat):L0 c zs n x=B8 c x:=by unfold L0;rw [h];simp only [if_neg A]
theorem Ahu {c:RulesD} {zs:List UInt8} {n:Nat} {x:ItemD} (h:zs.length≤n):L0 c zs n x=B8 c x:=by unfold L0;rw [List.getElem?_eq_none h]
theorem Ahv {c:RulesD} {zs:List UInt8} {n:Nat} {x:ItemD}:(L0 c zs n x).item=x:=by unfold L0;split;split <;> rfl;rfl
noncomputable def ofL (c:RulesD) (zs:List UInt8) (xs:List ItemD):Nat→List EntD
 | 0=>[]
 | k+1=>match xs[k]? with
  | some x=>if 0 < E7 c x ((0:Int)=1) then ofL c zs xs k else ofL c zs xs k++[L0 c zs (ofL c zs xs k).length x]
  | none=>ofL c zs xs k
theorem Axp {c:RulesD} {zs:List UInt8} {xs:List ItemD} {k:Nat} {x:ItemD} (h:xs[k]?=some x) (A:0 < E7 c x ((0:Int)=1)):ofL c zs xs (k+1)=ofL c zs xs k:=by rw [ofL,h];simp only [if_pos A]
theorem Pg {c:RulesD} {zs:List UInt8} {xs:List ItemD} {k:Nat} {x:ItemD} (h:xs[k]?=some x) (A:¬ 0 < E7 c x ((0:Int)=1)):ofL c zs xs (k+1)=ofL c zs xs k++[L0 c zs (ofL c zs xs k).length x]:=by rw [ofL,h];simp only [if_neg A]
theorem U5 (c:RulesD) (zs:List UInt8) (xs:List ItemD):∀ k,(ofL c zs xs k).length≤k
 | 0=>Nat.le_refl _
 | k+1=>by
  have:=U5 c zs xs k;rw [ofL]
  split
  ·split
   ·omega
   ·rw [lA];simp only [lC,lN];omega
  ·omega
theorem Agf (c:RulesD) (zs:List UInt8) (xs:List ItemD):∀ k,(C6 (ofL c zs xs k)).Sublist ((xs.take k).map ItemD.key)
 | 0=>by simp [ofL,C6]
 | k+1=>by
  have h1:=Agf c zs xs k;rw [ofL,List.take_add_one]
  split
  ·rename_i x hx
   rw [hx,List.map_append]
   split
   ·exact h1.trans (List.sublist_append_left _ _)
   ·rw [C6,List.map_append,List.map_singleton,Ahv]
    exact List.Sublist.append h1 (sR _)
  ·rename_i hx
   rw [hx];simpa using h1
theorem Aoe (n:Nat) (zs:List UInt8) (xs:List ItemD) (hx:∀ x∈xs,ItemOk 3 x):∀ k,(∀ y∈ofL (Ej n) zs xs k,Sm (Ej n) y∧y.size≤40)∧Hj (ofL (Ej n) zs xs k)≤40 * k
 | 0=>⟨fun y h=>(by cases h),by simp [ofL,Hj]⟩
 | k+1=>by
  obtain ⟨h1,h2⟩:=Aoe n zs xs hx k;rw [ofL]
  split
  ·rename_i x hxk
   have ho:=hx x (mG hxk)
   split
   ·exact ⟨h1,tM⟩
   ·rename_i h3
    have h4:E7 (Ej n) x ((0:Int)=1)=0:=by have:=Xq (c:=Ej n) (x:=x) (seen:=(0:Int)=1);omega
    have h5:=Fj.1 h4;have hb:=Alx (n:=n) ho;have he:Sm (Ej n) (L0 (Ej n) zs (ofL (Ej n) zs xs k).length x)∧(1≤(L0 (Ej n) zs (ofL (Ej n) zs xs k).length x).size∧(L0 (Ej n) zs (ofL (Ej n) zs xs k).length x).size≤40):=by
     refine ⟨⟨by rw [Ahv];exact ⟨h5.1,h5.2.2⟩,?_⟩,?_⟩
     ·unfold Jh L0
      split
      ·split
       ·exact ⟨⟨by show (1:Int)≤1+_;omega,by show (1:Int)+_≤_;omega⟩,Or.inl rfl⟩
       ·exact ⟨⟨hb.1,by show Dt _ _≤_;omega⟩,Or.inr rfl⟩
      ·exact ⟨⟨hb.1,by show Dt _ _≤_;omega⟩,Or.inr rfl⟩
     ·unfold L0
      split
      ·split
       ·show (1:Int)≤1+_∧(1:Int)+_≤40;omega
       ·exact ⟨hb.1,by show Dt _ _≤_;omega⟩
      ·exact ⟨hb.1,by show Dt _ _≤_;omega⟩
    refine ⟨fun y hy=>?_,?_⟩
    ·rcases List.mem_append.1 hy with hy | hy
     ·exact h1 y hy
     ·rw [List.mem_singleton.1 hy];exact ⟨he.1,he.2.2⟩
    ·rw [Il];simp only [Hj];have:=he.2;omega
  ·exact ⟨h1,tM⟩
theorem Ars (n:Nat) (zs:List UInt8) {xs:List ItemD} (H:∀ x∈xs,ItemOk 3 x) (D:(xs.map ItemD.key).Nodup) (O:xs.length≤12) {k:Nat} (E:k≤12):Bh (Ej n) (ofL (Ej n) zs xs k)=0:=by
 obtain ⟨A,N⟩:=Aoe n zs xs H k;refine G8.2 ⟨N8 n,by have:=U5 (Ej n) zs xs k;omega,fun y I=>(A y I).1,?_,Tc.2 tM⟩
 exact (Agf (Ej n) zs xs k).nodup (List.Nodup.sublist (List.Sublist.map _ (List.take_sublist _ _)) D)
theorem Wu {w0 w:World} {G:Av} {L:List Res} (M:Mem w0 G L w) {q:Q4} (hq:q.a < 256∧q.b < 256∧q.c < 256∧q.d < 256):Calls pG 60 #[.agg #[iB ((q.a:Nat):Int),iB ((q.b:Nat):Int),iB ((q.c:Nat):Int),iB ((q.d:Nat):Int)]] w (Ret w0 G L fun G' v=>∃ (ma:Option Addr) (mc:Nat),v=.agg #[iU (((Gq q).key:Nat):Int),iB (((Gq q).typ:Nat):Int),qT (Gq q).text,vS ma (Gq q).mZ.length mc]∧Aj Cr 1 G' (vS ma (Gq q).mZ.length mc) (Gq q).mZ):=by
 obtain ⟨bZ,ca,cb,cc⟩:=id hq;refine Ap (vs:=[_]) Tryz.func60 rfl (n:=54) rfl rfl<|?_
 refine Bt<|?_
 refine Ch M rfl rfl rfl<|?_;clear M;intro H w M
 refine B0 M Bc rfl rfl<|?_;clear M;intro b2 w M
 refine Ca<|?_
 refine fun a F=>I6 (fun a' w'=>∃ (D:Nat),Fits 54 a' [(1,pP H),(2,pP b2),(3,pP D)]∧Mem w0 G (rB D [iU ((1+q.a % 60:Nat):Int),iB ((q.b % 3:Nat):Int),qT (Rg (q.c % 8)),sN] 26::rB b2 [iU 0,iB 0,qT [],sN] 26::rB H [iB ((q.a:Nat):Int),iB ((q.b:Nat):Int),iB ((q.c:Nat):Int),iB ((q.d:Nat):Int)] 39::L) w') ?_ ?_
 ·skip
  refine Ik (.run 0 (.run 1 (.run 2 (.run 3 (.run 4 (.run 5 (.run 6 (.run 7 (.run 9 (.run 10 (.run 11 (.act 8 (.run 12 (.run 13 (.run 14 (.act 15 (.act 16 .fin .no) .no)))) (.act 15 (.act 8 (.run 12 (.run 13 (.run 14 (.act 16 .fin .no)))) .no) .no))))))))))))) (Keep G [rB H [iB ((q.a:Nat):Int),iB ((q.b:Nat):Int),iB ((q.c:Nat):Int),iB ((q.d:Nat):Int)] 39]) rfl kR kF (Aw (M.drew _)) ?_;replace M:=M.drew (w.drawn+1);revert a;refine t_r (fun a F w M=>Br (j:=0) Hd.k Cp rfl (F.ev rfl) (F.ev rfl) tR tD) rfl<|wk ?_;refine t_r (fun a F w M=>C5 (F.ev rfl) (F.ev rfl) tM tM) rfl<|t_r (fun a F w M=>Bb Gh.k ⟨_,by rw [Be Cp.k]⟩ (F.ev rfl) (Gn tM tM)) rfl<|t_r (fun a F w M=>Fx (F.ev rfl) (F.ev rfl) (Gn tM tM)) rfl<|t_r (fun a F w M=>Br (j:=1) Hd.k Cp rfl (F.ev rfl) (F.ev rfl) tR tD) rfl<|wk ?_;refine t_r (fun a F w M=>C5 (F.ev rfl) (F.ev rfl) tM tM) rfl<|t_r (fun a F w M=>Br (j:=2) Hd.k Cp rfl (F.ev rfl) (F.ev rfl) tR tD) rfl<|wk ?_;refine t_r (fun a F w M=>C5 (F.ev rfl) (F.ev rfl) tM tM) rfl<|fun a F=>A0 ?_ rfl ?_
  ·skip
   refine Bw F M Dx.k Dg (ps:=[(0,qT []),(1,qT [97]),(2,qT [114,111,119]),(3,qT [116,119,111,32,119,111,114,100,115]),(4,qT [32,32]),(5,qT [126,33,45,44]),(6,qT [97,32,108,111,110,103,101,114,32,116,101,120,116,32,111,102,32,116,104,105,115,32,107,105,110,100]),(7,qT [57])]) (cs:=[[qT []],[qT [97]],[qT [114,111,119]],[qT [116,119,111,32,119,111,114,100,115]],[qT [32,32]],[qT [126,33,45,44]],[qT [97,32,108,111,110,103,101,114,32,116,101,120,116,32,111,102,32,116,104,105,115,32,107,105,110,100]],[qT [57]]]) (fl:=[qT [],qT [97],qT [114,111,119],qT [116,119,111,32,119,111,114,100,115],qT [32,32],qT [126,33,45,44],qT [97,32,108,111,110,103,101,114,32,116,101,120,116,32,111,102,32,116,104,105,115,32,107,105,110,100],qT [57]]) rfl rfl (by simp [Gt,Value.cells]) (by simp [ti9]) rfl tS tD tD rfl ?_;clear F M a;intro v4 w a M F;obtain ⟨aC,aK,rfl,br,bq,bO⟩:=M.rS (k:=0) rfl;revert a;refine Ao<|?_
   replace M:=z_M M;replace M:=z_M M;refine eK (C':=Keep G [rR (vS aC 8 (aK)) 8 ([qT [],qT [97],qT [114,111,119],qT [116,119,111,32,119,111,114,100,115],qT [32,32],qT [126,33,45,44],qT [97,32,108,111,110,103,101,114,32,116,101,120,116,32,111,102,32,116,104,105,115,32,107,105,110,100],qT [57]]) 9 1,rB H [iB ((q.a:Nat):Int),iB ((q.b:Nat):Int),iB ((q.c:Nat):Int),iB ((q.d:Nat):Int)] 39]) (Aw M) (fun w h=>h.mono (Gle.refl _) (by simp))<|?_
   have bp:Els Cr 1 G [qT [],qT [97],qT [114,111,119],qT [116,119,111,32,119,111,114,100,115],qT [32,32],qT [126,33,45,44],qT [97,32,108,111,110,103,101,114,32,116,101,120,116,32,111,102,32,116,104,105,115,32,107,105,110,100],qT [57]] TXT:=Hp TXT (by intro y hy;simp only [TXT,mC,List.not_mem_nil,or_false] at hy;rcases hy with rfl | rfl | rfl | rfl | rfl | rfl | rfl | rfl <;> decide);obtain ⟨bR,_,bQ,bP,_,bo,⟨rfl,bC⟩⟩:=M.atRowK (k:=0) rfl tD bp (Lr:=[rR (vS aC 8 (aK)) 8 ([qT [],qT [97],qT [114,111,119],qT [116,119,111,32,119,111,114,100,115],qT [32,32],qT [126,33,45,44],qT [97,32,108,111,110,103,101,114,32,116,101,120,116,32,111,102,32,116,104,105,115,32,107,105,110,100],qT [57]]) 9 1,rB H [iB ((q.a:Nat):Int),iB ((q.b:Nat):Int),iB ((q.c:Nat):Int),iB ((q.d:Nat):Int)] 39]) (k':=0) rfl (Avu (i:=q.c % 8) tM);refine wk ?_;refine t_r (fun a F w M=>Cw (agf Dg rfl) (F.ev rfl) (Yh (bo w M) 0 tM rfl)) rfl<|t_r (fun a F w M=>Am (cs:=[iU (1+(((q.a:Nat):Int) % 60)),iB (((q.b:Nat):Int) % 3),qT ((Rg (q.c % 8))),sN]) Bc.k rfl Bc (F.evp rfl) rfl) rfl<|fun a F=>A0 ?_ rfl Bl
   revert a;refine B0 M Bc rfl rfl<|?_;clear M;intro b7 w M
   refine Ao<|?_
   replace M:=z_M M;refine eQ (Aw M)<|fun a F=>A0 ?_ rfl Bl
   refine Bf F M Bc 0<|sZ ?_;clear F M a;intro w M;refine Ao<|?_
   replace M:=z_M M;refine eQ (Aw M)<|?_
   refine Mc<|?_
   replace M:=z_M M;intro a F;rw [show (1+(((q.a:Nat):Int) % 60):Int)=((1+q.a % 60:Nat):Int) by omega,show (((q.b:Nat):Int) % 3:Int)=((q.b % 3:Nat):Int) by omega] at M
   exact ⟨b7,fU,M.wn tW⟩
  refine A0 ?_ rfl ?_
  ·skip
   revert a;refine B0 M Bc rfl rfl<|?_;clear M;intro b9 w M
   refine Ao<|?_
   replace M:=z_M M;refine eK (C':=Keep G [rB H [iB ((q.a:Nat):Int),iB ((q.b:Nat):Int),iB ((q.c:Nat):Int),iB ((q.d:Nat):Int)] 39]) (Aw M) (fun w h=>h.mono (Gle.refl _) (by simp))<|fun a F=>A0 ?_ rfl Bl
   refine Bw F M Dx.k Dg (ps:=[(0,qT []),(1,qT [97]),(2,qT [114,111,119]),(3,qT [116,119,111,32,119,111,114,100,115]),(4,qT [32,32]),(5,qT [126,33,45,44]),(6,qT [97,32,108,111,110,103,101,114,32,116,101,120,116,32,111,102,32,116,104,105,115,32,107,105,110,100]),(7,qT [57])]) (cs:=[[qT []],[qT [97]],[qT [114,111,119]],[qT [116,119,111,32,119,111,114,100,115]],[qT [32,32]],[qT [126,33,45,44]],[qT [97,32,108,111,110,103,101,114,32,116,101,120,116,32,111,102,32,116,104,105,115,32,107,105,110,100]],[qT [57]]]) (fl:=[qT [],qT [97],qT [114,111,119],qT [116,119,111,32,119,111,114,100,115],qT [32,32],qT [126,33,45,44],qT [97,32,108,111,110,103,101,114,32,116,101,120,116,32,111,102,32,116,104,105,115,32,107,105,110,100],qT [57]]) rfl rfl (by simp [Gt,Value.cells]) (by simp [ti9]) rfl tS tD tD rfl ?_;clear F M a;intro cd w a M F;obtain ⟨ai,al,rfl,aY,aN,bt⟩:=M.rS (k:=0) rfl;revert a;refine Ao<|?_
   replace M:=z_M M;replace M:=z_M M;refine eK (C':=Keep G [rR (vS ai 8 (al)) 8 ([qT [],qT [97],qT [114,111,119],qT [116,119,111,32,119,111,114,100,115],qT [32,32],qT [126,33,45,44],qT [97,32,108,111,110,103,101,114,32,116,101,120,116,32,111,102,32,116,104,105,115,32,107,105,110,100],qT [57]]) 9 1,rB H [iB ((q.a:Nat):Int),iB ((q.b:Nat):Int),iB ((q.c:Nat):Int),iB ((q.d:Nat):Int)] 39]) (Aw M) (fun w h=>h.mono (Gle.refl _) (by simp))<|?_
   have ay:Els Cr 1 G [qT [],qT [97],qT [114,111,119],qT [116,119,111,32,119,111,114,100,115],qT [32,32],qT [126,33,45,44],qT [97,32,108,111,110,103,101,114,32,116,101,120,116,32,111,102,32,116,104,105,115,32,107,105,110,100],qT [57]] TXT:=Hp TXT (by intro y hy;simp only [TXT,mC,List.not_mem_nil,or_false] at hy;rcases hy with rfl | rfl | rfl | rfl | rfl | rfl | rfl | rfl <;> decide);obtain ⟨bJ,_,bD,b8,_,av,⟨rfl,bl⟩⟩:=M.atRowK (k:=0) rfl tD ay (Lr:=[rR (vS ai 8 (al)) 8 ([qT [],qT [97],qT [114,111,119],qT [116,119,111,32,119,111,114,100,115],qT [32,32],qT [126,33,45,44],qT [97,32,108,111,110,103,101,114,32,116,101,120,116,32,111,102,32,116,104,105,115,32,107,105,110,100],qT [57]]) 9 1,rB H [iB ((q.a:Nat):Int),iB ((q.b:Nat):Int),iB ((q.c:Nat):Int),iB ((q.d:Nat):Int)] 39]) (k':=0) rfl (Avu (i:=q.c % 8) tM);refine wk ?_;refine t_r (fun a F w M=>Cw (agf Dg rfl) (F.ev rfl) (Yh (av w M) 0 tM rfl)) rfl<|t_r (fun a F w M=>Am (cs:=[iU (1+(((q.a:Nat):Int) % 60)),iB (((q.b:Nat):Int) % 3),qT ((Rg (q.c % 8))),sN]) Bc.k rfl Bc (F.evp rfl) rfl) rfl<|fun a F=>A0 ?_ rfl Bl
   refine Bf F M Bc 1<|sZ ?_;clear F M a;intro w M;refine Ao<|?_
   replace M:=z_M M;refine eQ (Aw M)<|?_
   refine Mc<|?_
   replace M:=M.perm (Ah _ 1 _ rfl);replace M:=z_M M;intro a F;rw [show (1+(((q.a:Nat):Int) % 60):Int)=((1+q.a % 60:Nat):Int) by omega,show (((q.b:Nat):Int) % 3:Int)=((q.b % 3:Nat):Int) by omega] at M
   exact ⟨b9,fU,M.wn tW⟩
  exact Bl
 clear F M;rintro a w ⟨D,F,M⟩;revert a;refine wk ?_;have M:=M.nilrow 9 1;replace M:=z_M M;intro a F;refine Bd (fun m a' w'=>∃ (i:Nat),∃ (U:Option Addr),∃ (N:Nat),∃ (V:Nat),∃ (E:List Value),m=3 - i∧∃ A,Gle G A∧Fits 54 a' [(1,pP H),(2,pP b2),(3,pP D),(4,iI ((i:Nat):Int))]∧Mem w0 A (rR (vS U N V) (N) (E) 9 1::rB D [iU ((1+q.a % 60:Nat):Int),iB ((q.b % 3:Nat):Int),qT (Rg (q.c % 8)),vS U N V] 26::rB b2 [iU 0,iB 0,qT [],sN] 26::rB H [iB ((q.a:Nat):Int),iB ((q.b:Nat):Int),iB ((q.c:Nat):Int),iB ((q.d:Nat):Int)] 39::L) w'∧(i≤3)∧(Els Cr 1 A E (mkU q.d i))∧(N=(mkU q.d i).length)) _ ⟨0,none,0,0,[],rfl,G,Gle.refl _,fU,M,tM,Els.nil,rfl⟩ ?_;clear F M;rintro m a w ⟨i,U,N,V,E,rfl,A,I,F,M,hi,Er,ae⟩;revert a;refine Ca<|Ca<|?_
 have bY:=Adh q.d i;refine wk ?_;refine qD rfl ?_ ?_
 ·intro bS;refine wk ?_;refine Ak (fun a F=>Br (j:=3) Hd.k Cp rfl (F.ev rfl) (F.ev rfl) tR tD) rfl<|wk ?_;refine Ak (fun a F=>Awm (n:=q.d) (m:=i) (F.ev rfl) (F.ev rfl) tM tM (by show i≤8;omega)) rfl<|Ak (fun a F=>Awq (F.ev rfl) (F.ev rfl) (Nat.lt_of_le_of_lt (Nat.div_le_self _ _) hq.2.2.2)) rfl<|wk ?_;refine qD rfl ?_ ?_
  ·intro bT;intro a F;refine Ik (.run 0 (.run 3 (.run 4 (.run 5 (.run 6 (.run 7 (.run 8 (.run 9 (.act 1 (.act 2 (.run 10 (.run 11 (.act 12 (.act 13 (.run 14 (.act 15 .fin .no)) .no) .no))) .no) (.act 2 (.run 10 (.run 11 (.act 1 (.act 12 (.act 13 (.run 14 (.act 15 .fin .no)) .no) .no) (.act 12 (.act 1 (.act 13 (.run 14 (.act 15 .fin .no)) .no) .no) .no)))) .no)))))))))) (Keep A [rB H [iB ((q.a:Nat):Int),iB ((q.b:Nat):Int),iB ((q.c:Nat):Int),iB ((q.d:Nat):Int)] 39]) rfl kR kF (Aw (M.drew _)) ?_;replace M:=M.drew (w.drawn+1);revert a;refine wk ?_;refine t_r (fun a F w M=>Br (j:=3) Hd.k Cp rfl (F.ev rfl) (F.ev rfl) tR tD) rfl<|wk ?_;refine t_r (fun a F w M=>Iq (F.ev rfl) (F.ev rfl) tM tM (Ho tM tM)) rfl<|t_r (fun a F w M=>Bb Cj.k ⟨_,by rw [Be Cp.k]⟩ (F.ev rfl) (Bi tM tM)) rfl<|wk ?_;refine t_r (fun a F w M=>C5 (F.ev rfl) (F.ev rfl) tM tM) rfl<|fun a F=>A0 ?_ rfl ?_
   ·skip
    revert a;refine Ns Dx M 1 rfl rfl rfl rfl<|Ao<|?_
    change Mem w0 A (rR (vS U N V) (N) (E) 9 1::rB D [iU ((1+q.a % 60:Nat):Int),iB ((q.b % 3:Nat):Int),qT (Rg (q.c % 8)),vS U N V] 26::rB b2 [iU 0,iB 0,qT [],sN] 26::rB H [iB ((q.a:Nat):Int),iB ((q.b:Nat):Int),iB ((q.c:Nat):Int),iB ((q.d:Nat):Int)] 39::L) _ at M;refine eQ (Aw M)<|fun a F=>A0 ?_ rfl Bl
    refine Bw F M Dx.k Dg (ps:=[(0,qT [97]),(1,qT [98,50]),(2,qT [107,101,121])]) (cs:=[[qT [97]],[qT [98,50]],[qT [107,101,121]]]) (fl:=[qT [97],qT [98,50],qT [107,101,121]]) rfl rfl (by simp [Gt,Value.cells]) (by simp [ti9]) rfl tS tD tD rfl ?_;clear F M a;intro ce w a M F;obtain ⟨aj,am,rfl,aZ,aO,bu⟩:=M.rS (k:=0) rfl;revert a;refine Ao<|?_
    replace M:=z_M M;replace M:=z_M M;refine eK (C':=Keep A [rR (vS aj 3 (am)) 3 ([qT [97],qT [98,50],qT [107,101,121]]) 9 1,rB H [iB ((q.a:Nat):Int),iB ((q.b:Nat):Int),iB ((q.c:Nat):Int),iB ((q.d:Nat):Int)] 39]) (Aw M) (fun w h=>h.mono (Gle.refl _) (by simp))<|?_
    have az:Els Cr 1 A [qT [97],qT [98,50],qT [107,101,121]] MKS:=Hp MKS (by intro y hy;simp only [MKS,mC,List.not_mem_nil,or_false] at hy;rcases hy with rfl | rfl | rfl <;> decide);obtain ⟨bK,_,bF,bA,_,aw,⟨rfl,bm⟩⟩:=M.atRowK (k:=0) rfl tD az (Lr:=[rR (vS aj 3 (am)) 3 ([qT [97],qT [98,50],qT [107,101,121]]) 9 1,rB H [iB ((q.a:Nat):Int),iB ((q.b:Nat):Int),iB ((q.c:Nat):Int),iB ((q.d:Nat):Int)] 39]) (k':=0) rfl (mk_at (i:=(i+q.d / 8) % 3) (Nat.mod_lt _ tD));refine wk ?_;refine t_r (fun a F w M=>Cw (agf Dg rfl) (F.ev rfl) (Yh (aw w M) 0 tM rfl)) rfl<|fun a F=>A0 ?_ rfl Bl
    refine Ar F M Dx.k Dg rfl rfl (cs:=[qT ((mkT ((i+q.d / 8) % 3)))]) rfl rfl tS tD rfl ?_;clear F M a;intro cf w a M F;obtain ⟨bH,bM,rfl,ba,aP,bv⟩:=M.rS (k:=0) rfl;revert a;refine Ao<|?_
    replace M:=z_M M;refine eQ (Aw M)<|?_
    have Y:=Adi (i:=(i+q.d / 8) % 3) (Nat.mod_lt _ tD);have Eb:Els Cr 1 A [qT ((mkT ((i+q.d / 8) % 3)))] [mkT ((i+q.d / 8) % 3)]:=⟨[qT (mkT ((i+q.d / 8) % 3))],[],rfl,rfl,⟨rfl,by have:=Y.1.2;omega⟩,rfl⟩;intro a F;refine A0 ?_ rfl Bl;refine A4 F M (k:=2) (k2:=0) rfl rfl Dx.k Dg rfl rfl tD rfl rfl tX tO rfl ?_;clear F M a;intro cg w a M F;have a1:=Els.append Er Eb;obtain ⟨a7,aF,rfl,bb,aQ,bw⟩:=M.rS (k:=2) rfl;revert a;refine Ao<|?_
    replace M:=z_M M;refine eQ (Aw M)<|wk ?_;refine fun a F=>A0 ?_ rfl Bl;revert a;refine D0 Dx M 3 rfl rfl rfl rfl rfl rfl<|?_;clear M;intro w M
    refine Ao<|?_
    replace M:=z_M M;refine eQ (Aw M)<|wk ?_;intro a F
    exact ⟨_,tM,i+1,(a7),(N+1),(aF),E++([qT ((mkT ((i+q.d / 8) % 3)))]),rfl,A,I,fU,(M.wn tW),tM,by rw [Li tM];exact a1,by rw [Li tM,lA,← ae];rfl⟩
   refine A0 ?_ rfl ?_
   ·skip
    refine Bw F M Dx.k Dg (ps:=[(0,qT [97]),(1,qT [98,50]),(2,qT [107,101,121])]) (cs:=[[qT [97]],[qT [98,50]],[qT [107,101,121]]]) (fl:=[qT [97],qT [98,50],qT [107,101,121]]) rfl rfl (by simp [Gt,Value.cells]) (by simp [ti9]) rfl tS tD tD rfl ?_;clear F M a;intro ci w a M F;obtain ⟨S,T,rfl,be,aR,bx⟩:=M.rS (k:=0) rfl;revert a;refine Ao<|?_
    replace M:=z_M M;replace M:=z_M M;refine eK (C':=Keep A [rR (vS S 3 (T)) 3 ([qT [97],qT [98,50],qT [107,101,121]]) 9 1,rB H [iB ((q.a:Nat):Int),iB ((q.b:Nat):Int),iB ((q.c:Nat):Int),iB ((q.d:Nat):Int)] 39]) (Aw M) (fun w h=>h.mono (Gle.refl _) (by simp))<|?_
    have a0:Els Cr 1 A [qT [97],qT [98,50],qT [107,101,121]] MKS:=Hp MKS (by intro y hy;simp only [MKS,mC,List.not_mem_nil,or_false] at hy;rcases hy with rfl | rfl | rfl <;> decide);obtain ⟨bL,_,bG,bB,_,ax,⟨rfl,bn⟩⟩:=M.atRowK (k:=0) rfl tD a0 (Lr:=[rR (vS S 3 (T)) 3 ([qT [97],qT [98,50],qT [107,101,121]]) 9 1,rB H [iB ((q.a:Nat):Int),iB ((q.b:Nat):Int),iB ((q.c:Nat):Int),iB ((q.d:Nat):Int)] 39]) (k':=0) rfl (mk_at (i:=(i+q.d / 8) % 3) (Nat.mod_lt _ tD));refine wk ?_;refine t_r (fun a F w M=>Cw (agf Dg rfl) (F.ev rfl) (Yh (ax w M) 0 tM rfl)) rfl<|fun a F=>A0 ?_ rfl ?_
    ·skip
     revert a;refine Ns Dx M 2 rfl rfl rfl rfl<|Ao<|?_
     change Mem w0 A (rR (vS S 3 (T)) 3 ([qT [97],qT [98,50],qT [107,101,121]]) 9 1::rR (vS U N V) (N) (E) 9 1::rB D [iU ((1+q.a % 60:Nat):Int),iB ((q.b % 3:Nat):Int),qT (Rg (q.c % 8)),vS U N V] 26::rB b2 [iU 0,iB 0,qT [],sN] 26::rB H [iB ((q.a:Nat):Int),iB ((q.b:Nat):Int),iB ((q.c:Nat):Int),iB ((q.d:Nat):Int)] 39::L) _ at M;refine eQ (Aw M)<|fun a F=>A0 ?_ rfl Bl
     refine Ar F M Dx.k Dg rfl rfl (cs:=[qT ((mkT ((i+q.d / 8) % 3)))]) rfl rfl tS tD rfl ?_;clear F M a;intro cj w a M F;obtain ⟨bI,bN,rfl,bf,aS,bz⟩:=M.rS (k:=0) rfl;revert a;refine Ao<|?_
     replace M:=z_M M;refine eQ (Aw M)<|?_
     have Y:=Adi (i:=(i+q.d / 8) % 3) (Nat.mod_lt _ tD);have Eb:Els Cr 1 A [qT ((mkT ((i+q.d / 8) % 3)))] [mkT ((i+q.d / 8) % 3)]:=⟨[qT (mkT ((i+q.d / 8) % 3))],[],rfl,rfl,⟨rfl,by have:=Y.1.2;omega⟩,rfl⟩;intro a F;refine A0 ?_ rfl Bl;refine A4 F M (k:=2) (k2:=0) rfl rfl Dx.k Dg rfl rfl tD rfl rfl tX tO rfl ?_;clear F M a;intro ck w a M F;have a2:=Els.append Er Eb;obtain ⟨a8,aG,rfl,bg,aT,b0⟩:=M.rS (k:=2) rfl;revert a;refine Ao<|?_
     replace M:=z_M M;refine eQ (Aw M)<|wk ?_;refine fun a F=>A0 ?_ rfl Bl;revert a;refine D0 Dx M 3 rfl rfl rfl rfl rfl rfl<|?_;clear M;intro w M
     refine Ao<|?_
     replace M:=z_M M;refine eQ (Aw M)<|wk ?_;intro a F
     exact ⟨_,tM,i+1,(a8),(N+1),(aG),E++([qT ((mkT ((i+q.d / 8) % 3)))]),rfl,A,I,fU,(M.wn tW),tM,by rw [Li tM];exact a2,by rw [Li tM,lA,← ae];rfl⟩
    refine A0 ?_ rfl ?_
    ·skip
     refine Ar F M Dx.k Dg rfl rfl (cs:=[qT ((mkT ((i+q.d / 8) % 3)))]) rfl rfl tS tD rfl ?_;clear F M a;intro cl w a M F;obtain ⟨a9,aH,rfl,bh,aU,b3⟩:=M.rS (k:=0) rfl;revert a;refine Ao<|?_
     replace M:=z_M M;refine eQ (Aw M)<|fun a F=>A0 ?_ rfl Bl
     revert a;refine Ns Dx M 3 rfl rfl rfl rfl<|Ao<|?_
     change Mem w0 A (rR (vS a9 1 (aH)) 1 ([qT ((mkT ((i+q.d / 8) % 3)))]) 9 1::rR (vS S 3 (T)) 3 ([qT [97],qT [98,50],qT [107,101,121]]) 9 1::rR (vS U N V) (N) (E) 9 1::rB D [iU ((1+q.a % 60:Nat):Int),iB ((q.b % 3:Nat):Int),qT (Rg (q.c % 8)),vS U N V] 26::rB b2 [iU 0,iB 0,qT [],sN] 26::rB H [iB ((q.a:Nat):Int),iB ((q.b:Nat):Int),iB ((q.c:Nat):Int),iB ((q.d:Nat):Int)] 39::L) _ at M;refine eQ (Aw M)<|?_
     have Y:=Adi (i:=(i+q.d / 8) % 3) (Nat.mod_lt _ tD);have Eb:Els Cr 1 A [qT ((mkT ((i+q.d / 8) % 3)))] [mkT ((i+q.d / 8) % 3)]:=⟨[qT (mkT ((i+q.d / 8) % 3))],[],rfl,rfl,⟨rfl,by have:=Y.1.2;omega⟩,rfl⟩;intro a F;refine A0 ?_ rfl Bl;refine A4 F M (k:=2) (k2:=0) rfl rfl Dx.k Dg rfl rfl tD rfl rfl tX tO rfl ?_;clear F M a;intro cm w a M F;have a3:=Els.append Er Eb;obtain ⟨aA,aI,rfl,bi,aV,b4⟩:=M.rS (k:=2) rfl;revert a;refine Ao<|?_
     replace M:=z_M M;refine eQ (Aw M)<|wk ?_;refine fun a F=>A0 ?_ rfl Bl;revert a;refine D0 Dx M 3 rfl rfl rfl rfl rfl rfl<|?_;clear M;intro w M
     refine Ao<|?_
     replace M:=z_M M;refine eQ (Aw M)<|wk ?_;intro a F
     exact ⟨_,tM,i+1,(aA),(N+1),(aI),E++([qT ((mkT ((i+q.d / 8) % 3)))]),rfl,A,I,fU,(M.wn tW),tM,by rw [Li tM];exact a3,by rw [Li tM,lA,← ae];rfl⟩
    exact Bl
   exact Bl
  intro bU;refine wk ?_;intro a F
  exact ⟨_,tM,i+1,(U),(N),(V),E,rfl,A,I,fU,M,tM,by rw [Adg tM];exact Er,by rw [Adg tM];exact ae⟩
 intro bV;refine wk ?_;refine Ak (fun a F=>Br (j:=3) Hd.k Cp rfl (F.ev rfl) (F.ev rfl) tR tD) rfl<|wk ?_;refine qD rfl ?_ ?_
 ·intro bW;refine wk ?_;intro a F;refine Bw F M Dx.k Dg (ps:=[(0,qT [97]),(1,qT [97])]) (cs:=[[qT [97]],[qT [97]]]) (fl:=[qT [97],qT [97]]) rfl rfl (by simp [Gt,Value.cells]) (by simp [ti9]) rfl tS tD tD rfl ?_;clear F M a;intro cn w a M F;obtain ⟨aB,aJ,rfl,bj,aW,b5⟩:=M.rS (k:=0) rfl;have Ea:Els Cr 1 A [qT [97],qT [97]] [[97],[97]]:=⟨[qT [97]],_,rfl,rfl,⟨rfl,tD⟩,⟨[qT [97]],_,rfl,rfl,⟨rfl,tD⟩,rfl⟩⟩;refine A4 F M (k:=1) (k2:=0) rfl rfl Dx.k Dg rfl rfl tD rfl rfl tX tO rfl ?_;clear F M a;intro co w a M F;have a4:=Els.append Er Ea;obtain ⟨ak,an,rfl,bk,aX,b6⟩:=M.rS (k:=1) rfl;revert a;refine wk ?_;refine D0 Dx M 2 rfl rfl rfl rfl rfl rfl<|?_;clear M;intro w M
  refine Ca<|?_
  have au:i=3:=by omega
  have ac:(mkU q.d i)++(([[97],[97]]:List (List UInt8)))=(Gq q).mZ:=by show _=mkA q.d;unfold mkA;rw [au,if_pos tM]
  obtain ⟨aa,a5,aD,aL,O,ap,ag,M⟩:=M.fZ Au (k:=1) rfl a4 tD;clear ap aD aL;replace Er:=Er.mono Au O;intro a F;rw [aa,ac] at M;rw [aa,ac] at ag;change Mem w0 a5 (rR (vS aB 2 (aJ)) 2 ([qT [97],qT [97]]) 9 1::rB D [iU ((1+q.a % 60:Nat):Int),iB ((q.b % 3:Nat):Int),qT (Rg (q.c % 8)),vS ak ((Gq q).mZ.length) (an)] 26::rB b2 [iU 0,iB 0,qT [],sN] 26::rB H [iB ((q.a:Nat):Int),iB ((q.b:Nat):Int),iB ((q.c:Nat):Int),iB ((q.d:Nat):Int)] 39::L) _ at M;revert a;refine Hg<|Vw Bc M 1 rfl rfl rfl rfl<|?_
  intro a F;refine Bf F M Bc 2<|sZ ?_;clear F M a;intro w M;refine wk ?_;refine fun a F=>Hf F M (k:=2) rfl rfl Bc rfl rfl rfl ?_
  exact ⟨_,(I.trans O),M.wn dS4,ak,an,rfl,ag⟩
 intro bX;refine D8<|Ca<|?_
 have au:i=3:=by omega
 have ac:mkU q.d i=(Gq q).mZ:=by show _=mkA q.d;unfold mkA;rw [au,if_neg tM]
 obtain ⟨ab,a6,aE,aM,ao,aq,ah,M⟩:=M.fZ Au (k:=0) rfl Er tD;clear aq aE aM;intro a F;rw [ab,ac] at M;rw [ab,ac] at ah;change Mem w0 a6 (rB D [iU ((1+q.a % 60:Nat):Int),iB ((q.b % 3:Nat):Int),qT (Rg (q.c % 8)),vS U ((Gq q).mZ.length) (V)] 26::rB b2 [iU 0,iB 0,qT [],sN] 26::rB H [iB ((q.a:Nat):Int),iB ((q.b:Nat):Int),iB ((q.c:Nat):Int),iB ((q.d:Nat):Int)] 39::L) _ at M;revert a;refine Hg<|Vw Bc M 0 rfl rfl rfl rfl<|?_
 intro a F;refine Bf F M Bc 1<|sZ ?_;clear F M a;intro w M;refine wk ?_;refine fun a F=>Hf F M (k:=1) rfl rfl Bc rfl rfl rfl ?_
 exact ⟨_,(I.trans ao),M.wn dS3,U,V,rfl,ah⟩
theorem Acx (q:Q4):((Gq q).key < 18446744073709551616∧(Gq q).typ < 256∧(Gq q).text.length≤9223372036854775807):=by
 have A:=Axl q;refine ⟨?_,?_,?_⟩
 ·show 1+q.a % 60 < _;omega
 ·show q.b % 3 < _;omega
 have:=A.2.2.1.1;omega
end Go.Proofs.YtmmhmcplegpenaaGreatDoor
