/- Own lemmas and walks. -/
import Derived.Test.YtmmhmcplegpenaaGreatDoorJ11
set_option linter.unusedSimpArgs false
set_option linter.unusedVariables false
set_option maxRecDepth 10000
set_option maxHeartbeats 1600000
open Go.Value renaming slice→vS,string→vT,int→vI,bool→vB,pointer→vP
open Go.IntKind renaming i64→kI,u64→kU
open Go.Lib renaming cut→xC
open Go.Proofs.Tryz renaming prog→pG
open Go.Y.Res renaming blk→rB,row→rR
open Go.Y (pP qT iI iB iU sN)
open List renaming length_append→lA,length_cons→lC,length_nil→lN,length_take→lT,length_drop→lD,mem_of_getElem?→mG,mem_cons→mC,length_map→lM
namespace Go.Proofs.YtmmhmcplegpenaaGreatDoor
open Go Go.Y Go.Proofs
variable {w0 w:World} {G:Av} {L:List Res}
theorem Gv (M:Mem w0 G L w):Calls pG 75 #[] w (B5 w0 G L fun v=>v=.agg Lu.toArray):=by
 refine Ap (vs:=[]) Tryz.func75 rfl (n:=7) rfl rfl<|?_
 refine Bt<|?_
 refine B0 M Ha rfl rfl<|?_;clear M;intro A w M
 refine wk ?_;refine Ak (fun a F=>Am (cs:=[qT [105,110,115,101,114,116],vB true,vB false,vB false,vB true,.func (.func 122) #[] #[]]) C4.k rfl C4 (F.evp rfl) rfl) rfl<|Ak (fun a F=>Am (cs:=[qT [114,101,109,111,118,101],vB true,vB true,vB false,vB false,.func (.func 124) #[] #[]]) C4.k rfl C4 (F.evp rfl) rfl) rfl<|Ak (fun a F=>Am (cs:=[qT [109,111,118,101],vB true,vB true,vB true,vB false,.func (.func 125) #[] #[]]) C4.k rfl C4 (F.evp rfl) rfl) rfl<|Ak (fun a F=>Am (cs:=[qT [99,104,97,110,103,101],vB true,vB false,vB false,vB true,.func (.func 127) #[] #[]]) C4.k rfl C4 (F.evp rfl) rfl) rfl<|Ak (fun a F=>Am (cs:=[qT [114,101,115,101,116],vB false,vB false,vB false,vB true,.func (.func 129) #[] #[]]) C4.k rfl C4 (F.evp rfl) rfl) rfl<|Ak (fun a F=>C9 F (cs:=[qT [],vB false,vB false,vB false,vB false,.nilFunc,qT [105,110,115,101,114,116],vB true,vB false,vB false,vB true,.func (.func 122) #[] #[],qT [114,101,109,111,118,101],vB true,vB true,vB false,vB false,.func (.func 124) #[] #[],qT [109,111,118,101],vB true,vB true,vB true,vB false,.func (.func 125) #[] #[],qT [99,104,97,110,103,101],vB true,vB false,vB false,vB true,.func (.func 127) #[] #[],qT [114,101,115,101,116],vB false,vB false,vB false,vB true,.func (.func 129) #[] #[]]) Ha.k Ha C4 rfl rfl) rfl<|fun a F=>?_
 refine Bf F M Ha 0<|sZ ?_;clear F M a;intro w M;refine wk ?_;refine fun a F=>Hf F M (k:=0) rfl rfl Ha rfl rfl rfl ?_
 exact ⟨M.wn dS1,rfl⟩
theorem Ia (M:Mem w0 G L w) {x:NotD} {na:Option Addr} {nc:Nat} (hN:x.kind < 256∧Al .i64 x.at_∧Al .i64 x.count∧Al .i64 x.to∧x.iZ.length≤9223372036854775807) (SI:Aj Bp 4 G (vS na x.iZ.length nc) x.iZ):Calls pG 37 #[.agg #[iB ((x.kind:Nat):Int),iI x.at_,iI x.count,iI x.to,vS na x.iZ.length nc]] w (B5 w0 G L fun v=>v=iI (Dm x)):=by
 refine Ap (vs:=[_]) Tryz.func37 rfl (n:=55) rfl rfl<|?_
 refine Bt<|?_
 refine Ch M rfl rfl rfl<|?_;clear M;intro b1 w M
 refine wk ?_
 rcases bE (decide (((x.kind:Nat):Int) < 1)) with aE | aF
 ·skip
  have h2:=dT aE;refine wk ?_;refine Af rfl rfl<|?_
  exact ⟨M.wn dS1,by rw [Adc tM]⟩
 have h3:=dF aF;refine wk ?_;refine qD rfl ?_ ?_
 ·intro h4;refine wk ?_;refine Af rfl rfl<|?_
  exact ⟨M.wn dS1,by rw [Adc tM]⟩
 intro h5;refine D8<|Ca<|?_
 refine fun a F=>I6 (fun a' w'=>∃ (A:Nat),Fits 55 a' [(1,pP b1),(3,pP A)]∧Mem w0 G (rB A [qT (Cb x.kind),vB (decide (uAt x.kind)),vB (decide (uCo x.kind)),vB (decide (uTo x.kind)),vB (decide (uIt x.kind)),.func (.func (Gs x.kind)) #[] #[]] 138::rB b1 [iB ((x.kind:Nat):Int),iI x.at_,iI x.count,iI x.to,vS na x.iZ.length nc] 65::L) w') ?_ ?_
 ·skip
  refine Ik (.run 1 (.run 2 (.act 0 (.run 3 (.act 4 (.act 5 .fin .no) .no)) (.act 4 (.act 0 (.run 3 (.act 5 .fin .no)) .no) .no)))) (Keep G [rB b1 [iB ((x.kind:Nat):Int),iI x.at_,iI x.count,iI x.to,vS na x.iZ.length nc] 65]) rfl kR kF (Aw (M.drew _)) ?_;replace M:=M.drew (w.drawn+1);revert a;refine wk ?_;refine fun a F=>A0 ?_ rfl ?_
  ·skip
   revert a;refine A2 Sb rfl rfl (Gv M)<|?_;clear M;rintro _ w M rfl
   refine Ao<|?_
   refine eQ (Aw M)<|t_r (fun a F w M=>Gr (j:=x.kind) Ha.k C4 rfl (F.ev rfl) (F.ev rfl) rfl tM (us:=[qT (Cb x.kind),vB (decide (uAt x.kind)),vB (decide (uCo x.kind)),vB (decide (uTo x.kind)),vB (decide (uIt x.kind)),.func (.func (Gs x.kind)) #[] #[]]) (Jr tM)) rfl<|fun a F=>A0 ?_ rfl Bl
   revert a;refine B0 M C4 rfl rfl<|?_;clear M;intro b6 w M
   refine Ao<|?_
   refine eQ (Aw M)<|fun a F=>A0 ?_ rfl Bl
   refine Bf F M C4 0<|sZ ?_;clear F M a;intro w M;refine Ao<|?_
   refine eQ (Aw M)<|?_
   refine Mc<|?_
   intro a F
   exact ⟨b6,fU,M⟩
  refine A0 ?_ rfl ?_
  ·skip
   revert a;refine B0 M C4 rfl rfl<|?_;clear M;intro b8 w M
   refine Ao<|?_
   refine eQ (Aw M)<|fun a F=>A0 ?_ rfl Bl
   revert a;refine A2 Sb rfl rfl (Gv M)<|?_;clear M;rintro _ w M rfl
   refine Ao<|?_
   refine eQ (Aw M)<|t_r (fun a F w M=>Gr (j:=x.kind) Ha.k C4 rfl (F.ev rfl) (F.ev rfl) rfl tM (us:=[qT (Cb x.kind),vB (decide (uAt x.kind)),vB (decide (uCo x.kind)),vB (decide (uTo x.kind)),vB (decide (uIt x.kind)),.func (.func (Gs x.kind)) #[] #[]]) (Jr tM)) rfl<|fun a F=>A0 ?_ rfl Bl
   refine Bf F M C4 0<|sZ ?_;clear F M a;intro w M;refine Ao<|?_
   refine eQ (Aw M)<|?_
   refine Mc<|?_
   intro a F
   exact ⟨b8,fU,M⟩
  exact Bl
 clear F M;rintro a w ⟨A,F,M⟩;revert a;refine Ca<|Ca<|?_
 refine fun a F=>I6 (fun a' w'=>∃ (bb:Bool),Fits 55 a' [(1,pP b1),(54,vB bb)]∧Mem w0 G (rB A [qT (Cb x.kind),vB (decide (uAt x.kind)),vB (decide (uCo x.kind)),vB (decide (uTo x.kind)),vB (decide (uIt x.kind)),.func (.func (Gs x.kind)) #[] #[]] 138::rB b1 [iB ((x.kind:Nat):Int),iI x.at_,iI x.count,iI x.to,vS na x.iZ.length nc] 65::L) w'∧(bb=true↔¬ Fi x)) ?_ ?_
 ·skip
  revert a;refine wk ?_
  rcases bE (!(decide (uAt x.kind))) with D | ao
  ·skip
   have b5:=dF (Ad D);have aG:(decide (uAt x.kind))=false:=(Ad D);refine wk ?_
   rcases bE (!(decide (x.at_=0))) with E | H
   ·skip
    have b7:=dF (Ad E);have aH:(decide (x.at_=0))=false:=(Ad E);refine wk ?_;intro a F
    exact ⟨true,fU,M,by clear F M;unfold Fi;first | (simp only [Bool.true_eq_false,true_iff,false_iff,Bool.false_eq_true,decide_eq_true_eq];grind) | grind⟩
   have b9:=dT (Ae H);have aI:(decide (x.at_=0))=true:=(Ae H);refine wk ?_
   rcases bE (!(decide (uCo x.kind))) with I | ae
   ·skip
    have bA:=dF (Ad I);have aJ:(decide (uCo x.kind))=false:=(Ad I);refine wk ?_
    rcases bE (!(decide (x.count=0))) with N | O
    ·skip
     have bB:=dF (Ad N);have aK:(decide (x.count=0))=false:=(Ad N);refine wk ?_;intro a F
     exact ⟨true,fU,M,by clear F M;unfold Fi;first | (simp only [Bool.true_eq_false,true_iff,false_iff,Bool.false_eq_true,decide_eq_true_eq];grind) | grind⟩
    have bC:=dT (Ae O);have aL:(decide (x.count=0))=true:=(Ae O);refine wk ?_
    rcases bE (!(decide (uTo x.kind))) with S | aa
    ·skip
     have bD:=dF (Ad S);have aM:(decide (uTo x.kind))=false:=(Ad S);refine wk ?_
     rcases bE (!(decide (x.to=0))) with T | U
     ·skip
      have bF:=dF (Ad T);have aN:(decide (x.to=0))=false:=(Ad T);refine wk ?_;intro a F
      exact ⟨true,fU,M,by clear F M;unfold Fi;first | (simp only [Bool.true_eq_false,true_iff,false_iff,Bool.false_eq_true,decide_eq_true_eq];grind) | grind⟩
     have bG:=dT (Ae U);have aO:(decide (x.to=0))=true:=(Ae U);refine wk ?_
     rcases bE (!(decide (uIt x.kind))) with V | Y
     ·skip
      have bH:=dF (Ad V);have aP:(decide (uIt x.kind))=false:=(Ad V);refine wk ?_;intro a F
      exact ⟨(decide (0 < ((x.iZ.length:Nat):Int))),fU,M,by clear F M;unfold Fi;first | (simp only [Bool.true_eq_false,true_iff,false_iff,Bool.false_eq_true,decide_eq_true_eq];grind) | grind⟩
     have bI:=dT (Ae Y);have aQ:(decide (uIt x.kind))=true:=(Ae Y);refine wk ?_;intro a F
     exact ⟨false,fU,M,by clear F M;unfold Fi;first | (simp only [Bool.true_eq_false,true_iff,false_iff,Bool.false_eq_true,decide_eq_true_eq];grind) | grind⟩
    have bJ:=dT (Ae aa);have aR:(decide (uTo x.kind))=true:=(Ae aa);refine wk ?_
    rcases bE (!(decide (uIt x.kind))) with ab | ac
    ·skip
     have bK:=dF (Ad ab);have aS:(decide (uIt x.kind))=false:=(Ad ab);refine wk ?_;intro a F
     exact ⟨(decide (0 < ((x.iZ.length:Nat):Int))),fU,M,by clear F M;unfold Fi;first | (simp only [Bool.true_eq_false,true_iff,false_iff,Bool.false_eq_true,decide_eq_true_eq];grind) | grind⟩
    have bL:=dT (Ae ac);have aT:(decide (uIt x.kind))=true:=(Ae ac);refine wk ?_;intro a F
    exact ⟨false,fU,M,by clear F M;unfold Fi;first | (simp only [Bool.true_eq_false,true_iff,false_iff,Bool.false_eq_true,decide_eq_true_eq];grind) | grind⟩
   have bM:=dT (Ae ae);have aU:(decide (uCo x.kind))=true:=(Ae ae);refine wk ?_
   rcases bE (!(decide (uTo x.kind))) with ag | al
   ·skip
    have bN:=dF (Ad ag);have aV:(decide (uTo x.kind))=false:=(Ad ag);refine wk ?_
    rcases bE (!(decide (x.to=0))) with ah | ai
    ·skip
     have bO:=dF (Ad ah);have aW:(decide (x.to=0))=false:=(Ad ah);refine wk ?_;intro a F
     exact ⟨true,fU,M,by clear F M;unfold Fi;first | (simp only [Bool.true_eq_false,true_iff,false_iff,Bool.false_eq_true,decide_eq_true_eq];grind) | grind⟩
    have bP:=dT (Ae ai);have aX:(decide (x.to=0))=true:=(Ae ai);refine wk ?_
    rcases bE (!(decide (uIt x.kind))) with aj | ak
    ·skip
     have bQ:=dF (Ad aj);have aY:(decide (uIt x.kind))=false:=(Ad aj);refine wk ?_;intro a F
     exact ⟨(decide (0 < ((x.iZ.length:Nat):Int))),fU,M,by clear F M;unfold Fi;first | (simp only [Bool.true_eq_false,true_iff,false_iff,Bool.false_eq_true,decide_eq_true_eq];grind) | grind⟩
    have bR:=dT (Ae ak);have aZ:(decide (uIt x.kind))=true:=(Ae ak);refine wk ?_;intro a F
    exact ⟨false,fU,M,by clear F M;unfold Fi;first | (simp only [Bool.true_eq_false,true_iff,false_iff,Bool.false_eq_true,decide_eq_true_eq];grind) | grind⟩
   have bS:=dT (Ae al);have ba:(decide (uTo x.kind))=true:=(Ae al);refine wk ?_
   rcases bE (!(decide (uIt x.kind))) with am | an
   ·skip
    have bT:=dF (Ad am);have be:(decide (uIt x.kind))=false:=(Ad am);refine wk ?_;intro a F
    exact ⟨(decide (0 < ((x.iZ.length:Nat):Int))),fU,M,by clear F M;unfold Fi;first | (simp only [Bool.true_eq_false,true_iff,false_iff,Bool.false_eq_true,decide_eq_true_eq];grind) | grind⟩
   have bU:=dT (Ae an);have bf:(decide (uIt x.kind))=true:=(Ae an);refine wk ?_;intro a F
   exact ⟨false,fU,M,by clear F M;unfold Fi;first | (simp only [Bool.true_eq_false,true_iff,false_iff,Bool.false_eq_true,decide_eq_true_eq];grind) | grind⟩
  have bV:=dT (Ae ao);have bg:(decide (uAt x.kind))=true:=(Ae ao);refine wk ?_
  rcases bE (!(decide (uCo x.kind))) with ap | a2
  ·skip
   have bW:=dF (Ad ap);have bh:(decide (uCo x.kind))=false:=(Ad ap);refine wk ?_
   rcases bE (!(decide (x.count=0))) with aq | ar
   ·skip
    have bX:=dF (Ad aq);have bi:(decide (x.count=0))=false:=(Ad aq);refine wk ?_;intro a F
    exact ⟨true,fU,M,by clear F M;unfold Fi;first | (simp only [Bool.true_eq_false,true_iff,false_iff,Bool.false_eq_true,decide_eq_true_eq];grind) | grind⟩
   have bY:=dT (Ae ar);have bj:(decide (x.count=0))=true:=(Ae ar);refine wk ?_
   rcases bE (!(decide (uTo x.kind))) with au | az
   ·skip
    have bZ:=dF (Ad au);have bk:(decide (uTo x.kind))=false:=(Ad au);refine wk ?_
    rcases bE (!(decide (x.to=0))) with av | aw
    ·skip
     have ca:=dF (Ad av);have bl:(decide (x.to=0))=false:=(Ad av);refine wk ?_;intro a F
     exact ⟨true,fU,M,by clear F M;unfold Fi;first | (simp only [Bool.true_eq_false,true_iff,false_iff,Bool.false_eq_true,decide_eq_true_eq];grind) | grind⟩
    have cb:=dT (Ae aw);have bm:(decide (x.to=0))=true:=(Ae aw);refine wk ?_
    rcases bE (!(decide (uIt x.kind))) with ax | ay
    ·skip
     have cc:=dF (Ad ax);have bn:(decide (uIt x.kind))=false:=(Ad ax);refine wk ?_;intro a F
     exact ⟨(decide (0 < ((x.iZ.length:Nat):Int))),fU,M,by clear F M;unfold Fi;first | (simp only [Bool.true_eq_false,true_iff,false_iff,Bool.false_eq_true,decide_eq_true_eq];grind) | grind⟩
    have cd:=dT (Ae ay);have bo:(decide (uIt x.kind))=true:=(Ae ay);refine wk ?_;intro a F
    exact ⟨false,fU,M,by clear F M;unfold Fi;first | (simp only [Bool.true_eq_false,true_iff,false_iff,Bool.false_eq_true,decide_eq_true_eq];grind) | grind⟩
   have ce:=dT (Ae az);have bp:(decide (uTo x.kind))=true:=(Ae az);refine wk ?_
   rcases bE (!(decide (uIt x.kind))) with a0 | a1
   ·skip
    have cf:=dF (Ad a0);have bq:(decide (uIt x.kind))=false:=(Ad a0);refine wk ?_;intro a F
    exact ⟨(decide (0 < ((x.iZ.length:Nat):Int))),fU,M,by clear F M;unfold Fi;first | (simp only [Bool.true_eq_false,true_iff,false_iff,Bool.false_eq_true,decide_eq_true_eq];grind) | grind⟩
   have cg:=dT (Ae a1);have br:(decide (uIt x.kind))=true:=(Ae a1);refine wk ?_;intro a F
   exact ⟨false,fU,M,by clear F M;unfold Fi;first | (simp only [Bool.true_eq_false,true_iff,false_iff,Bool.false_eq_true,decide_eq_true_eq];grind) | grind⟩
  have ci:=dT (Ae a2);have bt:(decide (uCo x.kind))=true:=(Ae a2);refine wk ?_
  rcases bE (!(decide (uTo x.kind))) with a3 | a8
  ·skip
   have cj:=dF (Ad a3);have bu:(decide (uTo x.kind))=false:=(Ad a3);refine wk ?_
   rcases bE (!(decide (x.to=0))) with a4 | a5
   ·skip
    have ck:=dF (Ad a4);have bv:(decide (x.to=0))=false:=(Ad a4);refine wk ?_;intro a F
    exact ⟨true,fU,M,by clear F M;unfold Fi;first | (simp only [Bool.true_eq_false,true_iff,false_iff,Bool.false_eq_true,decide_eq_true_eq];grind) | grind⟩
   have cl:=dT (Ae a5);have bw:(decide (x.to=0))=true:=(Ae a5);refine wk ?_
   rcases bE (!(decide (uIt x.kind))) with a6 | a7
   ·skip
    have cm:=dF (Ad a6);have bx:(decide (uIt x.kind))=false:=(Ad a6);refine wk ?_;intro a F
    exact ⟨(decide (0 < ((x.iZ.length:Nat):Int))),fU,M,by clear F M;unfold Fi;first | (simp only [Bool.true_eq_false,true_iff,false_iff,Bool.false_eq_true,decide_eq_true_eq];grind) | grind⟩
   have cn:=dT (Ae a7);have bz:(decide (uIt x.kind))=true:=(Ae a7);refine wk ?_;intro a F
   exact ⟨false,fU,M,by clear F M;unfold Fi;first | (simp only [Bool.true_eq_false,true_iff,false_iff,Bool.false_eq_true,decide_eq_true_eq];grind) | grind⟩
  have co:=dT (Ae a8);have b0:(decide (uTo x.kind))=true:=(Ae a8);refine wk ?_
  rcases bE (!(decide (uIt x.kind))) with a9 | aA
  ·skip
   have cp:=dF (Ad a9);have b3:(decide (uIt x.kind))=false:=(Ad a9);refine wk ?_;intro a F
   exact ⟨(decide (0 < ((x.iZ.length:Nat):Int))),fU,M,by clear F M;unfold Fi;first | (simp only [Bool.true_eq_false,true_iff,false_iff,Bool.false_eq_true,decide_eq_true_eq];grind) | grind⟩
  have cq:=dT (Ae aA);have b4:(decide (uIt x.kind))=true:=(Ae aA);refine wk ?_;intro a F
  exact ⟨false,fU,M,by clear F M;unfold Fi;first | (simp only [Bool.true_eq_false,true_iff,false_iff,Bool.false_eq_true,decide_eq_true_eq];grind) | grind⟩
 clear F M;rintro a w ⟨bb,F,M,aD⟩;revert a;refine Gd<|?_
 refine Ag rfl ?_ ?_
 ·intro aB;have cr:(bb)=true:=aB;refine Ca<|?_
  have hF:¬ Fi x:=aD.1 tA;refine wk ?_;refine Af rfl rfl<|?_
  exact ⟨M.wn dS2,by rw [Axy tM hF]⟩
 intro aC;have ct:(bb)=false:=aC;refine wk ?_;have hF:Fi x:=Classical.byContradiction fun h_=>by have cu:=aD.2 h_;simp_all
 refine wk ?_;refine Af rfl rfl<|?_
 exact ⟨M.wn dS2,by rw [Axz tM hF]⟩
theorem Qi (M:Mem w0 G L w) {k:Nat}:Calls pG 93 #[iB ((k:Nat):Int)] w (B5 w0 G L fun v=>v=.agg #[iI (uG k 0),iI (uG k 1),iI (uG k 2),iI (uG k 3)]):=by
 refine Ap (vs:=[_]) Tryz.func93 rfl (n:=18) rfl rfl<|?_
 refine Bt<|?_
 refine B0 M Cz rfl rfl<|?_;clear M;intro H w M
 refine wk ?_;refine qD rfl ?_ ?_
 ·intro I;refine wk ?_;refine Ak (fun a F=>C9 F (cs:=[iI 1,iI 0,iI 0,iI 1]) Cz.k Cz Cj rfl rfl) rfl<|fun a F=>?_
  refine Bf F M Cz 0 ?_;clear F M a;intro w a M F;revert a;refine Fl<|Iw<|Fu<|?_
  refine fun a F=>Hf F M (k:=0) rfl rfl Cz rfl rfl rfl ?_
  exact ⟨M.wn dS1,by rw [show uG k 0=1 from if_pos (by unfold uAt;omega),show uG k 1=0 from if_neg (by unfold uCo;omega),show uG k 2=0 from if_neg (by unfold uTo;omega),show uG k 3=1 from if_pos (by unfold uIt;omega)]⟩
 intro N;refine wk ?_;refine qD rfl ?_ ?_
 ·intro O;refine Bt<|?_
  refine Ak (fun a F=>C9 F (cs:=[iI 1,iI 0,iI 0,iI 1]) Cz.k Cz Cj rfl rfl) rfl<|fun a F=>?_
  refine Bf F M Cz 0 ?_;clear F M a;intro w a M F;revert a;refine Fl<|Iw<|Fu<|?_
  refine fun a F=>Hf F M (k:=0) rfl rfl Cz rfl rfl rfl ?_
  exact ⟨M.wn dS1,by rw [show uG k 0=1 from if_pos (by unfold uAt;omega),show uG k 1=0 from if_neg (by unfold uCo;omega),show uG k 2=0 from if_neg (by unfold uTo;omega),show uG k 3=1 from if_pos (by unfold uIt;omega)]⟩
 intro S;refine wk ?_;refine qD rfl ?_ ?_
 ·intro T;refine Bt<|?_
  refine Ak (fun a F=>C9 F (cs:=[iI 1,iI 1,iI 0,iI 0]) Cz.k Cz Cj rfl rfl) rfl<|fun a F=>?_
  refine Bf F M Cz 0 ?_;clear F M a;intro w a M F;revert a;refine Fl<|Iw<|Fu<|?_
  refine fun a F=>Hf F M (k:=0) rfl rfl Cz rfl rfl rfl ?_
  exact ⟨M.wn dS1,by rw [show uG k 0=1 from if_pos (by unfold uAt;omega),show uG k 1=1 from if_pos (by unfold uCo;omega),show uG k 2=0 from if_neg (by unfold uTo;omega),show uG k 3=0 from if_neg (by unfold uIt;omega)]⟩
 intro U;refine wk ?_;refine qD rfl ?_ ?_
 ·intro V;refine Bt<|?_
  refine Ak (fun a F=>C9 F (cs:=[iI 1,iI 1,iI 1,iI 0]) Cz.k Cz Cj rfl rfl) rfl<|fun a F=>?_
  refine Bf F M Cz 0 ?_;clear F M a;intro w a M F;revert a;refine Fl<|Iw<|Fu<|?_
  refine fun a F=>Hf F M (k:=0) rfl rfl Cz rfl rfl rfl ?_
  exact ⟨M.wn dS1,by rw [show uG k 0=1 from if_pos (by unfold uAt;omega),show uG k 1=1 from if_pos (by unfold uCo;omega),show uG k 2=1 from if_pos (by unfold uTo;omega),show uG k 3=0 from if_neg (by unfold uIt;omega)]⟩
 intro A;refine wk ?_;refine qD rfl ?_ ?_
 ·intro D;refine Bt<|?_
  refine Ak (fun a F=>C9 F (cs:=[iI 0,iI 0,iI 0,iI 1]) Cz.k Cz Cj rfl rfl) rfl<|fun a F=>?_
  refine Bf F M Cz 0 ?_;clear F M a;intro w a M F;revert a;refine Fl<|Iw<|Fu<|?_
  refine fun a F=>Hf F M (k:=0) rfl rfl Cz rfl rfl rfl ?_
  exact ⟨M.wn dS1,by rw [show uG k 0=0 from if_neg (by unfold uAt;omega),show uG k 1=0 from if_neg (by unfold uCo;omega),show uG k 2=0 from if_neg (by unfold uTo;omega),show uG k 3=1 from if_pos (by unfold uIt;omega)]⟩
 intro E;refine wk ?_;refine Ak (fun a F=>C9 F (cs:=[iI 0,iI 0,iI 0,iI 0]) Cz.k Cz Cj rfl rfl) rfl<|fun a F=>?_
 refine Bf F M Cz 0 ?_;clear F M a;intro w a M F;revert a;refine Fl<|?_
 refine fun a F=>Hf F M (k:=0) rfl rfl Cz rfl rfl rfl ?_
 exact ⟨M.wn dS1,by rw [show uG k 0=0 from if_neg (by unfold uAt;omega),show uG k 1=0 from if_neg (by unfold uCo;omega),show uG k 2=0 from if_neg (by unfold uTo;omega),show uG k 3=0 from if_neg (by unfold uIt;omega)]⟩
theorem J2 (M:Mem w0 G L w) {x:NotD} {Y:Option Addr} {nc:Nat} (hN:x.kind < 256∧Al .i64 x.at_∧Al .i64 x.count∧Al .i64 x.to∧x.iZ.length≤9223372036854775807) (SI:Aj Bp 4 G (vS Y x.iZ.length nc) x.iZ):Calls pG 38 #[.agg #[iB ((x.kind:Nat):Int),iI x.at_,iI x.count,iI x.to,vS Y x.iZ.length nc]] w (B5 w0 G L fun v=>v=iI (Dm x)):=by
 refine Ap (vs:=[_]) Tryz.func38 rfl (n:=40) rfl rfl<|?_
 refine Bt<|?_
 refine Ch M rfl rfl rfl<|?_;clear M;intro S w M
 refine wk ?_
 rcases bE (decide (((x.kind:Nat):Int) < 1)) with aa | ab
 ·skip
  have h2:=dT aa;refine wk ?_;refine Af rfl rfl<|?_
  exact ⟨M.wn dS1,by rw [Adc tM]⟩
 have h3:=dF ab;refine wk ?_;refine qD rfl ?_ ?_
 ·intro h4;refine wk ?_;refine Af rfl rfl<|?_
  exact ⟨M.wn dS1,by rw [Adc tM]⟩
 intro h5;refine wk ?_;refine A2 A0e rfl rfl (Qi (k:=x.kind) M)<|?_;clear M;rintro _ w M rfl
 refine B0 M Cz rfl rfl<|?_;clear M;intro T w M
 intro a F;refine Bf F M Cz 0<|sZ ?_;clear F M a;intro w M;refine wk ?_;refine fun a F=>Bd (fun m a' w'=>∃ (i:Nat),m=4 - i∧Fits 40 a' [(1,pP S),(3,pP T),(4,iI ((i:Nat):Int))]∧Mem w0 G (rB T [iI (uG x.kind 0),iI (uG x.kind 1),iI (uG x.kind 2),iI (uG x.kind 3)] 167::rB S [iB ((x.kind:Nat):Int),iI x.at_,iI x.count,iI x.to,vS Y x.iZ.length nc] 65::L) w'∧(i≤4)∧(∀ j,j < i→uG x.kind j=0→nG x j=0)) _ ⟨0,rfl,fU,M,tM,fun j h=>by omega⟩ ?_;clear F M;rintro m a w ⟨i,rfl,F,M,hi,hA⟩;revert a;refine wk ?_;refine qD rfl ?_ ?_
 ·intro h8;refine D8<|Ca<|H2<|Ca<|?_
  refine fun a F=>I6 (fun a' w'=>∃ (H:Bool),Fits 40 a' [(1,pP S),(3,pP T),(4,iI ((i:Nat):Int)),(39,vB H)]∧Mem w0 G (rB T [iI (uG x.kind 0),iI (uG x.kind 1),iI (uG x.kind 2),iI (uG x.kind 3)] 167::rB S [iB ((x.kind:Nat):Int),iI x.at_,iI x.count,iI x.to,vS Y x.iZ.length nc] 65::L) w'∧(H=true↔uG x.kind i=0∧nG x i≠0)) ?_ ?_
  ·skip
   revert a;refine Hg<|Cd rfl<|?_
   refine Ak (fun a F=>Br (j:=i) Cz.k Cj rfl (F.ev rfl) (F.ev rfl) tM tM) rfl<|Ak (fun a F=>Cw (agf Cj rfl) (F.ev rfl) (M.cellL (k:=0) rfl (Aix (i:=i) tM))) rfl<|wk ?_
   rcases bE (decide (uG x.kind i=0)) with ac | I
   ·skip
    have h9:=dT ac;refine wk ?_;intro a F;refine Bw F M Ajd.k Cj (ps:=[(0,iI x.at_),(1,iI x.count),(2,iI x.to),(3,iI ((x.iZ.length:Nat):Int))]) (cs:=[[iI x.at_],[iI x.count],[iI x.to],[iI ((x.iZ.length:Nat):Int)]]) (fl:=[iI x.at_,iI x.count,iI x.to,iI ((x.iZ.length:Nat):Int)]) rfl rfl (by simp [Gt,Value.cells]) (by simp [ti3]) rfl tS tD tD rfl ?_;clear F M a;intro aq w a M F;obtain ⟨ai,ak,rfl,V,U,ae⟩:=M.rS (k:=0) rfl;have E:Els rdZ 1 G [iI x.at_,iI x.count,iI x.to,iI ((x.iZ.length:Nat):Int)] [nG x 0,nG x 1,nG x 2,nG x 3]:=A1m (zs:=[nG x 0,nG x 1,nG x 2,nG x 3]);revert a;refine wk ?_;obtain ⟨aj,_,ah,ag,_,D,rfl⟩:=M.atRow (k:=0) rfl tD E (n_cell (x:=x) (i:=i) tM);refine wk ?_;refine Afi Cj D 0 rfl rfl tM rfl<|wk ?_;intro a F
    exact ⟨(!(decide ((nG x i)=0))),fU,M.wn dS1,by clear F M;first | (simp only [Bool.true_eq_false,true_iff,false_iff,Bool.false_eq_true,decide_eq_true_eq];omega) | grind⟩
   have al:=dF I;refine wk ?_;intro a F
   exact ⟨false,fU,M,by clear F M;first | (simp only [Bool.true_eq_false,true_iff,false_iff,Bool.false_eq_true,decide_eq_true_eq];omega) | grind⟩
  clear F M;rintro a w ⟨H,F,M,A⟩;revert a;refine Gd<|?_
  refine Ag rfl ?_ ?_
  ·intro N;have am:(H)=true:=N;refine Ca<|?_
   have ap:=A;refine wk ?_;refine Af rfl rfl<|?_
   exact ⟨M.wn dS2,by rw [Axy tM (Aya (j:=i) tM (A.1 tA).1 (A.1 tA).2)]⟩
  intro O;have an:(H)=false:=O;refine wk ?_;intro a F
  exact ⟨_,tM,i+1,rfl,fU,M,tM,fun j hj hu=>by rcases Nat.lt_succ_iff_lt_or_eq.1 hj with h_ | h_;exact hA j h_ hu;subst h_;clear F M;first | omega | simp_all⟩
 intro ao;refine wk ?_;refine Af rfl rfl<|?_
 exact ⟨M.wn dS2,by rw [Axz tM (form_of fun j hj hu=>hA j tM hu)]⟩
theorem k1_spec (M:Mem w0 G L w) {c:RulesD} {I:Option Addr} {N:Nat} (SC:Aj Cq 9 G (vS I c.kZ.length N) c.kZ) {T:Option Addr} {U:Nat} {l:List EntD} (S:Aj Bj 6 G (vS T l.length U) l) (V:Bh c l=0) {x:NotD} {Y:Option Addr} {nc:Nat} (hN:x.kind < 256∧Al .i64 x.at_∧Al .i64 x.count∧Al .i64 x.to∧x.iZ.length≤9223372036854775807) (SI:Aj Bp 4 G (vS Y x.iZ.length nc) x.iZ) (hX:x.iZ.length≤900000) (h0:Dm x=0) (hk:x.kind=1):Calls pG 122 #[.agg #[vS I c.kZ.length N,iI c.cap],.agg #[vS T l.length U],.agg #[iB ((x.kind:Nat):Int),iI x.at_,iI x.count,iI x.to,vS Y x.iZ.length nc]] w (I5 w0 G (K5 L (Ga c l x))):=by
 rw [Aio h0 hk];have bS:=S.bound;refine Ap (vs:=[_,_,_]) Tryz.func122 rfl (n:=17) rfl rfl<|?_
 refine Bt<|?_
 refine Ch M rfl rfl rfl<|?_;clear M;intro b1 w M
 refine Ch M rfl rfl rfl<|?_;clear M;intro b2 w M
 refine Ch M rfl rfl rfl<|?_;clear M;intro b3 w M
 refine B0 M Az rfl rfl<|?_;clear M;intro b4 w M
 refine wk ?_;intro a F;refine Cs F ent123 rfl rfl (Adk (c:=c) (l:=l) (xs:=x.iZ) (z:=x.at_) M SC S V SI tM) ?_;clear F M a;rintro _ aa _ w a A M ⟨E,H,D,rfl,rfl,O⟩ F;have M:=M.perm (Bk (C0 E (Gy c l x.at_ x.iZ).1.length H::D) [rB b4 [sN] 54,rB b3 [iB ((x.kind:Nat):Int),iI x.at_,iI x.count,iI x.to,vS Y x.iZ.length nc] 65,rB b2 [vS T l.length U] 54,rB b1 [vS I c.kZ.length N,iI c.cap] 51] L);replace M:=z_M M;revert a;refine wk ?_;intro a F;refine Bf F M Az 0<|sZ ?_;clear F M a;intro w M;refine wk ?_;refine fun a F=>B1 F M (k:=0) rfl rfl Az rfl rfl rfl rfl ?_
 exact ⟨_,_,A,M.wn dS4,E,H,D,rfl,rfl,O⟩
theorem k2_spec (M:Mem w0 G L w) {c:RulesD} {I:Option Addr} {N:Nat} (SC:Aj Cq 9 G (vS I c.kZ.length N) c.kZ) {T:Option Addr} {U:Nat} {l:List EntD} (S:Aj Bj 6 G (vS T l.length U) l) (V:Bh c l=0) {x:NotD} {Y:Option Addr} {nc:Nat} (hN:x.kind < 256∧Al .i64 x.at_∧Al .i64 x.count∧Al .i64 x.to∧x.iZ.length≤9223372036854775807) (SI:Aj Bp 4 G (vS Y x.iZ.length nc) x.iZ) (hX:x.iZ.length≤900000) (h0:Dm x=0) (hk:x.kind=2):Calls pG 124 #[.agg #[vS I c.kZ.length N,iI c.cap],.agg #[vS T l.length U],.agg #[iB ((x.kind:Nat):Int),iI x.at_,iI x.count,iI x.to,vS Y x.iZ.length nc]] w (I5 w0 G (K5 L (Ga c l x))):=by
 rw [Abf h0 hk];have bS:=S.bound;refine Ap (vs:=[_,_,_]) Tryz.func124 rfl (n:=17) rfl rfl<|?_
 refine Bt<|?_
 refine Ch M rfl rfl rfl<|?_;clear M;intro b1 w M
 refine Ch M rfl rfl rfl<|?_;clear M;intro b2 w M
 refine Ch M rfl rfl rfl<|?_;clear M;intro b3 w M
 refine B0 M Az rfl rfl<|?_;clear M;intro b4 w M
 refine wk ?_;intro a F;refine Cs F ent69 rfl rfl (R4 (c:=c) (l:=l) (z:=x.at_) (n:=x.count) M SC S V ) ?_;clear F M a;rintro _ aa _ w a A M ⟨E,H,D,rfl,rfl,O⟩ F;have M:=M.perm (Bk (C0 E (M9 l x.at_ x.count).1.length H::D) [rB b4 [sN] 54,rB b3 [iB ((x.kind:Nat):Int),iI x.at_,iI x.count,iI x.to,vS Y x.iZ.length nc] 65,rB b2 [vS T l.length U] 54,rB b1 [vS I c.kZ.length N,iI c.cap] 51] L);replace M:=z_M M;revert a;refine wk ?_;intro a F;refine Bf F M Az 0<|sZ ?_;clear F M a;intro w M;refine wk ?_;refine fun a F=>B1 F M (k:=0) rfl rfl Az rfl rfl rfl rfl ?_
 exact ⟨_,_,A,M.wn dS4,E,H,D,rfl,rfl,O⟩
theorem k3_spec (M:Mem w0 G L w) {c:RulesD} {I:Option Addr} {N:Nat} (SC:Aj Cq 9 G (vS I c.kZ.length N) c.kZ) {T:Option Addr} {U:Nat} {l:List EntD} (S:Aj Bj 6 G (vS T l.length U) l) (V:Bh c l=0) {x:NotD} {Y:Option Addr} {nc:Nat} (hN:x.kind < 256∧Al .i64 x.at_∧Al .i64 x.count∧Al .i64 x.to∧x.iZ.length≤9223372036854775807) (SI:Aj Bp 4 G (vS Y x.iZ.length nc) x.iZ) (hX:x.iZ.length≤900000) (h0:Dm x=0) (hk:x.kind=3):Calls pG 125 #[.agg #[vS I c.kZ.length N,iI c.cap],.agg #[vS T l.length U],.agg #[iB ((x.kind:Nat):Int),iI x.at_,iI x.count,iI x.to,vS Y x.iZ.length nc]] w (I5 w0 G (K5 L (Ga c l x))):=by
 rw [Abe h0 hk];have bS:=S.bound;refine Ap (vs:=[_,_,_]) Tryz.func125 rfl (n:=19) rfl rfl<|?_
 refine Bt<|?_
 refine Ch M rfl rfl rfl<|?_;clear M;intro b1 w M
 refine Ch M rfl rfl rfl<|?_;clear M;intro b2 w M
 refine Ch M rfl rfl rfl<|?_;clear M;intro b3 w M
 refine B0 M Az rfl rfl<|?_;clear M;intro b4 w M
 refine wk ?_;intro a F;refine Cs F ent126 rfl rfl (Ala (c:=c) (l:=l) (z:=x.at_) (n:=x.count) (q:=x.to) M SC S V ) ?_;clear F M a;rintro _ aa _ w a A M ⟨E,H,D,rfl,rfl,O⟩ F;have M:=M.perm (Bk (C0 E (Iv l x.at_ x.count x.to).1.length H::D) [rB b4 [sN] 54,rB b3 [iB ((x.kind:Nat):Int),iI x.at_,iI x.count,iI x.to,vS Y x.iZ.length nc] 65,rB b2 [vS T l.length U] 54,rB b1 [vS I c.kZ.length N,iI c.cap] 51] L);replace M:=z_M M;revert a;refine wk ?_;intro a F;refine Bf F M Az 0<|sZ ?_;clear F M a;intro w M;refine wk ?_;refine fun a F=>B1 F M (k:=0) rfl rfl Az rfl rfl rfl rfl ?_
 exact ⟨_,_,A,M.wn dS4,E,H,D,rfl,rfl,O⟩
theorem k4_spec (M:Mem w0 G L w) {c:RulesD} {I:Option Addr} {N:Nat} (SC:Aj Cq 9 G (vS I c.kZ.length N) c.kZ) {T:Option Addr} {U:Nat} {l:List EntD} (S:Aj Bj 6 G (vS T l.length U) l) (V:Bh c l=0) {x:NotD} {Y:Option Addr} {nc:Nat} (hN:x.kind < 256∧Al .i64 x.at_∧Al .i64 x.count∧Al .i64 x.to∧x.iZ.length≤9223372036854775807) (SI:Aj Bp 4 G (vS Y x.iZ.length nc) x.iZ) (hX:x.iZ.length≤900000) (h0:Dm x=0) (hk:x.kind=4):Calls pG 127 #[.agg #[vS I c.kZ.length N,iI c.cap],.agg #[vS T l.length U],.agg #[iB ((x.kind:Nat):Int),iI x.at_,iI x.count,iI x.to,vS Y x.iZ.length nc]] w (I5 w0 G (K5 L (Ga c l x))):=by
 rw [Aqb h0 hk];have bS:=S.bound;refine Ap (vs:=[_,_,_]) Tryz.func127 rfl (n:=17) rfl rfl<|?_
 refine Bt<|?_
 refine Ch M rfl rfl rfl<|?_;clear M;intro b1 w M
 refine Ch M rfl rfl rfl<|?_;clear M;intro b2 w M
 refine Ch M rfl rfl rfl<|?_;clear M;intro b3 w M
 refine B0 M Az rfl rfl<|?_;clear M;intro b4 w M
 refine wk ?_;intro a F;refine Cs F ent128 rfl rfl (Adm (c:=c) (l:=l) (xs:=x.iZ) (z:=x.at_) M SC S V SI tM) ?_;clear F M a;rintro _ aa _ w a A M ⟨E,H,D,rfl,rfl,O⟩ F;have M:=M.perm (Bk (C0 E (Jw c l x.at_ x.iZ).1.length H::D) [rB b4 [sN] 54,rB b3 [iB ((x.kind:Nat):Int),iI x.at_,iI x.count,iI x.to,vS Y x.iZ.length nc] 65,rB b2 [vS T l.length U] 54,rB b1 [vS I c.kZ.length N,iI c.cap] 51] L);replace M:=z_M M;revert a;refine wk ?_;intro a F;refine Bf F M Az 0<|sZ ?_;clear F M a;intro w M;refine wk ?_;refine fun a F=>B1 F M (k:=0) rfl rfl Az rfl rfl rfl rfl ?_
 exact ⟨_,_,A,M.wn dS4,E,H,D,rfl,rfl,O⟩
theorem k5_spec (M:Mem w0 G L w) {c:RulesD} {I:Option Addr} {N:Nat} (SC:Aj Cq 9 G (vS I c.kZ.length N) c.kZ) {T:Option Addr} {U:Nat} {l:List EntD} (S:Aj Bj 6 G (vS T l.length U) l) (V:Bh c l=0) {x:NotD} {Y:Option Addr} {nc:Nat} (hN:x.kind < 256∧Al .i64 x.at_∧Al .i64 x.count∧Al .i64 x.to∧x.iZ.length≤9223372036854775807) (SI:Aj Bp 4 G (vS Y x.iZ.length nc) x.iZ) (hX:x.iZ.length≤900000) (h0:Dm x=0) (hk:x.kind=5):Calls pG 129 #[.agg #[vS I c.kZ.length N,iI c.cap],.agg #[vS T l.length U],.agg #[iB ((x.kind:Nat):Int),iI x.at_,iI x.count,iI x.to,vS Y x.iZ.length nc]] w (I5 w0 G (K5 L (Ga c l x))):=by
 rw [Aqa h0 hk];have bS:=S.bound;refine Ap (vs:=[_,_,_]) Tryz.func129 rfl (n:=15) rfl rfl<|?_
 refine Bt<|?_
 refine Ch M rfl rfl rfl<|?_;clear M;intro b1 w M
 refine Ch M rfl rfl rfl<|?_;clear M;intro b2 w M
 refine Ch M rfl rfl rfl<|?_;clear M;intro b3 w M
 refine B0 M Az rfl rfl<|?_;clear M;intro b4 w M
 refine wk ?_;intro a F;refine Cs F ent92 rfl rfl (Uo (c:=c) (l:=l) (xs:=x.iZ) M SC S V SI tM) ?_;clear F M a;rintro _ aa _ w a A M ⟨E,H,D,rfl,rfl,O⟩ F;have M:=M.perm (Bk (C0 E (Gy c [] 0 x.iZ).1.length H::D) [rB b4 [sN] 54,rB b3 [iB ((x.kind:Nat):Int),iI x.at_,iI x.count,iI x.to,vS Y x.iZ.length nc] 65,rB b2 [vS T l.length U] 54,rB b1 [vS I c.kZ.length N,iI c.cap] 51] L);replace M:=z_M M;revert a;refine wk ?_;intro a F;refine Bf F M Az 0<|sZ ?_;clear F M a;intro w M;refine wk ?_;refine fun a F=>B1 F M (k:=0) rfl rfl Az rfl rfl rfl rfl ?_
 exact ⟨_,_,A,M.wn dS4,E,H,D,rfl,rfl,O⟩
theorem Aut (M:Mem w0 G L w) {c:RulesD} {O:Option Addr} {T:Nat} (E:Aj Cq 9 G (vS O c.kZ.length T) c.kZ) {U:Option Addr} {V:Nat} {l:List EntD} (S:Aj Bj 6 G (vS U l.length V) l) (A:Bh c l=0) {x:NotD} {Y:Option Addr} {nc:Nat} (I:x.kind < 256∧Al .i64 x.at_∧Al .i64 x.count∧Al .i64 x.to∧x.iZ.length≤9223372036854775807) (H:Aj Bp 4 G (vS Y x.iZ.length nc) x.iZ) (N:x.iZ.length≤900000) (D:Dm x=0):Calls pG (Gs x.kind) #[.agg #[vS O c.kZ.length T,iI c.cap],.agg #[vS U l.length V],.agg #[iB ((x.kind:Nat):Int),iI x.at_,iI x.count,iI x.to,vS Y x.iZ.length nc]] w (I5 w0 G (K5 L (Ga c l x))):=by
 have hk:=(Ft.1 D).1
 rcases (show x.kind=1∨x.kind=2∨x.kind=3∨x.kind=4∨x.kind=5 by omega) with e | e | e | e | e
 ·have h:=k1_spec M E S A I H N D e;rw [show Gs x.kind=122 by rw [e];rfl];exact h
 ·have h:=k2_spec M E S A I H N D e;rw [show Gs x.kind=124 by rw [e];rfl];exact h
 ·have h:=k3_spec M E S A I H N D e;rw [show Gs x.kind=125 by rw [e];rfl];exact h
 ·have h:=k4_spec M E S A I H N D e;rw [show Gs x.kind=127 by rw [e];rfl];exact h
 have h:=k5_spec M E S A I H N D e;rw [show Gs x.kind=129 by rw [e];rfl];exact h
theorem A0d {k:Nat}:Ent pG (Gs k):=by
 unfold Gs
 split
 ·exact ent122
 ·exact ent124
 ·exact ent125
 ·exact ent127
 exact ent129
theorem Ol (M:Mem w0 G L w) {c:RulesD} {I:Option Addr} {N:Nat} (SC:Aj Cq 9 G (vS I c.kZ.length N) c.kZ) {U:Option Addr} {V:Nat} {l:List EntD} (S:Aj Bj 6 G (vS U l.length V) l)  {x:NotD} {Y:Option Addr} {nc:Nat} (hN:x.kind < 256∧Al .i64 x.at_∧Al .i64 x.count∧Al .i64 x.to∧x.iZ.length≤9223372036854775807) (SI:Aj Bp 4 G (vS Y x.iZ.length nc) x.iZ) (hX:x.iZ.length≤900000):Calls pG 28 #[.agg #[vS I c.kZ.length N,iI c.cap],.agg #[vS U l.length V],.agg #[iB ((x.kind:Nat):Int),iI x.at_,iI x.count,iI x.to,vS Y x.iZ.length nc]] w (I5 w0 G (K5 L (L3 c l x))):=by
 have bS:=S.bound;refine Ap (vs:=[_,_,_]) Tryz.func28 rfl (n:=34) rfl rfl<|?_
 refine Bt<|?_
 refine Ch M rfl rfl rfl<|?_;clear M;intro b1 w M
 refine Ch M rfl rfl rfl<|?_;clear M;intro b2 w M
 refine Ch M rfl rfl rfl<|?_;clear M;intro b3 w M
 refine B0 M Az rfl rfl<|?_;clear M;intro b4 w M
 refine wk ?_;refine A2 A0f rfl rfl (Oo (c:=c) (l:=l) M SC S)<|?_;clear M;rintro _ w M rfl
 refine wk ?_;refine Ag rfl ?_ ?_
 ·intro aa;have h6:=dF (Ad aa);refine Bt<|?_
  refine Ak (fun a F=>Am (cs:=[sN]) Az.k rfl Az (F.evp rfl) rfl) rfl<|?_
  refine Cd rfl<|?_
  intro a F;refine Bf F M Az 0<|sZ ?_;clear F M a;intro w M;refine wk ?_;refine fun a F=>B1 F M (k:=0) rfl rfl Az rfl rfl rfl rfl ?_
  exact Gm (appE_no tM) (Gle.refl _) (M.wn tW)
 intro ab;have h7:=dT (Ae ab);refine wk ?_;refine A2 Ahw rfl rfl (Ia (x:=x) M hN SI)<|?_;clear M;rintro _ w M rfl
 refine wk ?_;refine Ag rfl ?_ ?_
 ·intro ac;have h8:=dF (Ad ac);refine Bt<|?_
  refine Ak (fun a F=>Am (cs:=[sN]) Az.k rfl Az (F.evp rfl) rfl) rfl<|?_
  refine Cd rfl<|?_
  intro a F;refine Bf F M Az 0<|sZ ?_;clear F M a;intro w M;refine wk ?_;refine fun a F=>B1 F M (k:=0) rfl rfl Az rfl rfl rfl rfl ?_
  exact Gm (((Vi tM).trans (Apz tM))) (Gle.refl _) (M.wn tW)
 intro ae;have h9:=dT (Ae ae);refine wk ?_;have ag:=(Ft.1 (show Dm x=0 by omega)).1;intro a F;refine Mq [(.free,1),(.pure,2),(.pure,5),(.pure,6),(.pure,7),(.keep,0),(.free,3),(.free,4),(.keep,8),(.free,9),(.free,10),(.chg,11),(.free,12)] [11] (Keep G [rB b3 [iB ((x.kind:Nat):Int),iI x.at_,iI x.count,iI x.to,vS Y x.iZ.length nc] 65,rB b2 [vS U l.length V] 54,rB b1 [vS I c.kZ.length N,iI c.cap] 51]) rfl kR kF (Aw (M.drew _)) ?_;replace M:=M.drew (w.drawn+1);revert a;refine wk ?_;refine k_k rfl<|A2 Sb rfl rfl (Gv M)<|?_;clear M;rintro _ w M rfl
 refine Ao<|?_
 refine eQ (Aw M)<|k_f (fun a F w _=>Gr (j:=x.kind) Ha.k C4 rfl (F.ev rfl) (F.ev rfl) rfl tM (us:=[qT (Cb x.kind),vB (decide (uAt x.kind)),vB (decide (uCo x.kind)),vB (decide (uTo x.kind)),vB (decide (uIt x.kind)),.func (.func (Gs x.kind)) #[] #[]]) (Jr tM)) rfl<|k_f (fun a F w _=>Ajt C4.k rfl tok67 rfl (F.ev rfl) rfl) rfl<|k_k rfl<|fun a F=>?_
 refine Aqw F A0d rfl rfl rfl (Aut M SC S tM hN SI hX tM) ?_;clear F M a;rintro _ O _ w a D M ⟨A,H,E,rfl,rfl,T⟩ F;have M:=M.perm (Bk (C0 A (Ga c l x).1.length H::E) [rB b4 [sN] 54,rB b3 [iB ((x.kind:Nat):Int),iI x.at_,iI x.count,iI x.to,vS Y x.iZ.length nc] 65,rB b2 [vS U l.length V] 54,rB b1 [vS I c.kZ.length N,iI c.cap] 51] L);replace M:=z_M M;revert a;refine Ao<|?_
 refine eK (C':=Keep O [rB b3 [iB ((x.kind:Nat):Int),iI x.at_,iI x.count,iI x.to,vS Y x.iZ.length nc] 65,rB b2 [vS U l.length V] 54,rB b1 [vS I c.kZ.length N,iI c.cap] 51]) (Aw M) (fun w h=>h.mono D (by simp))<|wk ?_;refine k_c rfl<|fun a F=>?_
 refine Bf F M Az 0 ?_;clear F M a;intro w a M F;change Mem w0 O (rB b4 [vS A ((Ga c l x).1.length) ((Ga c l x).1.length)] 54::_::_::_::((C0 A (Ga c l x).1.length H::E)++L)) _ at M;revert a;refine Ao<|?_
 refine fun a F=>⟨Keep O [rB b4 [vS A ((Ga c l x).1.length) ((Ga c l x).1.length)] 54,rB b3 [iB ((x.kind:Nat):Int),iI x.at_,iI x.count,iI x.to,vS Y x.iZ.length nc] 65,rB b2 [vS U l.length V] 54,rB b1 [vS I c.kZ.length N,iI c.cap] 51],M.keep (Gle.refl _) (by simp),?_⟩;revert a;refine wk ?_;refine fun a F=>B1 F M (k:=0) rfl rfl Az rfl rfl rfl rfl ?_;rw [Vi tM]
 exact ⟨_,_,D,M.wn dS4,A,H,E,rfl,rfl,T⟩
theorem Od (M:Mem w0 G L w) {c:RulesD} {ah:Option Addr} {ai:Nat} (SC:Aj Cq 9 G (vS ah c.kZ.length ai) c.kZ) {a1:Option Addr} {c1:Nat} {l:List EntD} (S:Aj Bj 6 G (vS a1 l.length c1) l) (ag:Bh c l=0) {x:NotD} {na:Option Addr} {nc:Nat} (hN:x.kind < 256∧Al .i64 x.at_∧Al .i64 x.count∧Al .i64 x.to∧x.iZ.length≤9223372036854775807) (SI:Aj Bp 4 G (vS na x.iZ.length nc) x.iZ) (hX:x.iZ.length≤900000):Calls pG 27 #[.agg #[vS ah c.kZ.length ai,iI c.cap],vS a1 l.length c1,.agg #[iB ((x.kind:Nat):Int),iI x.at_,iI x.count,iI x.to,vS na x.iZ.length nc]] w (Ret w0 G L fun G' v=>∃ (a:Option Addr) (cc:Nat),v=.tuple #[vS a (Ga c l x).1.length cc,iI (Ga c l x).2]∧Aj Bj 6 G' (vS a (Ga c l x).1.length cc) (Ga c l x).1):=by
 have N:=(Dz ag).1;have a3:=(Dz ag).2.1;have bS:=S.bound;have a4:=Adb x;refine Ap (vs:=[_,_,_]) Tryz.func27 rfl (n:=65) rfl rfl<|?_
 refine Bt<|?_
 refine Ch M rfl rfl rfl<|?_;clear M;intro b1 w M
 refine Ch M rfl rfl rfl<|?_;clear M;intro b2 w M
 refine wk ?_;refine A2 Apq rfl rfl (J2 (x:=x) M hN SI)<|?_;clear M;rintro _ w M rfl
 refine wk ?_;refine qD rfl ?_ ?_
 ·intro h3;refine wk ?_;refine A2 Apq rfl rfl (J2 (x:=x) M hN SI)<|?_;clear M;rintro _ w M rfl
  refine wk ?_;refine Co rfl rfl rfl<|?_
  exact ⟨_,(Gle.refl _),M.wn dS2,none,0,by rw [Apz tM];rfl,by rw [Apz tM];exact Aj.nil⟩
 intro h4;refine wk ?_;have a2:=(Ft.1 (show Dm x=0 by omega)).1;refine wk ?_;refine qD rfl ?_ ?_
 ·intro h5;refine wk ?_;refine C3 ent70 rfl rfl (Ahj (c:=c) (l:=l) (z:=x.at_) (xs:=x.iZ) M SC N S SI tM tM)<|?_;clear M;rintro _ au w H M ⟨al,an,rfl,aj⟩
  replace SC:=SC.mono Ai H;replace S:=S.mono Ab H;replace SI:=SI.mono Ac H;refine wk ?_;refine Co rfl rfl rfl<|?_
  exact ⟨_,H,M.wn dS2,al,an,by rw [Aio tM tM],by rw [Aio tM tM];exact aj⟩
 intro h7;refine wk ?_;refine qD rfl ?_ ?_
 ·intro h8;refine wk ?_;refine C3 ent71 rfl rfl (Afx (l:=l) (z:=x.at_) (n:=x.count) M S tM)<|?_;clear M;rintro _ av w I M ⟨am,ao,rfl,ak⟩
  replace SC:=SC.mono Ai I;replace S:=S.mono Ab I;replace SI:=SI.mono Ac I;refine wk ?_;refine Co rfl rfl rfl<|?_
  exact ⟨_,I,M.wn dS2,am,ao,by rw [Abf tM tM],by rw [Abf tM tM];exact ak⟩
 intro aw;refine wk ?_;refine qD rfl ?_ ?_
 ·intro ax;refine wk ?_;refine C3 ent72 rfl rfl (Ayh (l:=l) (z:=x.at_) (n:=x.count) (b:=x.to) M S tM)<|?_;clear M;rintro _ ap w A M ⟨V,ab,rfl,O⟩
  replace SC:=SC.mono Ai A;replace S:=S.mono Ab A;replace SI:=SI.mono Ac A;refine wk ?_;refine Co rfl rfl rfl<|?_
  exact ⟨_,A,M.wn dS2,V,ab,by rw [Abe tM tM],by rw [Abe tM tM];exact O⟩
 intro ay;refine wk ?_;refine qD rfl ?_ ?_
 ·intro az;refine wk ?_;refine C3 ent73 rfl rfl (A1x (c:=c) (l:=l) (z:=x.at_) (xs:=x.iZ) M SC N S SI tM)<|?_;clear M;rintro _ aq w D M ⟨Y,ac,rfl,T⟩
  replace SC:=SC.mono Ai D;replace SI:=SI.mono Ac D;refine wk ?_;refine Co rfl rfl rfl<|?_
  exact ⟨_,D,M.wn dS2,Y,ac,by rw [Aqb tM tM],by rw [Aqb tM tM];exact T⟩
 intro a0;refine wk ?_;refine C3 ent74 rfl rfl (Awx (c:=c) (xs:=x.iZ) M SC N SI tM)<|?_;clear M;rintro _ ar w E M ⟨aa,ae,rfl,U⟩
 refine wk ?_;refine Co rfl rfl rfl<|?_
 exact ⟨_,E,M.wn dS2,aa,ae,by rw [Aqa tM tM],by rw [Aqa tM tM];exact U⟩
theorem Akk (M:Mem w0 G L w) {c:RulesD} {A:Option Addr} {D:Nat} (SC:Aj Cq 9 G (vS A c.kZ.length D) c.kZ) {I:Option Addr} {N i:Nat} {l:List EntD} {ns:List NotD} (S:Aj Bj 6 G (vS I (Ck c l ns i).1.length N) (Ck c l ns i).1) (H:Bh c l=0) (T:(Ck c l ns i).2=0) {x:NotD} {V:Option Addr} {Y:Nat} (hN:x.kind < 256∧Al .i64 x.at_∧Al .i64 x.count∧Al .i64 x.to∧x.iZ.length≤9223372036854775807) (SI:Aj Bp 4 G (vS V x.iZ.length Y) x.iZ) (U:ns[i]?=some x) (E:∀ x∈ns,x.iZ.length≤900000) :
  Calls pG 27 #[.agg #[vS A c.kZ.length D,iI c.cap],vS I (Ck c l ns i).1.length N,.agg #[iB ((x.kind:Nat):Int),iI x.at_,iI x.count,iI x.to,vS V x.iZ.length Y]] w (Ret w0 G L fun G' v=>∃ (a:Option Addr) (O:Nat),v=.tuple #[vS a (Ck c l ns (i+1)).1.length O,iI (Ck c l ns (i+1)).2]∧Aj Bj 6 G' (vS a (Ck c l ns (i+1)).1.length O) (Ck c l ns (i+1)).1):=by
 rw [Hk T U]
 exact Od M SC S (Pb H T) hN SI (E _ (mG U))
theorem Azj {c:RulesD} {l:List EntD} {a:Int} {xs:List ItemD}:0≤(Gy c l a xs).2:=by
 unfold Gy;have:=Azn (c:=c) (l:=l) (xs:=xs)
 repeat' split
 all_goals first | exact Int.le_refl 0 | (show (0:Int)≤_;first | omega | (unfold Dp;split <;> decide))
theorem chg_nn {c:RulesD} {l:List EntD} {a:Int} {xs:List ItemD}:0≤(Jw c l a xs).2:=by
 unfold Jw
 repeat' split
 all_goals first | exact Int.le_refl 0 | (show (0:Int)≤_;first | omega | (unfold Dp;split <;> decide) | exact Ts (fun i=>by unfold Js;split;(unfold Q3;repeat' split);all_goals decide) _)
theorem appR_nn {c:RulesD} {l:List EntD} {x:NotD}:0≤(Ga c l x).2:=by
 have:=Adb x;unfold Ga
 repeat' split
 ·exact this
 ·exact Azj
 ·unfold M9;split <;> first | exact Int.le_refl 0 | (show (0:Int)≤4;decide)
 ·unfold Iv;split <;> first | exact Int.le_refl 0 | (show (0:Int)≤4;decide)
 ·exact chg_nn
 exact Azj
theorem app_nn {c:RulesD} {l:List EntD} {ns:List NotD} {i:Nat} {x:NotD} (h:Bh c l=0) (A:(Ck c l ns i).2=0) (D:ns[i]?=some x):0≤(Ck c l ns (i+1)).2:=by
 rw [Hk A D];exact appR_nn
theorem Ajy (M:Mem w0 G L w) {c:RulesD} {I:Option Addr} {N:Nat} (SC:Aj Cq 9 G (vS I c.kZ.length N) c.kZ) {a1:Option Addr} {c1:Nat} {l:List EntD} (S:Aj Bj 6 G (vS a1 l.length c1) l) (ai:Bh c l=0) {an:Option Addr} {cn:Nat} {ns:List NotD} (SN:Aj Ct 5 G (vS an ns.length cn) ns) (am:∀ x∈ns,x.iZ.length≤900000):Calls pG 24 #[.agg #[vS I c.kZ.length N,iI c.cap],vS a1 l.length c1,vS an ns.length cn] w (Ret w0 G L fun G' v=>∃ (a:Option Addr) (cc:Nat),v=.tuple #[vS a (Ax c l ns).1.length cc,iI (((Ax c l ns).2.1:Nat):Int),iI (Ax c l ns).2.2]∧Aj Bj 6 G' (vS a (Ax c l ns).1.length cc) (Ax c l ns).1):=by
 have bS:=S.bound;have bN:=SN.bound;refine Ap (vs:=[_,_,_]) Tryz.func24 rfl (n:=39) rfl rfl<|?_
 refine Bt<|?_
 refine Ch M rfl rfl rfl<|?_;clear M;intro b1 w M
 refine wk ?_;refine qD rfl ?_ ?_
 ·intro h2;refine wk ?_;refine Hc rfl rfl rfl rfl<|?_
  exact ⟨_,(Gle.refl _),M.wn dS1,none,0,by rw [Aqd tM];rfl,by rw [Aqd tM];exact Aj.nil⟩
 intro h3;refine wk ?_;refine fun a F=>Bd (fun m a' w'=>∃ (i:Nat),∃ (ag:Option Addr),∃ (cg:Nat),m=ns.length - i∧∃ T,Gle G T∧Fits 39 a' [(2,vS an ns.length cn),(3,pP b1),(1,vS ag ((Ck c l ns i).1.length) (cg)),(9,iI ((i:Nat):Int))]∧Mem w0 T (rB b1 [vS I c.kZ.length N,iI c.cap] 51::L) w'∧(i≤ns.length)∧((Ck c l ns i).2=0)∧(Aj Bj 6 T (vS ag (Ck c l ns i).1.length cg) (Ck c l ns i).1)) _ ⟨0,a1,c1,rfl,G,Gle.refl _,fU,M,Nat.zero_le _,rfl,S⟩ ?_;clear F M;rintro m a w ⟨i,ag,cg,rfl,T,D,F,M,hi,O,Sg⟩;replace SC:=SC.mono Ai D;replace SN:=SN.mono Aa D;revert a;refine wk ?_;refine qD rfl ?_ ?_
 ·intro h5;refine wk ?_;refine fun a F=>Dv [(true,0),(true,1),(true,2),(true,3),(true,4),(true,5),(false,6),(true,7),(true,8),(true,9),(true,10),(true,11)] (Keep T [rB b1 [vS I c.kZ.length N,iI c.cap] 51]) rfl kR kF (Aw (M.drew _)) ?_;replace M:=M.drew (w.drawn+1);revert a;refine wk ?_;obtain ⟨E,H⟩:=Aq (xs:=ns) (i:=i) tM;obtain ⟨ar,av,_,aq,_,Ae6,ah⟩:=SN.at H;obtain ⟨ao,ap,rfl,V,Y,aa,ab,ac,SIe6⟩:=ah;have ae:E.kind < 256∧Al .i64 E.at_∧Al .i64 E.count∧Al .i64 E.to∧E.iZ.length≤9223372036854775807:=⟨V,Y,aa,ab,ac⟩;refine wk ?_;refine l_a rfl<|C3 A0k rfl rfl (Akk (c:=c) (ns:=ns) M SC Sg ai O ae SIe6 H am)<|?_;clear M;rintro _ U w A M ⟨ak,al,rfl,aj⟩
  replace Sg:=Sg.mono Ab A;replace Ae6:=Ae6.mono A;refine Ao<|?_
  refine eK (C':=Keep U [rB b1 [vS I c.kZ.length N,iI c.cap] 51]) (Aw M) (fun w h=>h.mono A (by simp))<|wk ?_;refine qD rfl ?_ ?_
  ·intro h8;refine wk ?_;refine Hc rfl rfl rfl rfl<|?_
   exact ⟨_,(D.trans A),M.wn dS1,none,0,by rw [Aqc tM O tM tM];rfl,by rw [Aqc tM O tM tM];exact Aj.nil⟩
  intro h9;refine wk ?_;intro a F
  exact ⟨_,tM,i+1,ak,al,rfl,U,(D.trans A),fU,M,tM,(by have:=app_nn ai O H;omega),aj⟩
 intro au;refine wk ?_;refine Hc rfl rfl rfl rfl<|?_
 exact ⟨_,D,M.wn dS1,ag,cg,by rw [Abh tM O tM],by rw [Abh tM O tM];exact Sg⟩
theorem Akv (M:Mem w0 G L w) {c:RulesD} {A:Option Addr} {D:Nat} (Y:Aj Cq 9 G (vS A c.kZ.length D) c.kZ) {I:Option Addr} {N i:Nat} {l:List EntD} {ns:List NotD} (S:Aj Bj 6 G (vS I (Ck c l ns i).1.length N) (Ck c l ns i).1) (H:Bh c l=0) (O:(Ck c l ns i).2=0) {x:NotD} {U:Option Addr} {V:Nat} (hN:x.kind < 256∧Al .i64 x.at_∧Al .i64 x.count∧Al .i64 x.to∧x.iZ.length≤9223372036854775807) (SI:Aj Bp 4 G (vS U x.iZ.length V) x.iZ) (T:ns[i]?=some x) (E:∀ x∈ns,x.iZ.length≤900000) :
  Calls pG 28 #[.agg #[vS A c.kZ.length D,iI c.cap],.agg #[vS I (Ck c l ns i).1.length N],.agg #[iB ((x.kind:Nat):Int),iI x.at_,iI x.count,iI x.to,vS U x.iZ.length V]] w (I5 w0 G (K5 L (Ck c l ns (i+1)))):=by
 rw [Hk O T,← Vi (Pb H O)]
 exact Ol M Y S hN SI (E _ (mG T))
theorem Ahd (M:Mem w0 G L w) {c:RulesD} {A:Option Addr} {D:Nat} (N:Aj Cq 9 G (vS A c.kZ.length D) c.kZ) {H:Option Addr} {I:Nat} {l:List EntD} (S:Aj Bj 6 G (vS H l.length I) l) (E:Bh c l=0) {ns:List NotD}:Calls pG 69 #[.agg #[vS A c.kZ.length D,iI c.cap],.agg #[vS H l.length I],iI 0,iI 0] w (I5 w0 G (K5 L (Ck c l ns 0))):=by
 rw [Awk,← rem_00]
 exact R4 M N S E
theorem Z9 (M:Mem w0 G L w) {c:RulesD} {Y:Option Addr} {aa:Nat} (SC:Aj Cq 9 G (vS Y c.kZ.length aa) c.kZ) {a1:Option Addr} {c1:Nat} {l:List EntD} (S:Aj Bj 6 G (vS a1 l.length c1) l)  {an:Option Addr} {cn:Nat} {ns:List NotD} (SN:Aj Ct 5 G (vS an ns.length cn) ns) (a5:∀ x∈ns,x.iZ.length≤900000):Calls pG 25 #[.agg #[vS Y c.kZ.length aa,iI c.cap],.agg #[vS a1 l.length c1],vS an ns.length cn] w (I5 w0 G (fun G' L' v=>∃ (a:Option Addr) (cs:List Value) (Ls:List Res),v=.tuple #[.agg #[vS a (O2 c l ns).1.length (O2 c l ns).1.length],iI (((O2 c l ns).2.1:Nat):Int),iI (O2 c l ns).2.2]∧L' = (C0 a (O2 c l ns).1.length cs::(Ls++L))∧Els (Nt Ls) 6 G' cs (O2 c l ns).1)):=by
 have bS:=S.bound;have bN:=SN.bound;refine Ap (vs:=[_,_,_]) Tryz.func25 rfl (n:=53) rfl rfl<|?_
 refine Bt<|?_
 refine Ch M rfl rfl rfl<|?_;clear M;intro b1 w M
 refine Ch M rfl rfl rfl<|?_;clear M;intro b2 w M
 refine B0 M Az rfl rfl<|?_;clear M;intro b3 w M
 refine wk ?_;refine A2 A0f rfl rfl (Oo (c:=c) (l:=l) M SC S)<|?_;clear M;rintro _ w M rfl
 refine wk ?_;refine Ag rfl ?_ ?_
 ·intro a3;have h5:=dF (Ad a3);refine Bt<|?_
  refine Ak (fun a F=>Am (cs:=[sN]) Az.k rfl Az (F.evp rfl) rfl) rfl<|?_
  refine Cd rfl<|?_
  intro a F;refine Bf F M Az 0<|sZ ?_;clear F M a;intro w M;refine wk ?_;refine fun a F=>Jj F M (k:=0) rfl rfl Az rfl rfl rfl rfl rfl ?_;rw [allE_no tM]
  exact ⟨_,_,(Gle.refl _),(M.wn (cN (.cons _ (cN (sR _))))).nilrow 69 6,none,[],[],rfl,rfl,Els.nil⟩
 intro a4;have h6:=dT (Ae a4);refine wk ?_;have ai:Bh c l=0:=by omega
 refine wk ?_;refine qD rfl ?_ ?_
 ·intro h7;refine Bt<|?_
  refine Ak (fun a F=>Am (cs:=[sN]) Az.k rfl Az (F.evp rfl) rfl) rfl<|fun a F=>?_
  refine Bf F M Az 0<|sZ ?_;clear F M a;intro w M;refine wk ?_;refine fun a F=>Jj F M (k:=0) rfl rfl Az rfl rfl rfl rfl rfl ?_;rw [(Lt tM).trans (Aqd tM)]
  exact ⟨_,_,(Gle.refl _),(M.wn (cN (.cons _ (cN (sR _))))).nilrow 69 6,none,[],[],rfl,rfl,Els.nil⟩
 intro h8;refine wk ?_;intro a F;refine Cs F ent69 rfl rfl (Ahd (ns:=ns) M SC S ai) ?_;clear F M a;rintro _ az _ w a U M ⟨ak,al,aj,rfl,rfl,ay⟩ F;replace SC:=SC.mono Ai U;replace SN:=SN.mono Aa U;have M:=M.perm (Bk (C0 ak (Ck c l ns 0).1.length al::aj) [rB b3 [sN] 54,rB b2 [vS a1 l.length c1] 54,rB b1 [vS Y c.kZ.length aa,iI c.cap] 51] L);replace M:=z_M M;revert a;refine wk ?_;intro a F;refine Bf F M Az 0<|sZ ?_;clear F M a;intro w M;refine wk ?_;refine fun a F=>Bd (fun m a' w'=>∃ (i:Nat),∃ (ao:Option Addr),∃ (ac:List Value),∃ (Lo:List Res),∃ (z:Int),m=ns.length - i∧∃ ag,Gle az ag∧Fits 53 a' [(2,vS an ns.length cn),(3,pP b1),(4,pP b2),(6,pP b3),(29,vS an ns.length cn),(30,iI ((ns.length:Nat):Int)),(31,iI ((i:Nat):Int)),(8,iI z)]∧Mem w0 ag (rB b3 [vS ao ((Ck c l ns i).1.length) ((Ck c l ns i).1.length)] 54::rB b2 [vS a1 l.length c1] 54::rB b1 [vS Y c.kZ.length aa,iI c.cap] 51::((C0 ao (Ck c l ns i).1.length ac::Lo)++L)) w'∧(i≤ns.length)∧((Ck c l ns i).2=0)∧(Els (Nt Lo) 6 ag ac (Ck c l ns i).1)∧(z=0)) _ ⟨0,ak,al,aj,_,rfl,az,Gle.refl _,fU,M,Nat.zero_le _,rfl,ay,rfl⟩ ?_;clear F M;rintro m a w ⟨i,ao,ac,Lo,z,rfl,ag,H,F,M,hi,hR,Eo,hz⟩;replace SC:=SC.mono Ai H
 replace SN:=SN.mono Aa H;revert a;refine wk ?_;refine qD rfl ?_ ?_
 ·intro a9;refine wk ?_;obtain ⟨A,ae⟩:=Aq (xs:=ns) (i:=i) tM;obtain ⟨a7,a8,_,a6,_,Ae12,ax⟩:=SN.at ae;obtain ⟨O,T,rfl,ap,aq,ar,au,av,SIe12⟩:=ax;have aw:A.kind < 256∧Al .i64 A.at_∧Al .i64 A.count∧Al .i64 A.to∧A.iZ.length≤9223372036854775807:=⟨ap,aq,ar,au,av⟩;refine wk ?_;refine B0 M Ba rfl rfl<|?_;clear M;intro ah w M
  refine Dq rfl<|?_
  intro a F;refine Bf F M Ba 0<|sZ ?_;clear F M a;intro w M;refine wk ?_;obtain ⟨Gg,V,M,Sg⟩:=Gl (M.perm (Bk [rB ah [iB ((A.kind:Nat):Int),iI A.at_,iI A.count,iI A.to,vS O A.iZ.length T] 65,rB b3 [vS ao ((Ck c l ns i).1.length) ((Ck c l ns i).1.length)] 54,rB b2 [vS a1 l.length c1] 54,rB b1 [vS Y c.kZ.length aa,iI c.cap] 51] (C0 ao (Ck c l ns i).1.length ac::Lo) L)) Eo;replace SC:=SC.mono Ai V;replace Ae12:=Ae12.mono V;replace SIe12:=SIe12.mono Ac V;replace M:=z_M M;refine wk ?_;intro a F;refine Cs F A0j rfl rfl (Akv (ns:=ns) M SC Sg ai hR aw SIe12 ae a5) ?_;clear F M a;rintro _ ab _ w a D M ⟨E,N,I,rfl,rfl,am⟩ F;replace Ae12:=Ae12.mono D;have M:=M.perm (Bk (C0 E ((Ck c l ns (i+1))).1.length N::I) [rB ah [iB ((A.kind:Nat):Int),iI A.at_,iI A.count,iI A.to,vS O A.iZ.length T] 65,rB b3 [vS ao ((Ck c l ns i).1.length) ((Ck c l ns i).1.length)] 54,rB b2 [vS a1 l.length c1] 54,rB b1 [vS Y c.kZ.length aa,iI c.cap] 51] L);replace M:=z_M M;revert a;refine wk ?_;intro a F;refine Bf F M Az 1 ?_;clear F M a;intro w a M F;change Mem w0 ab (rB ah [iB ((A.kind:Nat):Int),iI A.at_,iI A.count,iI A.to,vS O A.iZ.length T] 65::rB b3 [vS E (((Ck c l ns (i+1))).1.length) (((Ck c l ns (i+1))).1.length)] 54::_::_::((C0 E ((Ck c l ns (i+1))).1.length N::I)++L)) _ at M
  revert a;refine Dq rfl<|Bt<|Cd rfl<|Awi rfl rfl<|Ao<|Gd<|?_
  refine Ag rfl ?_ ?_
  ·intro a0;have aA:=dF (Ad a0);refine Bt<|?_
   refine Ak (fun a F=>Am (cs:=[sN]) Az.k rfl Az (F.evp rfl) rfl) rfl<|?_
   refine Cd rfl<|Cd rfl<|?_
   intro a F;refine Bf F M Az 1 ?_;clear F M a;intro w a M F;change Mem w0 ab (rB ah [iB ((A.kind:Nat):Int),iI A.at_,iI A.count,iI A.to,vS O A.iZ.length T] 65::rB b3 [sN] 54::_::_::((C0 E ((Ck c l ns (i+1))).1.length N::I)++L)) _ at M;revert a;refine Dq rfl<|Dq rfl<|Fl<|Iw<|Fu<|Fu<|Iw<|Fu<|?_
   refine fun a F=>Jj F M (k:=1) rfl rfl Az rfl rfl rfl rfl rfl ?_;rw [(Lt ai).trans (Aqc tM hR tM tM)]
   exact ⟨_,_,(((U.trans H).trans V).trans D),(M.wn (cN (.cons _ (cN (.cons _ (List.sublist_append_right _ _)))))).nilrow 69 6,none,[],[],rfl,rfl,Els.nil⟩
  intro a2;have aB:=dT (Ae a2);refine wk ?_;intro a F
  exact ⟨_,tM,i+1,E,N,I,_,rfl,ab,((H.trans V).trans D),fU,(M.wn tW),tM,tM,am,tM⟩
 intro aC;refine wk ?_;intro a F;refine Bf F M Az 0<|sZ ?_;clear F M a;intro w M;refine wk ?_;refine fun a F=>Jj F M (k:=0) rfl rfl Az rfl rfl rfl rfl rfl ?_;subst hz;rw [Lt ai,Abh tM hR tM]
 exact ⟨_,_,(U.trans H),M.wn dS3,ao,ac,Lo,rfl,rfl,Eo⟩
deriving instance DecidableEq for EntD
deriving instance DecidableEq for NotD
theorem Axx {x y:NotD} (I:((x.kind:Nat):Int)=((y.kind:Nat):Int)) (A:x.at_=y.at_) (D:x.count=y.count) (E:x.to=y.to) (H:x.iZ=y.iZ):x=y:=by
 cases x;cases y;simp only [NotD.mk.injEq] at *;exact ⟨tM,A,D,E,H⟩
theorem ent_ext {x y:EntD} (A:x.size=y.size) (D:x.known=y.known) (E:x.item=y.item):x=y:=by
 cases x;cases y;simp only [EntD.mk.injEq] at *;exact ⟨E,A,D⟩
theorem Afo (M:Mem w0 G L w) {x y:NotD} {na V:Option Addr} {nc Y:Nat} (hN:x.kind < 256∧Al .i64 x.at_∧Al .i64 x.count∧Al .i64 x.to∧x.iZ.length≤9223372036854775807) (SI:Aj Bp 4 G (vS na x.iZ.length nc) x.iZ) (hM:y.kind < 256∧Al .i64 y.at_∧Al .i64 y.count∧Al .i64 y.to∧y.iZ.length≤9223372036854775807) (SJ:Aj Bp 4 G (vS V y.iZ.length Y) y.iZ):Calls pG 40 #[.agg #[iB ((x.kind:Nat):Int),iI x.at_,iI x.count,iI x.to,vS na x.iZ.length nc],.agg #[iB ((y.kind:Nat):Int),iI y.at_,iI y.count,iI y.to,vS V y.iZ.length Y]] w (B5 w0 G L fun v=>v=iI (if x=y then (1:Int) else 0)):=by
 refine Ap (vs:=[_,_]) Tryz.func40 rfl (n:=36) rfl rfl<|?_
 refine Bt<|?_
 refine Ch M rfl rfl rfl<|?_;clear M;intro b1 w M
 refine Ch M rfl rfl rfl<|?_;clear M;intro b2 w M
 refine wk ?_
 rcases bE (!(decide (((x.kind:Nat):Int)=((y.kind:Nat):Int)))) with E | H
 ·skip
  have h3:=dF (Ad E);refine wk ?_;refine Af rfl rfl<|?_
  exact ⟨M.wn dS2,by rw [if_neg (fun A=>by subst A;clear M;omega)]⟩
 have h4:=dT (Ae H);refine wk ?_
 rcases bE (!(decide (x.at_=y.at_))) with I | N
 ·skip
  have h5:=dF (Ad I);refine wk ?_;refine Af rfl rfl<|?_
  exact ⟨M.wn dS2,by rw [if_neg (fun A=>by subst A;clear M;omega)]⟩
 have h6:=dT (Ae N);refine wk ?_
 rcases bE (!(decide (x.count=y.count))) with O | S
 ·skip
  have h7:=dF (Ad O);refine wk ?_;refine Af rfl rfl<|?_
  exact ⟨M.wn dS2,by rw [if_neg (fun A=>by subst A;clear M;omega)]⟩
 have h8:=dT (Ae S);refine wk ?_;refine Ag rfl ?_ ?_
 ·intro U;have h9:=dF (Ad U);refine wk ?_;refine Af rfl rfl<|?_
  exact ⟨M.wn dS2,by rw [if_neg (fun A=>by subst A;clear M;omega)]⟩
 intro D;have aa:=dT (Ae D);refine wk ?_;refine A2 ent13 rfl rfl (P9 (xs:=x.iZ) (ys:=y.iZ) M SI SJ)<|?_;clear M;rintro _ w M rfl
 refine wk ?_;refine Af rfl rfl<|?_
 exact ⟨M.wn dS2,by by_cases A:x.iZ=y.iZ;rw [if_pos A,if_pos (Axx tM tM tM tM A)];rw [if_neg A,if_neg (fun T=>A (congrArg NotD.iZ T))]⟩
theorem Km (M:Mem w0 G L w) {a1:Option Addr} {c1:Nat} {xs:List NotD} (S:Aj Ct 5 G (vS a1 xs.length c1) xs) {a2:Option Addr} {c2:Nat} {ys:List NotD} (T:Aj Ct 5 G (vS a2 ys.length c2) ys):Calls pG 34 #[vS a1 xs.length c1,vS a2 ys.length c2] w (B5 w0 G L fun v=>v=iI (if xs=ys then (1:Int) else 0)):=by
 have bS:=S.bound;have bT:=T.bound;refine Ap (vs:=[_,_]) Tryz.func34 rfl (n:=27) rfl rfl<|wk ?_;refine Ag rfl ?_ ?_
 ·intro am;have h1:=dF (Ad am);refine wk ?_;refine Af rfl rfl<|?_
  exact ⟨M,by rw [if_neg (fun h_=>absurd (congrArg List.length h_) tM)]⟩
 intro an;have h2:=dT (Ae an);refine wk ?_;refine fun a F=>Bd (fun m a' w'=>∃ (i:Nat),m=xs.length - i∧Fits 27 a' [(0,vS a1 xs.length c1),(1,vS a2 ys.length c2),(5,iI ((i:Nat):Int))]∧Mem w0 G (L) w'∧(i≤xs.length)∧(∀ m,m < i→xs[m]?=ys[m]?)) _ ⟨0,rfl,fU,M,Nat.zero_le _,fun m h=>by omega⟩ ?_;clear F M;rintro m a w ⟨i,rfl,F,M,hi,hA⟩;revert a;refine wk ?_;refine qD rfl ?_ ?_
 ·intro h3;refine wk ?_;refine fun a F=>Dv [(true,0),(true,1),(true,2),(true,3),(true,4),(true,5),(true,6),(true,7),(false,8),(true,9)] (Keep G []) rfl kR kF (Aw (M.drew _)) ?_;replace M:=M.drew (w.drawn+1);revert a;refine wk ?_;obtain ⟨A,E⟩:=Aq (xs:=xs) (i:=i) tM;obtain ⟨ay,a0,_,aw,_,au,ak⟩:=S.at E;obtain ⟨ao,aq,rfl,O,V,aa,ac,ag,I⟩:=ak;have ai:A.kind < 256∧Al .i64 A.at_∧Al .i64 A.count∧Al .i64 A.to∧A.iZ.length≤9223372036854775807:=⟨O,V,aa,ac,ag⟩;refine wk ?_;obtain ⟨D,H⟩:=Aq (xs:=ys) (i:=i) tM;obtain ⟨az,a3,_,ax,_,av,al⟩:=T.at H;obtain ⟨ap,ar,rfl,U,Y,ab,ae,ah,N⟩:=al;have aj:D.kind < 256∧Al .i64 D.at_∧Al .i64 D.count∧Al .i64 D.to∧D.iZ.length≤9223372036854775807:=⟨U,Y,ab,ae,ah⟩;refine wk ?_;refine l_a rfl<|A2 ent40 rfl rfl (Afo (x:=A) (y:=D) M ai I aj N)<|?_;clear M;rintro _ w M rfl
  refine Ao<|?_
  refine eQ (Aw M)<|wk ?_;refine qD rfl ?_ ?_
  ·intro h6;refine wk ?_;refine Af rfl rfl<|?_
   exact ⟨M,by rw [if_neg (Pi E H (fun h_=>by rw [if_pos h_] at *;omega))]⟩
  intro h7;refine wk ?_;intro a F
  exact ⟨_,tM,i+1,rfl,fU,M,tM,Vf hA E H (Classical.byContradiction fun h_=>by rw [if_neg h_] at *;omega)⟩
 intro h8;refine wk ?_;refine Af rfl rfl<|?_
 exact ⟨M,by rw [if_pos (Adx hA tM tM)]⟩
theorem Adr {x y:EntD} (D:x.size=y.size) (E:x.known=y.known):((if x.item=y.item then (1:Int) else 0)=0)↔x≠y:=by
 by_cases h:x.item=y.item
 ·rw [if_pos h];exact ⟨fun A=>(by cases A),fun A=>absurd (ent_ext D E h) A⟩
 rw [if_neg h];exact ⟨fun _ A=>h (congrArg EntD.item A),fun _=>rfl⟩
theorem Hl (M:Mem w0 G L w) {a1:Option Addr} {c1:Nat} {xs:List EntD} (S:Aj Bj 6 G (vS a1 xs.length c1) xs) {a2:Option Addr} {c2:Nat} {ys:List EntD} (T:Aj Bj 6 G (vS a2 ys.length c2) ys):Calls pG 26 #[vS a1 xs.length c1,vS a2 ys.length c2] w (B5 w0 G L fun v=>v=iI (if xs=ys then (1:Int) else 0)):=by
 have bS:=S.bound;have bT:=T.bound;refine Ap (vs:=[_,_]) Tryz.func26 rfl (n:=55) rfl rfl<|wk ?_;refine Ag rfl ?_ ?_
 ·intro aB;have h1:=dF (Ad aB);have cj:(decide (((xs.length:Nat):Int)=((ys.length:Nat):Int)))=false:=(Ad aB);refine wk ?_;refine Af rfl rfl<|?_
  exact ⟨M,by rw [if_neg (fun I=>absurd (congrArg List.length I) tM)]⟩
 intro aC;have h2:=dT (Ae aC);have ck:(decide (((xs.length:Nat):Int)=((ys.length:Nat):Int)))=true:=(Ae aC);refine wk ?_;refine fun a F=>Bd (fun m a' w'=>∃ (i:Nat),m=xs.length - i∧Fits 55 a' [(0,vS a1 xs.length c1),(1,vS a2 ys.length c2),(5,iI ((i:Nat):Int))]∧Mem w0 G (L) w'∧(i≤xs.length)∧(∀ m,m < i→xs[m]?=ys[m]?)) _ ⟨0,rfl,fU,M,Nat.zero_le _,fun m h=>by omega⟩ ?_;clear F M;rintro m a w ⟨i,rfl,F,M,hi,hA⟩;revert a;refine wk ?_;refine qD rfl ?_ ?_
 ·intro h3;refine wk ?_;obtain ⟨D,N⟩:=Aq (xs:=xs) (i:=i) tM;obtain ⟨E,O⟩:=Aq (xs:=ys) (i:=i) tM;intro a F;refine I6 (fun a' w'=>∃ (bb:Bool),Fits 55 a' [(0,vS a1 xs.length c1),(1,vS a2 ys.length c2),(5,iI ((i:Nat):Int)),(54,vB bb)]∧Mem w0 G (L) w'∧(bb=true↔D≠E)) ?_ ?_
  ·skip
   refine D5 [(.free,0),(.free,1),(.free,2),(.free,3),(.pure,4),(.free,5),(.free,6),(.free,7),(.free,8),(.pure,9),(.free,10),(.free,11),(.free,12),(.free,13),(.free,14),(.free,15),(.pure,16),(.free,17),(.free,18),(.free,19),(.free,20),(.pure,21),(.free,22),(.free,23),(.free,24),(.free,25),(.free,26),(.free,27),(.free,28),(.pure,29),(.free,30),(.free,31),(.free,32),(.free,33),(.pure,34),(.keep,35),(.free,36),(.free,37)] [] (Keep G []) rfl kR kF (Aw (M.drew _)) ?_;replace M:=M.drew (w.drawn+1);revert a;refine wk ?_;obtain ⟨bZ,cm,_,bV,_,bP,aN⟩:=S.at N;obtain ⟨bv,an,aJ,aF⟩:=aN;obtain ⟨bF,bJ,rfl,aS,aW,ba,bA,bo⟩:=aJ;subst an;have b1:(D.item.key < 18446744073709551616∧D.item.typ < 256∧D.item.text.length≤9223372036854775807):=⟨aS,aW,ba⟩;have b6:-9223372036854775808≤D.size∧D.size≤9223372036854775807:=aF;refine wk ?_;obtain ⟨ca,cn,_,bW,_,bQ,aO⟩:=T.at O;obtain ⟨bw,ao,aK,aG⟩:=aO;obtain ⟨bG,bK,rfl,aT,aX,be,bB,bp⟩:=aK;subst ao;have b3:(E.item.key < 18446744073709551616∧E.item.typ < 256∧E.item.text.length≤9223372036854775807):=⟨aT,aX,be⟩;have b7:-9223372036854775808≤E.size∧E.size≤9223372036854775807:=aG;refine wk ?_
   rcases bE (!(decide (D.size=E.size))) with aD | aE
   ·skip
    have h6:=dF (Ad aD);have cl:(decide (D.size=E.size))=false:=(Ad aD);refine wk ?_
    generalize ({ w with drawn:=w.drawn+1 }:World)=w at M ⊢
    intro a F
    exact ⟨true,fU,M,by clear F M;first | (simp only [Bool.true_eq_false,true_iff,false_iff,Bool.false_eq_true,decide_eq_true_eq];exact Adr tM (by first | assumption | exact eq_of_beq tA)) | (constructor <;> intro I;(intro H;subst H;simp_all);first | rfl | (simp_all;done)) | (constructor;(intro I H;subst H;simp_all);(intro I;simp_all))⟩
   have h7:=dT (Ae aE);have bj:(decide (D.size=E.size))=true:=(Ae aE);refine wk ?_;obtain ⟨cb,co,_,bX,_,bR,aP⟩:=S.at N;obtain ⟨bx,ap,aL,aH⟩:=aP;obtain ⟨bH,bL,rfl,aU,aY,bf,bC,bq⟩:=aL;subst ap;have b4:(D.item.key < 18446744073709551616∧D.item.typ < 256∧D.item.text.length≤9223372036854775807):=⟨aU,aY,bf⟩;have b8:-9223372036854775808≤D.size∧D.size≤9223372036854775807:=aH;refine wk ?_;obtain ⟨cc,cp,_,bY,_,bU,aQ⟩:=T.at O;obtain ⟨bz,aq,aM,aI⟩:=aQ;obtain ⟨bI,bM,rfl,aV,aZ,bg,bD,br⟩:=aM;subst aq;have b5:(E.item.key < 18446744073709551616∧E.item.typ < 256∧E.item.text.length≤9223372036854775807):=⟨aV,aZ,bg⟩;have b9:-9223372036854775808≤E.size∧E.size≤9223372036854775807:=aI;refine wk ?_;refine Nu rfl (Ge bj) (fun a F w _=>run_neb Avw.k (F.ev rfl) (F.ev rfl))<|wk ?_
   rcases bE (!((D.known)==(E.known))) with Y | aa
   ·skip
    have cd:=Ad Y;have b0:((D.known)==(E.known))=false:=(Ad Y);refine wk ?_
    generalize ({ w with drawn:=w.drawn+1 }:World)=w at M ⊢
    intro a F
    exact ⟨true,fU,M,by clear F M;first | (simp only [Bool.true_eq_false,true_iff,false_iff,Bool.false_eq_true,decide_eq_true_eq];exact Adr tM (by first | assumption | exact eq_of_beq tA)) | (constructor <;> intro I;(intro H;subst H;simp_all);first | rfl | (simp_all;done)) | (constructor;(intro I H;subst H;simp_all);(intro I;simp_all))⟩
   have ce:=Ae aa;have A:((D.known)==(E.known))=true:=(Ae aa);refine Nu rfl (Ge A) (fun a F w _=>Aen F rfl)<|Nu rfl (Ge A) (fun a F w _=>Aen F rfl)<|?_
   obtain ⟨bt,bN,_,a7,_,a5,al⟩:=S.at N;obtain ⟨bh,U,aj,ae⟩:=al;obtain ⟨az,a3,rfl,ar,av,ax,bm,ab⟩:=aj;subst U;have ah:(D.item.key < 18446744073709551616∧D.item.typ < 256∧D.item.text.length≤9223372036854775807):=⟨ar,av,ax⟩;have bk:-9223372036854775808≤D.size∧D.size≤9223372036854775807:=ae;refine Nu rfl (Ge A) (fun a F w _=>Fw Db.k Cn (F.ev rfl) (F.ev rfl) tM a7)<|Nu rfl (Ge A) (fun a F w _=>Aeo Cn.k rfl F rfl)<|k_pg rfl (Ge A) (fun a F w M=>Cv Bc rfl (F.ev rfl) (cs:=[iU ((D.item.key:Nat):Int),iB ((D.item.typ:Nat):Int),qT D.item.text,vS az D.item.mZ.length a3]) rfl (M.cellsA a5 0 rfl rfl))<|Nu rfl (Ge A) (fun a F w _=>Aen F rfl)<|Nu rfl (Ge A) (fun a F w _=>Aen F rfl)<|?_
   obtain ⟨bu,bO,_,a8,_,a6,am⟩:=T.at O;obtain ⟨bi,V,ak,ag⟩:=am;obtain ⟨a0,a4,rfl,au,aw,ay,bn,ac⟩:=ak;subst V;have ai:(E.item.key < 18446744073709551616∧E.item.typ < 256∧E.item.text.length≤9223372036854775807):=⟨au,aw,ay⟩;have bl:-9223372036854775808≤E.size∧E.size≤9223372036854775807:=ag;refine Nu rfl (Ge A) (fun a F w _=>Fw Db.k Cn (F.ev rfl) (F.ev rfl) tM a8)<|Nu rfl (Ge A) (fun a F w _=>Aeo Cn.k rfl F rfl)<|k_pg rfl (Ge A) (fun a F w M=>Cv Bc rfl (F.ev rfl) (cs:=[iU ((E.item.key:Nat):Int),iB ((E.item.typ:Nat):Int),qT E.item.text,vS a0 E.item.mZ.length a4]) rfl (M.cellsA a6 0 rfl rfl))<|?_
   refine fun a F=>Gj F rfl rfl (Ge A) ?_;revert a;refine g_t rfl (Ge A)<|?_
   refine A2 ent46 rfl rfl (V8 (x:=D.item) (y:=E.item) M ah ab ai ac)<|?_;clear M;rintro _ w M rfl
   refine Ao<|?_
   refine eQ (Aw M)<|wk ?_;intro a F
   exact ⟨(decide ((if D.item=E.item then (1:Int) else 0)=0)),fU,M,by clear F M;first | (simp only [Bool.true_eq_false,true_iff,false_iff,Bool.false_eq_true,decide_eq_true_eq];exact Adr tM (by first | assumption | exact eq_of_beq tA)) | (constructor <;> intro I;(intro H;subst H;simp_all);first | rfl | (simp_all;done)) | (constructor;(intro I H;subst H;simp_all);(intro I;simp_all))⟩
  clear F M;rintro a w ⟨bb,F,M,aR⟩;revert a;refine Gd<|?_
  refine Ag rfl ?_ ?_
  ·intro a9;have cf:(bb)=true:=a9;refine wk ?_;refine Af rfl rfl<|?_
   exact ⟨M,by rw [if_neg (Pi N O (aR.1 tA))]⟩
  intro aA;have cg:(bb)=false:=aA;refine wk ?_;intro a F
  exact ⟨_,tM,i+1,rfl,fU,M,tM,Vf hA N O (Classical.byContradiction fun I=>by have H:=aR.2 I;simp_all)⟩
 intro ci;refine wk ?_;refine Af rfl rfl<|?_
 exact ⟨M,by rw [if_pos (Adx hA tM tM)]⟩
end Go.Proofs.YtmmhmcplegpenaaGreatDoor
