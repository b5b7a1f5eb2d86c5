/- Own lemmas and walks. -/
import Derived.Test.YtmmhmcplegpenaaGreatDoorJ1
set_option linter.unusedSimpArgs false
set_option linter.unusedVariables false
set_option maxRecDepth 10000
set_option maxHeartbeats 1600000
open Go.Value renaming slice→vS,string→vT,int→vI,bool→vB,pointer→vP
open Go.IntKind renaming i64→kI,u64→kU
open Go.Lib renaming cut→xC
open Go.Proofs.Tryz renaming prog→pG
open Go.Y.Res renaming blk→rB,row→rR
open Go.Y (pP qT iI iB iU sN)
open List renaming length_append→lA,length_cons→lC,length_nil→lN,length_take→lT,length_drop→lD,mem_of_getElem?→mG,mem_cons→mC,length_map→lM
namespace Go.Proofs.YtmmhmcplegpenaaGreatDoor.T
open Go Go.Y Go.Proofs
variable {w0 w:World} {G:Av} {L:List Res}
theorem Aui {w0 w:World} {G:Av} {L:List Res} {b:Nat} {x d:NT} {N ka E A:Option Addr} {O I H D:Nat} (M:Mem w0 G (rB b [iB x.kind,qT x.tag,qT x.key,vS N x.as.length O,qT x.text,vS ka x.kids.length I] 193::L) w) :
  Calls pG 239 #[.agg #[iB d.kind,qT d.tag,qT d.key,vS E d.as.length H,qT d.text,vS A d.kids.length D],pP b] w (B5 w0 G (rB b [iB x.kind,qT x.tag,qT x.key,vS N x.as.length O,qT x.text,vS ka x.kids.length I] 193::L) fun v=>v=vB (decide (d.key=x.key))):=by
 refine Ap (vs:=[_,_]) Tryz.func239 rfl (n:=9) rfl rfl<|?_
 refine Bt<|?_
 refine Ch M rfl rfl rfl<|?_;clear M;intro S w M
 refine wk ?_;refine Af rfl rfl<|?_
 exact ⟨M.wn tW,by simp⟩
theorem To {w0 w:World} {G:Av} {L:List Res} {b:Nat} {x:NT} {U ka:Option Addr} {V T:Nat} (M:Mem w0 G (rB b [iB x.kind,qT x.tag,qT x.key,vS U x.as.length V,qT x.text,vS ka x.kids.length T] 193::L) w) {ks:List NT} {D:Option Addr} {E:Nat} (S:Aj rdN 6 G (vS D ks.length E) ks) (am:ks.length≤9223372036854775807) :
  Calls pG 242 #[vS D ks.length E,.func (.func 239) #[] #[pP b]] w (B5 w0 G (rB b [iB x.kind,qT x.tag,qT x.key,vS U x.as.length V,qT x.text,vS ka x.kids.length T] 193::L) fun v=>∃ z:Int,v=iI z∧(0≤z↔Aem ks x.key)):=by
 refine Ap (vs:=[_,_]) Tryz.func242 rfl (n:=19) rfl rfl<|wk ?_;refine fun a F=>Bd (fun m a' w'=>∃ (i:Nat),m=ks.length - i∧Fits 19 a' [(0,vS D ks.length E),(1,.func (.func 239) #[] #[pP b]),(7,iI ((ks.length:Nat):Int)),(8,iI ((i:Nat):Int))]∧Mem w0 G (rB b [iB x.kind,qT x.tag,qT x.key,vS U x.as.length V,qT x.text,vS ka x.kids.length T] 193::L) w'∧(i≤ks.length)∧(∀ (m:Nat) (d:NT),m < i→ks[m]?=some d→d.key≠x.key)) _ ⟨0,rfl,fU,M,Nat.zero_le _,fun m d h=>by omega⟩ ?_;clear F M;rintro m a w ⟨i,rfl,F,M,hi,hA⟩;revert a;refine wk ?_;refine qD rfl ?_ ?_
 ·intro h1;refine wk ?_;obtain ⟨N,A⟩:=Aq (xs:=ks) (i:=i) tM;obtain ⟨al,an,_,ak,_,aj,I⟩:=S.at A;obtain ⟨ah,ai,ae,ag,rfl,ab,ac,Y,aa⟩:=D7 I;refine wk ?_;replace M:=z_M M;refine Ajq ent239 (caps:=[pP b]) rfl rfl rfl (Aui (x:=x) (d:=N) M)<|?_;clear M;rintro _ w M rfl
  refine Ao<|Gd<|?_
  refine qD rfl ?_ ?_
  ·intro h3;refine wk ?_;refine Af rfl rfl<|?_
   exact ⟨M,_,rfl,⟨fun _=>⟨_,mG A,tA⟩,fun _=>by omega⟩⟩
  intro h4;refine wk ?_;intro a F
  exact ⟨_,tM,i+1,rfl,fU,M,tM,fun m d O H=>by rcases Nat.eq_or_lt_of_le (show m≤i by omega) with e | e;(subst e;rw [A] at H;simp only [Option.some.injEq] at H;subst H;assumption);exact hA m d e H⟩
 intro h5;refine wk ?_;refine Af rfl rfl<|?_
 exact ⟨M,_,rfl,⟨fun h=>by omega,fun ⟨d,H,he⟩=>by obtain ⟨m,O⟩:=List.mem_iff_getElem?.1 H;exact absurd he (hA m d (by have:=A3 O;omega) O)⟩⟩
theorem Alr {w0 w:World} {G:Av} {L:List Res} {b:Nat} {x:NT} {N ka:Option Addr} {O I:Nat} (M:Mem w0 G (rB b [iB x.kind,qT x.tag,qT x.key,vS N x.as.length O,qT x.text,vS ka x.kids.length I] 193::L) w) {ks:List NT} {A:Option Addr} {D:Nat} (S:Aj rdN 6 G (vS A ks.length D) ks) (T:ks.length≤9223372036854775807) :
  Calls pG 238 #[vS A ks.length D,.func (.func 239) #[] #[pP b]] w (B5 w0 G (rB b [iB x.kind,qT x.tag,qT x.key,vS N x.as.length O,qT x.text,vS ka x.kids.length I] 193::L) fun v=>∃ H:Bool,v=vB H∧(H=true↔Aem ks x.key)):=by
 refine Ap (vs:=[_,_]) Tryz.func238 rfl (n:=9) rfl rfl<|wk ?_;replace M:=z_M M;refine A2 ent242 rfl rfl (To (x:=x) (ks:=ks) M S tM)<|?_;clear M;rintro _ w M ⟨U,rfl,E⟩
 refine wk ?_;refine Af rfl rfl<|?_
 exact ⟨M,_,rfl,decide_eq_true_iff.trans E⟩
theorem Alz (M:Mem w0 G L w) {x:NT} {ta:Option Addr} {tc:Nat} {ka:Option Addr} {kc:Nat} (hk:Al .u8 x.kind) (hl:(x.tag.length≤9223372036854775807∧x.key.length≤9223372036854775807∧x.text.length≤9223372036854775807)) (SA:Aj Fa 2 G (vS ta x.as.length tc) x.as) (SK:Aj rdN 6 G (vS ka x.kids.length kc) x.kids) {nb no:Nat} (A:At G nb no [iB x.kind,qT x.tag,qT x.key,vS ta x.as.length tc,qT x.text,vS ka x.kids.length kc]):Calls pG 233 #[vP (some ⟨nb,no,none⟩)] w (B5 w0 G L fun v=>∃ V:Bool,v=vB V∧(V=true↔I4 x)):=by
 refine Ap (vs:=[_]) Tryz.func233 rfl (n:=161) rfl rfl<|wk ?_;refine qD rfl ?_ ?_
 ·intro h1;refine wk ?_;refine A2 A0l rfl rfl (H5 (s:=x.text) M tM)<|?_;clear M;rintro _ w M ⟨b2,rfl,c5⟩
  refine Cd rfl<|?_
  rcases bE (b2) with aQ | H
  ·skip
   have h3:(b2)=true:=aQ;refine wk ?_
   rcases bE (decide (x.tag=([]:List UInt8))) with aR | aW
   ·skip
    have h4:=dT aR;refine wk ?_
    rcases bE (decide (x.key=([]:List UInt8))) with aS | aV
    ·skip
     have h5:=dT aS;refine wk ?_
     rcases bE (decide (((x.as.length:Nat):Int)=0)) with aT | aU
     ·skip
      have h6:=dT aT;refine wk ?_;refine Af rfl rfl<|?_
      exact ⟨M,(decide (((x.kids.length:Nat):Int)=0)),rfl,(by rw [Fq tA];clear M;grind)⟩
     have h7:=dF aU;refine wk ?_;refine Af rfl rfl<|?_
     exact ⟨M,false,rfl,(by rw [Fq tA];clear M;grind)⟩
    have h8:=dF aV;refine wk ?_;refine Af rfl rfl<|?_
    exact ⟨M,false,rfl,(by rw [Fq tA];clear M;grind)⟩
   have h9:=dF aW;refine wk ?_;refine Af rfl rfl<|?_
   exact ⟨M,false,rfl,(by rw [Fq tA];clear M;grind)⟩
  have bM:(b2)=false:=H;refine g_f rfl H<|g_f rfl H<|g_f rfl H<|g_f rfl H<|g_f rfl H<|Ii rfl H rfl<|Cd rfl<|g_f rfl rfl<|g_f rfl rfl<|g_f rfl rfl<|g_f rfl rfl<|g_f rfl rfl<|Ii rfl rfl rfl<|Cd rfl<|g_f rfl rfl<|g_f rfl rfl<|g_f rfl rfl<|g_f rfl rfl<|g_f rfl rfl<|g_f rfl rfl<|Ii rfl rfl rfl<|Cd rfl<|g_f rfl rfl<|g_f rfl rfl<|g_f rfl rfl<|g_f rfl rfl<|g_f rfl rfl<|g_f rfl rfl<|Ii rfl rfl rfl<|Dq rfl<|Fl<|Fu<|?_
  refine Af rfl rfl<|?_
  exact ⟨M,false,rfl,(by rw [Fq tA];clear M;grind)⟩
 intro bN;refine D8<|Ca<|Ca<|?_
 refine fun a F=>I6 (fun a' w'=>∃ (V:Bool),Fits 161 a' [(0,vP (some ⟨nb,no,none⟩)),(97,vB V)]∧Mem w0 G (L) w'∧(V=true↔¬ J8 x)) ?_ ?_
 ·skip
  revert a;refine wk ?_
  rcases bE (!(decide (x.kind=1))) with Y | aa
  ·skip
   have bO:=dF (Ad Y);have bu:(decide (x.kind=1))=false:=(Ad Y);refine wk ?_;intro a F
   exact ⟨true,fU,M,by unfold J8;clear F M;grind⟩
  have bP:=dT (Ae aa);have bv:(decide (x.kind=1))=true:=(Ae aa);refine wk ?_;refine A2 Ali rfl rfl (Oi (s:=x.tag) M tM)<|?_;clear M;rintro _ w M ⟨aw,rfl,bD⟩
  refine wk ?_
  rcases bE (!(aw)) with ab | ac
  ·skip
   have bQ:=Ad ab;have bw:(aw)=false:=(Ad ab);refine wk ?_;intro a F
   exact ⟨true,fU,M,by unfold J8;clear F M;grind⟩
  have bR:=Ae ac;have bx:(aw)=true:=(Ae ac);refine wk ?_
  rcases bE (!(decide (x.key=([]:List UInt8)))) with ae | ak
  ·skip
   have bS:=dF (Ad ae);have bz:(decide (x.key=([]:List UInt8)))=false:=(Ad ae);refine wk ?_;refine A2 Ali rfl rfl (Oi (s:=x.key) M tM)<|?_;clear M;rintro _ w M ⟨ax,rfl,bF⟩
   refine wk ?_
   rcases bE (!(ax)) with ag | ah
   ·skip
    have bT:=Ad ag;have b0:(ax)=false:=(Ad ag);refine wk ?_;intro a F
    exact ⟨true,fU,M,by unfold J8;clear F M;grind⟩
   have bU:=Ae ah;have b1:(ax)=true:=(Ae ah);refine wk ?_
   rcases bE (!(decide (x.text=([]:List UInt8)))) with ai | aj
   ·skip
    have bV:=dF (Ad ai);have b3:(decide (x.text=([]:List UInt8)))=false:=(Ad ai);refine wk ?_;intro a F
    exact ⟨true,fU,M,by unfold J8;clear F M;grind⟩
   have bW:=dT (Ae aj);have b4:(decide (x.text=([]:List UInt8)))=true:=(Ae aj);refine wk ?_
   rcases bE (decide (8 < ((x.as.length:Nat):Int))) with a4 | a5
   ·skip
    have bX:=dT a4;refine wk ?_;intro a F
    exact ⟨true,fU,M,by unfold J8;clear F M;grind⟩
   have bY:=dF a5;refine wk ?_;intro a F
   exact ⟨(decide (16 < ((x.kids.length:Nat):Int))),fU,M,by unfold J8;clear F M;grind⟩
  have bZ:=dT (Ae ak);have b5:(decide (x.key=([]:List UInt8)))=true:=(Ae ak);refine wk ?_
  rcases bE (!(decide (x.text=([]:List UInt8)))) with al | am
  ·skip
   have ca:=dF (Ad al);have b6:(decide (x.text=([]:List UInt8)))=false:=(Ad al);refine wk ?_;intro a F
   exact ⟨true,fU,M,by unfold J8;clear F M;grind⟩
  have cb:=dT (Ae am);have b7:(decide (x.text=([]:List UInt8)))=true:=(Ae am);refine wk ?_
  rcases bE (decide (8 < ((x.as.length:Nat):Int))) with a6 | a7
  ·skip
   have cc:=dT a6;refine wk ?_;intro a F
   exact ⟨true,fU,M,by unfold J8;clear F M;grind⟩
  have cd:=dF a7;refine wk ?_;intro a F
  exact ⟨(decide (16 < ((x.kids.length:Nat):Int))),fU,M,by unfold J8;clear F M;grind⟩
 clear F M;rintro a w ⟨V,F,M,c6⟩;revert a;refine Gd<|?_
 refine Ag rfl ?_ ?_
 ·intro a8;have ce:(V)=true:=a8;refine wk ?_;refine Af rfl rfl<|?_
  exact ⟨M,false,rfl,(by rw [Fk tA];have T:=@Gp;clear M;grind)⟩
 intro a9;have cf:(V)=false:=a9;refine wk ?_;have hE:J8 x:=by clear M;grind
 obtain ⟨cy,cz,c0,c1,c2,c4⟩:=id hE;refine wk ?_;refine fun a F=>Bd (fun m a' w'=>∃ (i:Nat),m=x.as.length - i∧Fits 161 a' [(0,vP (some ⟨nb,no,none⟩)),(101,vS ta x.as.length tc),(102,iI ((x.as.length:Nat):Int)),(103,iI ((i:Nat):Int))]∧Mem w0 G (L) w'∧(i≤x.as.length)∧(I2 x.as i)) _ ⟨0,rfl,fU,M,Nat.zero_le _,I2.zero _⟩ ?_;clear F M;rintro m a w ⟨i,rfl,F,M,hi,hA⟩;revert a;refine wk ?_;refine qD rfl ?_ ?_
 ·intro cg;refine wk ?_;obtain ⟨E,D⟩:=Aq (xs:=x.as) (i:=i) tM;obtain ⟨bp,bJ,_,bl,_,bi,⟨rfl,aI,aK⟩⟩:=SA.at D;refine wk ?_;refine B0 M Ki rfl rfl<|?_;clear M;intro aO w M
  refine Dq rfl<|?_
  intro a F;refine Bf F M Ki 0 ?_;clear F M a;intro w a M F;revert a;refine Ca<|?_
  refine fun a F=>D5 [(.free,0),(.pure,1),(.keep,2),(.free,3),(.free,4),(.free,5),(.pure,6),(.keep,7),(.free,8),(.free,9),(.free,10),(.free,11),(.free,12),(.free,13),(.free,14),(.pure,15),(.free,16),(.free,17),(.free,18),(.pure,19),(.free,20),(.free,21),(.free,22),(.free,23),(.pure,24),(.free,25),(.free,26),(.free,27)] [] (Keep G [rB aO [qT E.n,qT E.v] 282]) rfl kR kF (Aw (M.drew _)) ?_;replace M:=M.drew (w.drawn+1);revert a;refine wk ?_;refine k_k rfl<|A2 Ali rfl rfl (Oi (s:=E.n) M tM)<|?_;clear M;rintro _ w M ⟨ay,rfl,bG⟩
  refine Ao<|?_
  refine eQ (Aw M)<|wk ?_
  rcases bE (!(ay)) with an | ao
  ·skip
   have ci:=Ad an;have b8:(ay)=false:=(Ad an);refine wk ?_;refine Af rfl rfl<|?_
   exact ⟨(M.wn tW),false,rfl,(by rw [Fk tA];have q0:=Ig D;have T:=@Gp;clear M;grind)⟩
  have cj:=Ae ao;have aA:(ay)=true:=(Ae ao);refine wk ?_;refine fun a F=>Gj F rfl rfl (Ge aA) ?_;revert a;refine wk ?_;refine A2 A0l rfl rfl (H5 (s:=E.v) M tM)<|?_;clear M;rintro _ w M ⟨az,rfl,bH⟩
  refine Ao<|?_
  refine eQ (Aw M)<|wk ?_
  rcases bE (!(az)) with ap | aq
  ·skip
   have ck:=Ad ap;have b9:(az)=false:=(Ad ap);refine wk ?_;refine Af rfl rfl<|?_
   exact ⟨(M.wn tW),false,rfl,(by rw [Fk tA];have q0:=Ig D;have T:=@Gp;clear M;grind)⟩
  have cl:=Ae aq;have bA:(az)=true:=(Ae aq);refine wk ?_
  rcases bE (decide (0 < ((i:Nat):Int))) with ar | aD
  ·skip
   have cm:=dT ar;refine wk ?_;have aH:(((i:Nat):Int) - 1:Int)=((i - 1:Nat):Int):=by omega
   intro a F;rw [aH] at F;obtain ⟨O,I⟩:=Aq (xs:=x.as) (i:=i - 1) tM;obtain ⟨bq,bK,_,bm,_,bj,⟨rfl,aJ,aL⟩⟩:=SA.at I;revert a;refine wk ?_;refine Nu rfl ar (fun a F w _=>Qj (F.ev rfl) (F.ev rfl))<|wk ?_;refine Ag rfl ?_ ?_
   ·intro aB;have cn:(Op.bytesLess E.n O.n || E.n==O.n)=true:=aB;refine wk ?_;refine Af rfl rfl<|?_
    exact ⟨(M.wn tW),false,rfl,(by rw [Fk tA];have q0:=Ig D;have q1:=fun h=>Py D I h;have q2:=Ig I;have q3:=fun h=>Py I D h;have T:=@Gp;clear M;grind)⟩
   intro aC;have co:(Op.bytesLess E.n O.n || E.n==O.n)=false:=aC;refine wk ?_;intro a F
   exact ⟨_,tM,i+1,rfl,fU,(M.wn tW),tM,hA.step D (by clear F M;grind) (by clear F M;grind) (fun y h_ hy=>by rw [I] at hy;simp only [Option.some.injEq] at hy;subst hy;clear F M;have T:=@Gp;grind)⟩
  have cp:=dF aD;refine wk ?_;intro a F
  exact ⟨_,tM,i+1,rfl,fU,(M.wn tW),tM,hA.step D (by clear F M;grind) (by clear F M;grind) (fun y h_=>by omega)⟩
 intro cq;refine wk ?_;refine fun a F=>Bd (fun m a' w'=>∃ (j:Nat),m=x.kids.length - j∧Fits 161 a' [(0,vP (some ⟨nb,no,none⟩)),(140,vS ka x.kids.length kc),(141,iI ((x.kids.length:Nat):Int)),(142,iI ((j:Nat):Int))]∧Mem w0 G (L) w'∧(j≤x.kids.length)∧(I3 x.as)∧(F3 x.kids j)) _ ⟨0,rfl,fU,M,Nat.zero_le _,hA.all tM,F3.zero _⟩ ?_;clear F M;rintro m a w ⟨j,rfl,F,M,hj,a0,hK⟩;revert a;refine wk ?_;refine qD rfl ?_ ?_
 ·intro cr;refine wk ?_;obtain ⟨S,N⟩:=Aq (xs:=x.kids) (i:=j) tM;obtain ⟨br,bL,_,bn,_,bk,a1⟩:=SK.at N;obtain ⟨bg,bh,be,bf,rfl,aY,aZ,aM,aN⟩:=D7 a1;refine wk ?_;refine B0 M A1 rfl rfl<|?_;clear M;intro aP w M
  refine Dq rfl<|?_
  intro a F;refine Bf F M A1 0<|sZ ?_;clear F M a;intro w M;refine wk ?_
  rcases bE (!(decide (S.key=([]:List UInt8)))) with au | av
  ·skip
   have ct:=dF (Ad au);have bB:(decide (S.key=([]:List UInt8)))=false:=(Ad au);refine wk ?_;obtain ⟨bo,bt,a2,ba,aX,U⟩:=SK.partT (j) tM;refine Ak (fun a F=>Gu D6.k A1 a2 (F.ev rfl) (h:=j) (kl:=.i64) (zl:=0) rfl ⟨(F.ev rfl),tM⟩ tM tM) rfl<|?_
   have aG:j - 0=(x.kids.take (j)).length:=by rw [lT];omega
   intro a F;rw [aG] at F U;revert a;refine wk ?_;refine Ak (fun a F=>Dh (vs:=#[pP aP]) (by simp only [List.map_toArray,List.map_cons,List.map_nil,F.ev (x:=.tmp 6) rfl])) rfl<|wk ?_;replace M:=z_M M;refine A2 ent238 rfl rfl (Alr (x:=S) (ks:=x.kids.take (j)) M (by have h_:=U;simpa using h_) tM)<|?_;clear M;rintro _ w M ⟨a3,rfl,bI⟩
   refine wk ?_;refine Ag rfl ?_ ?_
   ·intro aE;have cu:(a3)=true:=aE;refine wk ?_;refine Af rfl rfl<|?_
    exact ⟨(M.wn tW),false,rfl,(by rw [Fk tA];have q0:=Tp N;have T:=@Gp;clear M;grind)⟩
   intro aF;have cv:(a3)=false:=aF;refine wk ?_;intro a F
   exact ⟨_,tM,j+1,rfl,fU,(M.wn tW),tM,a0,hK.step N (by clear F M;first | (left;assumption) | (right;exact Us (by grind)))⟩
  have cw:=dT (Ae av);have bC:(decide (S.key=([]:List UInt8)))=true:=(Ae av);refine wk ?_;intro a F
  exact ⟨_,tM,j+1,rfl,fU,(M.wn tW),tM,a0,hK.step N (by clear F M;first | (left;assumption) | (right;exact Us (by grind)))⟩
 intro cx;refine wk ?_;refine Af rfl rfl<|?_
 exact ⟨M,true,rfl,(by rw [Fk tA];exact ⟨fun _=>⟨hE,a0,hK.all tM⟩,fun _=>rfl⟩)⟩
theorem Aqs (M:Mem w0 G L w) {x:NT} {Y:Option Addr} {tc:Nat} {ka:Option Addr} {U:Nat} (hk:Al .u8 x.kind) (hl:(x.tag.length≤9223372036854775807∧x.key.length≤9223372036854775807∧x.text.length≤9223372036854775807)) (SA:Aj Fa 2 G (vS Y x.as.length tc) x.as) (SK:Aj rdN 6 G (vS ka x.kids.length U) x.kids):Calls pG 211 #[.agg #[iB x.kind,qT x.tag,qT x.key,vS Y x.as.length tc,qT x.text,vS ka x.kids.length U]] w (B5 w0 G L fun v=>∃ bb:Bool,v=vB bb∧(bb=true↔I4 x)):=by
 refine Ap (vs:=[_]) Tryz.func211 rfl (n:=149) rfl rfl<|?_
 refine Bt<|?_
 refine Ch M rfl rfl rfl<|?_;clear M;intro S w M
 refine wk ?_;refine qD rfl ?_ ?_
 ·intro h2;refine wk ?_;refine A2 X2 rfl rfl (Md (s:=x.text) M tM)<|?_;clear M;rintro _ w M ⟨b3,rfl,dh⟩
  refine Cd rfl<|?_
  rcases bE (b3) with aS | I
  ·skip
   have h4:(b3)=true:=aS;refine wk ?_
   rcases bE (decide (x.tag=([]:List UInt8))) with aT | a6
   ·skip
    have h5:=dT aT;refine wk ?_
    rcases bE (decide (x.key=([]:List UInt8))) with aU | aX
    ·skip
     have h6:=dT aU;refine wk ?_
     rcases bE (decide (((x.as.length:Nat):Int)=0)) with aV | aW
     ·skip
      have h7:=dT aV;refine wk ?_;refine Af rfl rfl<|?_
      exact ⟨(M.wn tW),(decide (((x.kids.length:Nat):Int)=0)),rfl,(by rw [Fq tA];clear M;grind)⟩
     have h8:=dF aW;refine wk ?_;refine Af rfl rfl<|?_
     exact ⟨(M.wn tW),false,rfl,(by rw [Fq tA];clear M;grind)⟩
    have h9:=dF aX;refine wk ?_;refine Af rfl rfl<|?_
    exact ⟨(M.wn tW),false,rfl,(by rw [Fq tA];clear M;grind)⟩
   have cu:=dF a6;refine wk ?_;refine Af rfl rfl<|?_
   exact ⟨(M.wn tW),false,rfl,(by rw [Fq tA];clear M;grind)⟩
  have cv:(b3)=false:=I;refine g_f rfl I<|g_f rfl I<|g_f rfl I<|Ii rfl I rfl<|Cd rfl<|g_f rfl rfl<|g_f rfl rfl<|g_f rfl rfl<|Ii rfl rfl rfl<|Cd rfl<|g_f rfl rfl<|g_f rfl rfl<|g_f rfl rfl<|g_f rfl rfl<|Ii rfl rfl rfl<|Cd rfl<|g_f rfl rfl<|g_f rfl rfl<|g_f rfl rfl<|g_f rfl rfl<|Ii rfl rfl rfl<|Dq rfl<|Fl<|Fu<|?_
  refine Af rfl rfl<|?_
  exact ⟨(M.wn tW),false,rfl,(by rw [Fq tA];clear M;grind)⟩
 intro cw;refine D8<|Ca<|Ca<|?_
 refine fun a F=>I6 (fun T w'=>∃ (bb:Bool),Fits 149 T [(1,pP S),(71,vB bb)]∧Mem w0 G (rB S [iB x.kind,qT x.tag,qT x.key,vS Y x.as.length tc,qT x.text,vS ka x.kids.length U] 193::L) w'∧(bb=true↔¬ J8 x)) ?_ ?_
 ·skip
  revert a;refine wk ?_
  rcases bE (!(decide (x.kind=1))) with ab | ac
  ·skip
   have cx:=dF (Ad ab);have bN:(decide (x.kind=1))=false:=(Ad ab);refine wk ?_;intro a F
   exact ⟨true,fU,M,by unfold J8;clear F M;grind⟩
  have cy:=dT (Ae ac);have bO:(decide (x.kind=1))=true:=(Ae ac);refine wk ?_;refine A2 Ou rfl rfl (E9 (s:=x.tag) M tM)<|?_;clear M;rintro _ w M ⟨az,rfl,ci⟩
  refine wk ?_
  rcases bE (!(az)) with ae | ag
  ·skip
   have cz:=Ad ae;have bP:(az)=false:=(Ad ae);refine wk ?_;intro a F
   exact ⟨true,fU,M,by unfold J8;clear F M;grind⟩
  have c0:=Ae ag;have bQ:(az)=true:=(Ae ag);refine wk ?_
  rcases bE (!(decide (x.key=([]:List UInt8)))) with ah | am
  ·skip
   have c1:=dF (Ad ah);have bR:(decide (x.key=([]:List UInt8)))=false:=(Ad ah);refine wk ?_;refine A2 Ou rfl rfl (E9 (s:=x.key) M tM)<|?_;clear M;rintro _ w M ⟨a0,rfl,cj⟩
   refine wk ?_
   rcases bE (!(a0)) with ai | aj
   ·skip
    have c2:=Ad ai;have bS:(a0)=false:=(Ad ai);refine wk ?_;intro a F
    exact ⟨true,fU,M,by unfold J8;clear F M;grind⟩
   have c4:=Ae aj;have bT:(a0)=true:=(Ae aj);refine wk ?_
   rcases bE (!(decide (x.text=([]:List UInt8)))) with ak | al
   ·skip
    have c5:=dF (Ad ak);have bU:(decide (x.text=([]:List UInt8)))=false:=(Ad ak);refine wk ?_;intro a F
    exact ⟨true,fU,M,by unfold J8;clear F M;grind⟩
   have c6:=dT (Ae al);have bV:(decide (x.text=([]:List UInt8)))=true:=(Ae al);refine wk ?_
   rcases bE (decide (8 < ((x.as.length:Nat):Int))) with a7 | a8
   ·skip
    have c7:=dT a7;refine wk ?_;intro a F
    exact ⟨true,fU,M,by unfold J8;clear F M;grind⟩
   have c8:=dF a8;refine wk ?_;intro a F
   exact ⟨(decide (16 < ((x.kids.length:Nat):Int))),fU,M,by unfold J8;clear F M;grind⟩
  have c9:=dT (Ae am);have bW:(decide (x.key=([]:List UInt8)))=true:=(Ae am);refine wk ?_
  rcases bE (!(decide (x.text=([]:List UInt8)))) with an | ao
  ·skip
   have cA:=dF (Ad an);have bX:(decide (x.text=([]:List UInt8)))=false:=(Ad an);refine wk ?_;intro a F
   exact ⟨true,fU,M,by unfold J8;clear F M;grind⟩
  have cB:=dT (Ae ao);have bY:(decide (x.text=([]:List UInt8)))=true:=(Ae ao);refine wk ?_
  rcases bE (decide (8 < ((x.as.length:Nat):Int))) with a9 | aA
  ·skip
   have cD:=dT a9;refine wk ?_;intro a F
   exact ⟨true,fU,M,by unfold J8;clear F M;grind⟩
  have cE:=dF aA;refine wk ?_;intro a F
  exact ⟨(decide (16 < ((x.kids.length:Nat):Int))),fU,M,by unfold J8;clear F M;grind⟩
 clear F M;rintro a w ⟨bb,F,M,di⟩;revert a;refine Gd<|?_
 refine Ag rfl ?_ ?_
 ·intro aB;have cF:(bb)=true:=aB;refine wk ?_;refine Af rfl rfl<|?_
  exact ⟨(M.wn tW),false,rfl,(by rw [Fk tA];have V:=@Gp;clear M;grind)⟩
 intro aC;have cG:(bb)=false:=aC;refine wk ?_;have hE:J8 x:=by clear M;grind
 obtain ⟨da,db,dc,de,df,dg⟩:=id hE;refine wk ?_;refine fun a F=>Bd (fun m T w'=>∃ (i:Nat),m=x.as.length - i∧Fits 149 T [(1,pP S),(3,iI ((i:Nat):Int))]∧Mem w0 G (rB S [iB x.kind,qT x.tag,qT x.key,vS Y x.as.length tc,qT x.text,vS ka x.kids.length U] 193::L) w'∧(i≤x.as.length)∧(I2 x.as i)) _ ⟨0,rfl,fU,M,Nat.zero_le _,I2.zero _⟩ ?_;clear F M;rintro m a w ⟨i,rfl,F,M,hi,hA⟩;revert a;refine wk ?_;refine qD rfl ?_ ?_
 ·intro cH;refine wk ?_;obtain ⟨D,A⟩:=Aq (xs:=x.as) (i:=i) tM;obtain ⟨bG,cm,_,b7,_,bw,⟨rfl,aE,aI⟩⟩:=SA.at A;refine wk ?_;refine A2 Ou rfl rfl (E9 (s:=D.n) M tM)<|?_;clear M;rintro _ w M ⟨a1,rfl,ck⟩
  refine wk ?_
  rcases bE (!(a1)) with ap | aq
  ·skip
   have cI:=Ad ap;have bZ:(a1)=false:=(Ad ap);refine wk ?_;refine Af rfl rfl<|?_
   exact ⟨(M.wn tW),false,rfl,(by rw [Fk tA];have q0:=Ig A;have V:=@Gp;clear M;grind)⟩
  have cJ:=Ae aq;have ca:(a1)=true:=(Ae aq);refine wk ?_;obtain ⟨bH,cn,_,b8,_,bx,⟨rfl,aF,aJ⟩⟩:=SA.at A;refine wk ?_;refine A2 X2 rfl rfl (Md (s:=D.v) M tM)<|?_;clear M;rintro _ w M ⟨a5,rfl,cl⟩
  refine wk ?_;refine Ag rfl ?_ ?_
  ·intro ar;have cK:=Ad ar;have cb:(a5)=false:=(Ad ar);refine wk ?_;refine Af rfl rfl<|?_
   exact ⟨(M.wn tW),false,rfl,(by rw [Fk tA];have q0:=Ig A;have V:=@Gp;clear M;grind)⟩
  intro au;have cL:=Ae au;have cc:(a5)=true:=(Ae au);refine wk ?_;have aD:C2 D.n∧Str D.v:=by clear M;grind
  intro a F;refine Bd (fun m T w'=>∃ (k:Nat),m=i - k∧Fits 149 T [(1,pP S),(3,iI ((i:Nat):Int)),(4,iI ((k:Nat):Int))]∧Mem w0 G (rB S [iB x.kind,qT x.tag,qT x.key,vS Y x.as.length tc,qT x.text,vS ka x.kids.length U] 193::L) w'∧(k≤i)∧(∀ (m:Nat) (y:AttrD),m < k→x.as[m]?=some y→Op.bytesLess y.n D.n=true)) _ ⟨0,rfl,fU,M,Nat.zero_le _,fun m y h=>by omega⟩ ?_;clear F M;rintro m a w ⟨k,rfl,F,M,aZ,hB⟩;revert a;refine wk ?_;refine qD rfl ?_ ?_
  ·intro cM;refine wk ?_;refine fun a F=>Dv [(true,0),(true,1),(true,2),(true,3),(true,4),(true,5),(true,6),(true,7),(true,8),(true,9),(true,10),(true,11),(true,12)] (Keep G [rB S [iB x.kind,qT x.tag,qT x.key,vS Y x.as.length tc,qT x.text,vS ka x.kids.length U] 193]) rfl kR kF (Aw (M.drew _)) ?_;replace M:=M.drew (w.drawn+1);revert a;refine wk ?_;obtain ⟨aa,E⟩:=Aq (xs:=x.as) (i:=k) tM;obtain ⟨bI,co,_,b9,_,bz,⟨rfl,aG,aK⟩⟩:=SA.at E;refine wk ?_;obtain ⟨bJ,cp,_,bA,_,b0,⟨rfl,aH,aL⟩⟩:=SA.at A;refine wk ?_;refine l_r (fun a F w M=>Qk (F.ev rfl) (F.ev rfl)) rfl<|?_
   refine Ayu<|?_
   generalize ({ w with drawn:=w.drawn+1 }:World)=w at M ⊢
   refine Gd<|?_
   refine Ag rfl ?_ ?_
   ·intro av;have cO:=Ad av;have cd:(Op.bytesLess aa.n D.n)=false:=(Ad av);refine wk ?_;refine Af rfl rfl<|?_
    exact ⟨(M.wn tW),false,rfl,(by rw [Fk tA];have q0:=Ig A;have q1:=fun h=>Py A E h;have q2:=Ig E;have q3:=fun h=>Py E A h;have V:=@Gp;clear M;grind)⟩
   intro aw;have cP:=Ae aw;have ce:(Op.bytesLess aa.n D.n)=true:=(Ae aw);refine wk ?_;intro a F
   exact ⟨_,tM,k+1,rfl,fU,M,tM,fun m y hm O=>by rcases Nat.eq_or_lt_of_le (show m≤k by omega) with e | e;(subst e;rw [E] at O;simp only [Option.some.injEq] at O;subst O;clear F M;grind);exact hB m y e O⟩
  intro cQ;refine wk ?_;intro a F
  exact ⟨_,tM,i+1,rfl,fU,M,tM,hA.step A aD.1 aD.2 (fun y h_ O=>hB (i - 1) y tM O)⟩
 intro cR;refine wk ?_;have aY:I3 x.as:=hA.all tM;refine wk ?_;refine fun a F=>Bd (fun m T w'=>∃ (j:Nat),m=x.kids.length - j∧Fits 149 T [(1,pP S),(5,iI ((j:Nat):Int))]∧Mem w0 G (rB S [iB x.kind,qT x.tag,qT x.key,vS Y x.as.length tc,qT x.text,vS ka x.kids.length U] 193::L) w'∧(j≤x.kids.length)∧(F3 x.kids j)) _ ⟨0,rfl,fU,M,Nat.zero_le _,F3.zero _⟩ ?_;clear F M;rintro m a w ⟨j,rfl,F,M,hj,hK⟩;revert a;refine wk ?_;refine qD rfl ?_ ?_
 ·intro cS;refine wk ?_;obtain ⟨Xj,N⟩:=Aq (xs:=x.kids) (i:=j) tM;refine wk ?_;refine fun a F=>Bd (fun m T w'=>∃ (k:Nat),m=j - k∧Fits 149 T [(1,pP S),(5,iI ((j:Nat):Int)),(6,iI ((k:Nat):Int))]∧Mem w0 G (rB S [iB x.kind,qT x.tag,qT x.key,vS Y x.as.length tc,qT x.text,vS ka x.kids.length U] 193::L) w'∧(k≤j)∧(∀ (m:Nat) (d:NT),m < k→x.kids[m]?=some d→Xj.key=[]∨d.key≠Xj.key)) _ ⟨0,rfl,fU,M,Nat.zero_le _,fun m y h=>by omega⟩ ?_;clear F M;rintro m a w ⟨k,rfl,F,M,aZ,hC⟩;revert a;refine wk ?_;refine qD rfl ?_ ?_
  ·intro cT;refine wk ?_;refine fun a F=>Dv [(true,0),(true,1),(true,2),(true,3),(true,4),(true,5),(true,6),(true,7),(true,8),(true,9),(true,10),(true,11),(true,12),(true,13),(true,14),(true,15),(true,16),(true,17),(true,18),(true,19),(true,20),(true,21)] (Keep G [rB S [iB x.kind,qT x.tag,qT x.key,vS Y x.as.length tc,qT x.text,vS ka x.kids.length U] 193]) rfl kR kF (Aw (M.drew _)) ?_;replace M:=M.drew (w.drawn+1);revert a;refine wk ?_;obtain ⟨bK,cq,_,bB,_,b4,a2⟩:=SK.at N;obtain ⟨bp,bt,bj,bm,rfl,ba,bg,aM,aP⟩:=D7 a2;refine wk ?_
   rcases bE (!(decide (Xj.key=([]:List UInt8)))) with ax | ay
   ·skip
    have cU:=dF (Ad ax);have cf:(decide (Xj.key=([]:List UInt8)))=false:=(Ad ax);refine wk ?_;obtain ⟨bL,cr,_,bC,_,b5,a3⟩:=SK.at N;obtain ⟨bq,bu,bk,bn,rfl,be,bh,aN,aQ⟩:=D7 a3;refine wk ?_;obtain ⟨bF,H⟩:=Aq (xs:=x.kids) (i:=k) tM;obtain ⟨bM,ct,_,bD,_,b6,a4⟩:=SK.at H;obtain ⟨br,bv,bl,bo,rfl,bf,bi,aO,aR⟩:=D7 a4;refine wk ?_
    generalize ({ w with drawn:=w.drawn+1 }:World)=w at M ⊢
    refine wk ?_;refine qD rfl ?_ ?_
    ·intro cV;refine wk ?_;refine Af rfl rfl<|?_
     exact ⟨(M.wn tW),false,rfl,(by rw [Fk tA];have q0:=Tp N;have q1:=fun h=>Ado h H N;have q2:=Tp H;have q3:=fun h=>Ado h N H;have V:=@Gp;clear M;grind)⟩
    intro cW;refine wk ?_;intro a F
    exact ⟨_,tM,k+1,rfl,fU,M,tM,fun m d hm O=>by rcases Nat.eq_or_lt_of_le (show m≤k by omega) with e | e;(subst e;rw [H] at O;simp only [Option.some.injEq] at O;subst O;clear F M;grind);exact hC m d e O⟩
   have cX:=dT (Ae ay);have cg:(decide (Xj.key=([]:List UInt8)))=true:=(Ae ay);refine wk ?_
   generalize ({ w with drawn:=w.drawn+1 }:World)=w at M ⊢
   refine wk ?_;intro a F
   exact ⟨_,tM,k+1,rfl,fU,M,tM,fun m d hm O=>by rcases Nat.eq_or_lt_of_le (show m≤k by omega) with e | e;(clear F M;grind);exact hC m d e O⟩
  intro cY;refine wk ?_;intro a F
  exact ⟨_,tM,j+1,rfl,fU,M,tM,hK.step N (by by_cases e:Xj.key=[];exact Or.inl e;exact Or.inr fun m a_ hm ha=>(hC m a_ tM ha).resolve_left e)⟩
 intro cZ;refine wk ?_;refine Af rfl rfl<|?_
 exact ⟨(M.wn tW),true,rfl,(by rw [Fk tA];exact ⟨fun _=>⟨hE,aY,hK.all tM⟩,fun _=>rfl⟩)⟩
def MeasP (x:NT):Prop:=∀ (w0 w:World) (G:Av) (L:List Res) (cb db wb nb no c d lev:Nat) (ta ka:Option Addr) (tc kc:Nat),Mem w0 G (rB cb [iI ((c:Nat):Int)] 3::rB db [iI ((d:Nat):Int)] 3::rB wb [.func (.func 232) #[] #[pP cb,pP db,pP wb]] 303::L) w→Al .u8 x.kind→(x.tag.length≤9223372036854775807∧x.key.length≤9223372036854775807∧x.text.length≤9223372036854775807) →
  Aj Fa 2 G (vS ta x.as.length tc) x.as→Aj rdN 6 G (vS ka x.kids.length kc) x.kids→At G nb no [iB x.kind,qT x.tag,qT x.key,vS ta x.as.length tc,qT x.text,vS ka x.kids.length kc]→c≤64→d≤7→1≤lev→lev≤7 →
  Calls pG 232 #[vP (some ⟨nb,no,none⟩),iI (lev:Int),pP cb,pP db,pP wb] w
   (L4 w0 G fun L' v=>∃ (bb:Bool) (c' d':Nat),v=vB bb∧L' = (rB cb [iI ((c':Nat):Int)] 3::rB db [iI ((d':Nat):Int)] 3::rB wb [.func (.func 232) #[] #[pP cb,pP db,pP wb]] 303::L)∧(bb=true↔Tr.Ok I4 (7 - lev) x∧c+x.size≤64)∧(bb=true→c' = c+x.size∧d' = max d (lev+x.depth - 1)))
theorem Auc {x:NT} (ih:∀ y∈x.kids,MeasP y) {w0 w:World} {G:Av} {L:List Res} {N O I nb no c d D:Nat} {ta ka:Option Addr} {tc kc:Nat} (M:Mem w0 G (rB N [iI ((c:Nat):Int)] 3::rB O [iI ((d:Nat):Int)] 3::rB I [.func (.func 232) #[] #[pP N,pP O,pP I]] 303::L) w) (hk:Al .u8 x.kind) (hl:(x.tag.length≤9223372036854775807∧x.key.length≤9223372036854775807∧x.text.length≤9223372036854775807))
  (SA:Aj Fa 2 G (vS ta x.as.length tc) x.as) (SK:Aj rdN 6 G (vS ka x.kids.length kc) x.kids) (A:At G nb no [iB x.kind,qT x.tag,qT x.key,vS ta x.as.length tc,qT x.text,vS ka x.kids.length kc]) (hc:c≤64) (hd:d≤7) (aF:1≤D) (aG:D≤7) :
  Calls pG 232 #[vP (some ⟨nb,no,none⟩),iI (D:Int),pP N,pP O,pP I] w
   (L4 w0 G fun L' v=>∃ (bb:Bool) (c' d':Nat),v=vB bb∧L' = (rB N [iI ((c':Nat):Int)] 3::rB O [iI ((d':Nat):Int)] 3::rB I [.func (.func 232) #[] #[pP N,pP O,pP I]] 303::L)∧(bb=true↔Tr.Ok I4 (7 - D) x∧c+x.size≤64)∧(bb=true→c' = c+x.size∧d' = max d (D+x.depth - 1))):=by
 refine Ap (vs:=[_,_,_,_,_]) Tryz.func232 rfl (n:=45) rfl rfl<|wk ?_;refine D0 Cj M 0 rfl rfl rfl rfl rfl rfl<|?_;clear M;intro w M
 refine wk ?_;refine Ak (fun a F=>Aqn (b:=d) (c:=D) (F.ev rfl) (F.ev rfl)) rfl<|D0 Cj M 1 rfl rfl rfl rfl rfl rfl<|?_;clear M;intro w M
 refine wk ?_
 rcases bE (decide (6 < (D:Int))) with ap | aq
 ·skip
  have h1:=dT ap;refine wk ?_;refine Af rfl rfl<|?_
  replace M:=M.perm (Ah _ 2 _ rfl);replace M:=M.perm (Ah _ 2 _ rfl);replace M:=M.perm (Ah _ 2 _ rfl);replace M:=z_M M
  exact ⟨_,M,false,_,_,rfl,rfl,⟨fun E=>(by cases E),fun E=>absurd E (Mi (by clear M;grind))⟩,fun E=>(by cases E)⟩
 have h2:=dF aq;refine wk ?_
 rcases bE (decide (64 < ((c:Nat):Int)+1)) with ar | au
 ·skip
  have h3:=dT ar;refine wk ?_;refine Af rfl rfl<|?_
  replace M:=M.perm (Ah _ 2 _ rfl);replace M:=M.perm (Ah _ 2 _ rfl);replace M:=M.perm (Ah _ 2 _ rfl);replace M:=z_M M
  exact ⟨_,M,false,_,_,rfl,rfl,⟨fun E=>(by cases E),fun E=>absurd E (Mi (by clear M;grind))⟩,fun E=>(by cases E)⟩
 have h4:=dF au;refine wk ?_;refine A2 ent233 rfl rfl (Alz (x:=x) M hk hl SA SK A)<|?_;clear M;rintro _ w M ⟨b5,rfl,a9⟩
 refine wk ?_;refine Ag rfl ?_ ?_
 ·intro ag;have h6:=Ad ag;have a7:(b5)=false:=(Ad ag);refine wk ?_;refine Af rfl rfl<|?_
  replace M:=M.perm (Ah _ 2 _ rfl);replace M:=M.perm (Ah _ 2 _ rfl);replace M:=M.perm (Ah _ 2 _ rfl);replace M:=z_M M
  exact ⟨_,M,false,_,_,rfl,rfl,⟨fun E=>(by cases E),fun E=>absurd E (Mi (by clear M;grind))⟩,fun E=>(by cases E)⟩
 intro ah;have h7:=Ae ah;have a8:(b5)=true:=(Ae ah);refine wk ?_;have ai:I4 x:=by clear M;grind
 have al:D≤6:=by omega
 have aE:=Abg ai;refine wk ?_;refine fun a F=>Bd (fun m a' w'=>∃ (i:Nat),∃ (ci:Nat),∃ (di:Nat),m=x.kids.length - i∧Fits 45 a' [(0,vP (some ⟨nb,no,none⟩)),(1,iI ((D:Int))),(2,pP N),(3,pP O),(4,pP I),(28,vS ka x.kids.length kc),(29,iI ((x.kids.length:Nat):Int)),(30,iI ((i:Nat):Int))]∧Mem w0 G (rB N [iI ((ci:Nat):Int)] 3::rB O [iI ((di:Nat):Int)] 3::rB I [.func (.func 232) #[] #[pP N,pP O,pP I]] 303::L) w'∧(i≤x.kids.length)∧(ci=c+1+Tr.sizes (x.kids.take i)∧ci≤64)∧(di=max d (D+Tr.depths (x.kids.take i)))∧(di≤7)∧(∀ (m:Nat) (y:NT),m < i→x.kids[m]?=some y→Tr.Ok I4 (7 - (D+1)) y)) _ ⟨0,c+1,max d D,rfl,fU,M,Nat.zero_le _,⟨by simp [Tr.sizes],tM⟩,by simp only [List.take_zero,Tr.depths];omega,tM,fun m y h=>by omega⟩ ?_;clear F M;rintro m a w ⟨i,ci,di,rfl,F,M,hi,av,aD,aC,hO⟩;revert a;refine wk ?_;refine qD rfl ?_ ?_
 ·intro h8;refine wk ?_;refine fun a F=>D5 [(.pure,0),(.free,1),(.free,2),(.free,3),(.pure,4),(.free,5),(.free,6),(.free,7),(.free,8),(.keep,9),(.free,10)] [] (Keep G [rB I [.func (.func 232) #[] #[pP N,pP O,pP I]] 303]) rfl kR kF (Aw (M.drew _)) ?_;replace M:=M.drew (w.drawn+1);revert a;refine wk ?_;obtain ⟨ao,H⟩:=Aq (xs:=x.kids) (i:=i) tM;obtain ⟨a3,aK,_,a2,_,an,aj⟩:=SK.at H;obtain ⟨a0,a1,ay,az,rfl,ak,am,V,Y⟩:=D7 aj;refine wk ?_;refine k_k rfl<|?_
  replace M:=M.perm (Ah _ 2 _ rfl);replace M:=M.perm (Ah _ 2 _ rfl);replace M:=M.perm (Ah _ 2 _ rfl);replace M:=z_M M;refine s_vL A0m (caps:=[pP N,pP O,pP I]) rfl rfl rfl (ih ao (mG H) _ _ _ _ _ _ _ _ _ ci di (D+1) _ _ _ _ M ak am V Y an tM tM tM tM)<|?_;clear M;rintro _ _ w M ⟨aa,ab,ac,rfl,rfl,U,ae⟩
  refine Ao<|?_
  refine eQ (Aw M)<|wk ?_;refine Ag rfl ?_ ?_
  ·intro S;have a4:=Ad S;have aw:(aa)=false:=(Ad S);refine wk ?_;refine Af rfl rfl<|?_
   replace M:=M.perm (Ah _ 2 _ rfl);replace M:=M.perm (Ah _ 2 _ rfl);replace M:=M.perm (Ah _ 2 _ rfl);replace M:=z_M M
   exact ⟨_,M,false,_,_,rfl,rfl,⟨fun E=>(by cases E),fun E=>absurd E (Um H al (by rw [← av.1];exact fun E=>by have h9:=U.2 E;simp_all))⟩,fun E=>(by cases E)⟩
  intro T;have a5:=Ae T;have ax:(aa)=true:=(Ae T);refine wk ?_;have hq:=U.1 tA;obtain ⟨aA,aB⟩:=ae tA;have aJ:=Tr.sizes_snoc H;have aH:=Tr.depths_snoc H;have aI:=hq.1.depth;intro a F
  exact ⟨_,tM,i+1,ab,ac,rfl,fU,M,tM,tM,tM,tM,Acy hO H hq.1⟩
 intro a6;refine wk ?_;refine Af rfl rfl<|?_
 replace M:=M.perm (Ah _ 2 _ rfl);replace M:=M.perm (Ah _ 2 _ rfl);replace M:=M.perm (Ah _ 2 _ rfl);replace M:=z_M M;have hf:=Mv (x:=x) (i:=i) tM;have hg:=Aib (x:=x) (i:=i) tM
 exact ⟨_,M,true,_,_,rfl,rfl,⟨fun _=>⟨Aha al ai tM hO,tM⟩,fun _=>rfl⟩,fun _=>⟨tM,tM⟩⟩
theorem Ayl (x:NT):MeasP x:=by
 induction x using Tr.ind with
 | _ x ih=>intro w0 w G L V Y wb nb no c d U ta ka tc kc M S T H I A N O D E;exact Auc ih M S T H I A N O D E
theorem Agz (M:Mem w0 G L w) {x:NT} {ta:Option Addr} {tc:Nat} {ka:Option Addr} {kc:Nat} (hk:Al .u8 x.kind) (hl:(x.tag.length≤9223372036854775807∧x.key.length≤9223372036854775807∧x.text.length≤9223372036854775807)) (SA:Aj Fa 2 G (vS ta x.as.length tc) x.as) (SK:Aj rdN 6 G (vS ka x.kids.length kc) x.kids):Calls pG 220 #[.agg #[iB x.kind,qT x.tag,qT x.key,vS ta x.as.length tc,qT x.text,vS ka x.kids.length kc]] w (Ret w0 G L fun _ v=>v=.tuple #[iI ((cntF x:Nat):Int),iI ((Auv x:Nat):Int)]):=by
 refine Ap (vs:=[_]) Tryz.func220 rfl (n:=11) rfl rfl<|?_
 refine Bt<|?_
 refine Ch M rfl rfl rfl<|?_;clear M;intro b1 w M
 refine B0 M Cj rfl rfl<|?_;clear M;intro b2 w M
 refine B0 M Cj rfl rfl<|?_;clear M;intro U w M
 refine wk ?_;refine B0 M Aja rfl rfl<|?_;clear M;intro V w M
 refine wk ?_;refine Ak (fun a F=>Dh (vs:=#[pP b2,pP U,pP V]) (by simp only [List.map_toArray,List.map_cons,List.map_nil,F.ev (x:=.tmp 2) rfl,F.ev (x:=.tmp 3) rfl,F.ev (x:=.tmp 4) rfl])) rfl<|D0 Aja M 0 rfl rfl rfl rfl rfl rfl<|?_;clear M;intro w M
 refine wk ?_;obtain ⟨I,A,H,M⟩:=M.freeze (k:=3) rfl;have Y:At I b1 0 [iB x.kind,qT x.tag,qT x.key,vS ta x.as.length tc,qT x.text,vS ka x.kids.length kc]:=At.of_cells H;clear H;replace SA:=SA.mono Dy A;replace SK:=SK.mono Ff A;replace M:=z_M M;refine wk ?_;replace M:=M.perm (Ah _ 1 _ rfl);replace M:=M.perm (Ah _ 2 _ rfl);replace M:=z_M M;refine s_vL A0m (caps:=[pP b2,pP U,pP V]) rfl rfl rfl (Ayl x _ _ _ _ _ _ _ _ _ 0 0 1 _ _ _ _ M hk hl SA SK Y tM tM tM tM)<|?_;clear M;rintro _ _ w M ⟨b9,N,O,rfl,rfl,T,aa⟩
 refine wk ?_;refine Ag rfl ?_ ?_
 ·intro D;have ae:=Ad D;have ab:(b9)=false:=(Ad D);refine Bt<|?_
  refine D0 Cj M 0 rfl rfl rfl rfl rfl rfl<|?_;clear M;intro w M
  refine D0 Cj M 1 rfl rfl rfl rfl rfl rfl<|?_;clear M;intro w M
  refine wk ?_;refine fun a F=>Azw F M (k1:=0) (k2:=1) rfl rfl rfl (agf Cj rfl) (agf Cj rfl) rfl rfl ?_;have S:¬ I1 x:=fun h_=>by have h9:=T.2 ⟨h_.1,by have:=h_.2;omega⟩;simp_all
  exact ⟨_,A,(M.wn tW),by rw [Vg S,depF_no S];rfl⟩
 intro E;have ag:=Ae E;have ac:(b9)=true:=(Ae E);refine wk ?_;refine fun a F=>D5 [(.pure,0),(.pure,1),(.keep,2),(.keep,3)] [] (Keep I [rB b2 [iI ((N:Nat):Int)] 3,rB U [iI ((O:Nat):Int)] 3,rB V [.func (.func 232) #[] #[pP b2,pP U,pP V]] 303]) rfl kR kF (Aw (M.drew _)) ?_;replace M:=M.drew (w.drawn+1);revert a;refine wk ?_;refine k_k rfl<|D0 Cj M 0 rfl rfl rfl rfl rfl rfl<|?_;clear M;intro w M
 refine Ao<|?_
 refine eQ (Aw M)<|k_k rfl<|D0 Cj M 1 rfl rfl rfl rfl rfl rfl<|?_;clear M;intro w M
 refine Ao<|?_
 refine eQ (Aw M)<|wk ?_;refine fun a F=>Azw F M (k1:=0) (k2:=1) rfl rfl rfl (agf Cj rfl) (agf Cj rfl) rfl rfl ?_;have hq:=T.1 tA;have S:I1 x:=⟨hq.1,tM⟩;obtain ⟨ah,ai⟩:=aa tA;have aj:=Tr.depth_eq x
 exact ⟨_,A,(M.wn tW),by rw [Aig S,A1r S,show x.size=N by omega,show x.depth=O by omega]⟩
theorem Adj (M:Mem w0 G L w) {x:NT} {D:Option Addr} {E:Nat} {ka:Option Addr} {A:Nat} (N:Al .u8 x.kind) (O:(x.tag.length≤9223372036854775807∧x.key.length≤9223372036854775807∧x.text.length≤9223372036854775807)) (H:Aj Fa 2 G (vS D x.as.length E) x.as) (I:Aj rdN 6 G (vS ka x.kids.length A) x.kids):Calls pG 220 #[.agg #[iB x.kind,qT x.tag,qT x.key,vS D x.as.length E,qT x.text,vS ka x.kids.length A]] w (B5 w0 G L fun v=>v=.tuple #[iI ((cntF x:Nat):Int),iI ((Auv x:Nat):Int)]):=Ret.plain M (Agz M N O H I)
theorem Ul (M:Mem w0 G L w) {x:NT} {D:Option Addr} {E:Nat} {ka:Option Addr} {A:Nat} (N:Al .u8 x.kind) (O:(x.tag.length≤9223372036854775807∧x.key.length≤9223372036854775807∧x.text.length≤9223372036854775807)) (H:Aj Fa 2 G (vS D x.as.length E) x.as) (I:Aj rdN 6 G (vS ka x.kids.length A) x.kids):Calls pG 193 #[.agg #[iB x.kind,qT x.tag,qT x.key,vS D x.as.length E,qT x.text,vS ka x.kids.length A]] w (B5 w0 G L fun v=>v=iI ((cntF x:Nat):Int)):=by
 refine Ap (vs:=[_]) Tryz.func193 rfl (n:=11) rfl rfl<|?_
 refine Bt<|?_
 refine Ch M rfl rfl rfl<|?_;clear M;intro S w M
 refine wk ?_;refine A2 ent220 rfl rfl (Adj (x:=x) M N O H I)<|?_;clear M;rintro _ w M rfl
 refine wk ?_;refine Af rfl rfl<|?_
 exact ⟨M.wn dS1,rfl⟩
theorem Ia (M:Mem w0 G L w) {x:NT} {D:Option Addr} {E:Nat} {ka:Option Addr} {A:Nat} (O:Al .u8 x.kind) (S:(x.tag.length≤9223372036854775807∧x.key.length≤9223372036854775807∧x.text.length≤9223372036854775807)) (H:Aj Fa 2 G (vS D x.as.length E) x.as) (I:Aj rdN 6 G (vS ka x.kids.length A) x.kids):Calls pG 229 #[.agg #[iB x.kind,qT x.tag,qT x.key,vS D x.as.length E,qT x.text,vS ka x.kids.length A]] w (B5 w0 G L fun v=>v=iI (Yd x)):=by
 refine Ap (vs:=[_]) Tryz.func229 rfl (n:=6) rfl rfl<|?_
 refine Bt<|?_
 refine Ch M rfl rfl rfl<|?_;clear M;intro T w M
 refine wk ?_;refine A2 A0r rfl rfl (Ul (x:=x) M O S H I)<|?_;clear M;rintro _ w M rfl
 refine wk ?_;refine qD rfl ?_ ?_
 ·intro U;refine wk ?_;refine Af rfl rfl<|?_
  exact ⟨M.wn dS1,by rw [Apt fun N=>by have:=Oz.2 N;omega]⟩
 intro V;refine wk ?_;refine Af rfl rfl<|?_
 exact ⟨M.wn dS1,by rw [Sh (Oz.1 tM)]⟩
def RcntP (x:NT):Prop:=∀ (w0 w:World) (G:Av) (L:List Res) (ta ka:Option Addr) (tc kc lev:Nat),Mem w0 G L w→Al .u8 x.kind→(x.tag.length≤9223372036854775807∧x.key.length≤9223372036854775807∧x.text.length≤9223372036854775807)→Aj Fa 2 G (vS ta x.as.length tc) x.as→Aj rdN 6 G (vS ka x.kids.length kc) x.kids→lev≤8 →
  Calls pG 188 #[.agg #[iB x.kind,qT x.tag,qT x.key,vS ta x.as.length tc,qT x.text,vS ka x.kids.length kc],iI (lev:Int)] w (B5 w0 G L fun v=>∃ r:Nat,v=iI (r:Int)∧Cnt I4 x lev r)
theorem Ark {x:NT} (ih:∀ y∈x.kids,RcntP y) {w0 w:World} {G:Av} {L:List Res} (M:Mem w0 G L w) {ta:Option Addr} {tc:Nat} {ka:Option Addr} {kc:Nat} (hk:Al .u8 x.kind) (hl:(x.tag.length≤9223372036854775807∧x.key.length≤9223372036854775807∧x.text.length≤9223372036854775807)) (SA:Aj Fa 2 G (vS ta x.as.length tc) x.as) (SK:Aj rdN 6 G (vS ka x.kids.length kc) x.kids) {lev:Nat} (ak:lev≤8):Calls pG 188 #[.agg #[iB x.kind,qT x.tag,qT x.key,vS ta x.as.length tc,qT x.text,vS ka x.kids.length kc],iI (lev:Int)] w (B5 w0 G L fun v=>∃ r:Nat,v=iI (r:Int)∧Cnt I4 x lev r):=by
 refine Ap (vs:=[_,_]) Tryz.func188 rfl (n:=36) rfl rfl<|?_
 refine Bt<|?_
 refine Ch M rfl rfl rfl<|?_;clear M;intro b1 w M
 refine wk ?_
 rcases bE (decide ((lev:Int) < 1)) with ab | ac
 ·skip
  have h2:=dT ab;refine wk ?_;refine Af rfl rfl<|?_
  exact ⟨M.wn dS1,1000,rfl,Cnt.bad (by clear M;grind)⟩
 have h3:=dF ac;refine wk ?_;refine A2 ent211 rfl rfl (Aqs (x:=x) M hk hl SA SK)<|?_;clear M;rintro _ w M ⟨b4,rfl,ay⟩
 refine wk ?_;refine Ag rfl ?_ ?_
 ·intro O;have h5:=Ad O;have aw:(b4)=false:=(Ad O);refine wk ?_;refine Af rfl rfl<|?_
  exact ⟨M.wn dS1,1000,rfl,Cnt.bad (by clear M;grind)⟩
 intro S;have h6:=Ae S;have ax:(b4)=true:=(Ae S);refine wk ?_;have E:I4 x:=by clear M;grind
 have a0:1≤lev:=by omega
 have az:=Abg E;refine wk ?_;refine fun a F=>Bd (fun m a' w'=>∃ (i:Nat),∃ (c:Nat),m=x.kids.length - i∧Fits 36 a' [(1,iI ((lev:Int))),(2,pP b1),(5,iI ((c:Nat):Int)),(6,iI ((i:Nat):Int))]∧Mem w0 G (rB b1 [iB x.kind,qT x.tag,qT x.key,vS ta x.as.length tc,qT x.text,vS ka x.kids.length kc] 193::L) w'∧(i≤x.kids.length)∧(CntL I4 x lev i c)) _ ⟨0,1,rfl,fU,M,Nat.zero_le _,CntL.zero _ _⟩ ?_;clear F M;rintro m a w ⟨i,c,rfl,F,M,hi,hL⟩;revert a;refine Ca<|Ca<|?_
 have aj:=hL.hi;refine wk ?_
 rcases bE (decide (((i:Nat):Int) < ((x.kids.length:Nat):Int))) with ae | N
 ·skip
  have h7:=dT ae;refine wk ?_;refine qD rfl ?_ ?_
  ·intro h8;refine wk ?_;obtain ⟨aa,A⟩:=Aq (xs:=x.kids) (i:=i) tM;obtain ⟨ar,a1,_,aq,_,ap,T⟩:=SK.at A;obtain ⟨an,ao,al,am,rfl,U,V,H,I⟩:=D7 T;refine wk ?_;have Y:((lev:Int) - 1:Int)=((lev - 1:Nat):Int):=by omega
   intro a F;rw [Y] at F;revert a;refine A2 A0t rfl rfl (ih aa (mG A) _ _ _ _ _ _ _ _ (lev - 1) M U V H I tM)<|?_;clear M;rintro _ w M ⟨ai,rfl,D⟩
   have ag:=D.hi;have ah:=D.lo;refine wk ?_;intro a F
   exact ⟨_,tM,i+1,c+ai,rfl,fU,M,tM,hL.step tM tM A D⟩
  intro au;refine wk ?_;refine Af rfl rfl<|?_
  exact ⟨M.wn dS1,c,rfl,hL.done tM E tM⟩
 have av:=dF N;refine wk ?_;refine Af rfl rfl<|?_
 exact ⟨M.wn dS1,c,rfl,hL.done tM E tM⟩
theorem Axh (x:NT):RcntP x:=by
 induction x using Tr.ind with
 | _ x ih=>intro w0 w G L S ka T O N M H I D E A;exact Ark ih M H I D E A
theorem Uk (M:Mem w0 G L w) {x:NT} {I:Option Addr} {N:Nat} {ka:Option Addr} {E:Nat} (T:Al .u8 x.kind) (U:(x.tag.length≤9223372036854775807∧x.key.length≤9223372036854775807∧x.text.length≤9223372036854775807)) (O:Aj Fa 2 G (vS I x.as.length N) x.as) (S:Aj rdN 6 G (vS ka x.kids.length E) x.kids):Calls pG 153 #[.agg #[iB x.kind,qT x.tag,qT x.key,vS I x.as.length N,qT x.text,vS ka x.kids.length E]] w (B5 w0 G L fun v=>v=iI ((cntF x:Nat):Int)):=by
 refine Ap (vs:=[_]) Tryz.func153 rfl (n:=9) rfl rfl<|?_
 refine Bt<|?_
 refine Ch M rfl rfl rfl<|?_;clear M;intro V w M
 refine wk ?_;refine A2 A0t rfl rfl (Axh x _ _ _ _ _ _ _ _ 6 M T U O S tM)<|?_;clear M;rintro _ w M ⟨r2,rfl,A⟩
 have D:=A.hi;have H:=A.lo;refine wk ?_;refine qD rfl ?_ ?_
 ·intro Y;refine wk ?_;refine Af rfl rfl<|?_
  exact ⟨M.wn dS1,by rw [A.cntF.1 tM];rfl⟩
 intro h4;refine wk ?_;refine Af rfl rfl<|?_
 exact ⟨M.wn dS1,by rw [A.cntF.2 tM]⟩
theorem H9 (M:Mem w0 G L w) {x:NT} {D:Option Addr} {E:Nat} {ka:Option Addr} {A:Nat} (O:Al .u8 x.kind) (S:(x.tag.length≤9223372036854775807∧x.key.length≤9223372036854775807∧x.text.length≤9223372036854775807)) (H:Aj Fa 2 G (vS D x.as.length E) x.as) (I:Aj rdN 6 G (vS ka x.kids.length A) x.kids):Calls pG 152 #[.agg #[iB x.kind,qT x.tag,qT x.key,vS D x.as.length E,qT x.text,vS ka x.kids.length A]] w (B5 w0 G L fun v=>v=iI (Yd x)):=by
 refine Ap (vs:=[_]) Tryz.func152 rfl (n:=6) rfl rfl<|?_
 refine Bt<|?_
 refine Ch M rfl rfl rfl<|?_;clear M;intro T w M
 refine wk ?_;refine A2 A0y rfl rfl (Uk (x:=x) M O S H I)<|?_;clear M;rintro _ w M rfl
 refine wk ?_;refine qD rfl ?_ ?_
 ·intro U;refine wk ?_;refine Af rfl rfl<|?_
  exact ⟨M.wn dS1,by rw [Apt fun N=>by have:=Oz.2 N;omega]⟩
 intro V;refine wk ?_;refine Af rfl rfl<|?_
 exact ⟨M.wn dS1,by rw [Sh (Oz.1 tM)]⟩
open Go Go.Y
theorem Aqh:Al .u8 1:=⟨tD,tD⟩
theorem Abp:Al .u8 2:=⟨tD,tD⟩
theorem Ly {x:Int} (h:Al .u8 x):0≤x∧x≤255:=h
theorem Agr {s:List UInt8}:I1 (.mk 1 s [] [] [] [])↔C2 s:=by
 unfold I1
 constructor
 ·rintro ⟨⟨h,_⟩,_⟩
  rcases h with ⟨A,_⟩ | ⟨_,_,h,_⟩
  ·exact absurd A (by simp [Tr.kind])
  exact h
 intro h;refine ⟨⟨Or.inr ⟨by simp [Tr.kind],rfl,h,Or.inl rfl,rfl,by simp [Tr.as],by simp [Tr.kids],fun i x H=>?_,fun i j a b _ D=>?_⟩,fun c E=>?_⟩,by simp [Tr.size,Tr.sizes]⟩
 ·simp [Tr.as] at H
 ·simp [Tr.kids] at D
 simp [Tr.kids] at E
theorem Aep {s:List UInt8}:I1 (.mk 2 [] [] [] s [])↔Str s:=by
 unfold I1
 constructor
 ·rintro ⟨⟨h,_⟩,_⟩
  rcases h with ⟨_,h,_⟩ | ⟨_,A,_⟩
  ·exact h
  exact absurd A (by simp [Tr.kind])
 intro h;refine ⟨⟨Or.inl ⟨rfl,h,rfl,rfl,rfl,rfl⟩,fun c D=>?_⟩,by simp [Tr.size,Tr.sizes]⟩
 simp [Tr.kids] at D
theorem T0 {x:NT}:Yd x=0↔I1 x:=by
 unfold Yd
 split
 ·rename_i h;exact ⟨fun _=>h,fun _=>rfl⟩
 rename_i h;exact ⟨fun A=>(by cases A),fun A=>absurd A h⟩
def Fg (x:SlotD):Prop:=C2 x.n∧x.src≤3∧Str x.v∧(x.src=0∨x.v=[])
def Hw (l:List SlotD) (i:Nat):Prop:=∀ (m:Nat) (x:SlotD),m < i→l[m]?=some x→Fg x∧∀ y,0 < m→l[m - 1]?=some y→Op.bytesLess y.n x.n=true
def H3 (l:List SlotD):Prop:=l.length≤8∧Hw l l.length
theorem Hw.zero (l:List SlotD):Hw l 0:=fun m x h=>by omega
theorem Hw.step {l:List SlotD} {i:Nat} {x:SlotD} (h:Hw l i) (H:l[i]?=some x) (D:Fg x) (E:∀ y,0 < i→l[i - 1]?=some y→Op.bytesLess y.n x.n=true):Hw l (i+1):=by
 intro m z I A
 rcases Nat.eq_or_lt_of_le (show m≤i by omega) with e | e
 ·subst e;rw [H] at A;simp only [Option.some.injEq] at A;subst A;exact ⟨D,E⟩
 exact h m z e A
theorem Hw.done {l:List SlotD} {i:Nat} (h:Hw l i) (A:l.length≤8) (E:l.length≤i):H3 l:=⟨A,fun m x H D=>h m x tM D⟩
theorem F4 {l:List SlotD} {i:Nat} {x:SlotD} (A:l[i]?=some x) (h:¬ Fg x):¬ H3 l:=fun D=>h (D.2 i x (A3 A) A).1
theorem O9 {l:List SlotD} {i:Nat} {x y:SlotD} (A:l[i]?=some x) (H:l[i - 1]?=some y) (D:0 < i) (h:¬ Op.bytesLess y.n x.n=true):¬ H3 l:=fun E=>h ((E.2 i x (A3 A) A).2 y D H)
def Bm (x:PT):Prop :=
 (x.kind=1∧C2 x.tag∧(x.key=[]∨C2 x.key)∧H3 x.as∧x.text=[]∧x.kids.length≤16) ∨
 (x.kind=2∧Str x.text∧x.tag=[]∧x.key=[]∧x.as.length=0∧x.kids.length=0) ∨
 ((x.kind=3∨x.kind=4)∧x.text=[]∧x.tag=[]∧x.key=[]∧x.as.length=0∧x.kids.length=0) ∨
 (x.kind=5∧C2 x.tag∧H3 x.as∧x.key=[]∧x.text=[]∧x.kids.length=0)
theorem Q9 {x:PT} (h:Bm x):x.kids.length≤16∧x.as.length≤8:=by
 rcases h with ⟨_,_,_,h,_,A⟩ | ⟨_,_,_,_,h,A⟩ | ⟨_,_,_,_,h,A⟩ | ⟨_,_,h,_,_,A⟩
 ·exact ⟨A,h.1⟩
 ·omega
 ·omega
 exact ⟨tM,h.1⟩
def ValidP (x:PT):Prop:=x.kind=1∧Tr.Ok Bm 6 x∧x.size≤64
open Classical in
noncomputable def cntP (x:PT):Nat:=if ValidP x then x.size else 0
open Classical in
noncomputable def Y8 (x:PT):Int:=if ValidP x then 0 else 14
theorem Aif {x:PT} (h:ValidP x):cntP x=x.size:=by unfold cntP;rw [if_pos h]
theorem Aeg {x:PT} (h:¬ ValidP x):cntP x=0:=by unfold cntP;rw [if_neg h]
theorem Aih {x:PT} (h:ValidP x):Y8 x=0:=by unfold Y8;rw [if_pos h]
theorem Vh {x:PT} (h:¬ ValidP x):Y8 x=14:=by unfold Y8;rw [if_neg h]
theorem Sf {x:PT}:0 < cntP x↔ValidP x:=by
 unfold cntP
 split
 ·rename_i h;exact ⟨fun _=>h,fun _=>Tr.size_pos x⟩
 rename_i h;exact ⟨fun A=>tM,fun A=>absurd A h⟩
theorem chkP_zero {x:PT}:Y8 x=0↔ValidP x:=by
 unfold Y8
 split
 ·rename_i h;exact ⟨fun _=>h,fun _=>rfl⟩
 rename_i h;exact ⟨fun A=>(by cases A),fun A=>absurd A h⟩
theorem Cnt.cntP {x:PT} {r:Nat} (h:Cnt Bm x 6 r):(x.kind≠1∨64 < r→_root_.Go.Proofs.YtmmhmcplegpenaaGreatDoor.T.cntP x=0)∧(x.kind=1→r≤64→_root_.Go.Proofs.YtmmhmcplegpenaaGreatDoor.T.cntP x=r):=by
 refine ⟨fun A=>Aeg fun D=>?_,fun E A=>?_⟩
 ·rcases A with A | A
  ·exact A D.1
  have:=h.ok.2 D.2;omega
 rw [Aif ⟨E,h.ok.1 A⟩,h.eq A]
theorem C8 {a b:Nat} (A:a≤9223372036854775807) (D:b≤9223372036854775807):IntKind.i64.wrap (((a:Nat):Int)+((b:Nat):Int))=0↔(a=0∧b=0):=by
 simp [IntKind.wrap,IntKind.signed,IntKind.bits]
 split <;> omega
section
variable {β σ:Type} (f:σ→Tr β→σ)
mutual
def Vk (s:σ):Tr β→σ
 | .mk k t y a x l=>I7 (f s (.mk k t y a x l)) l
def I7 (s:σ):List (Tr β)→σ
 | []=>s
 | c::l=>I7 (Vk s c) l
end
theorem Avr (s:σ) (x:Tr β):Vk f s x=I7 f (f s x) x.kids:=by cases x;simp only [Vk,Tr.kids]
theorem P4:∀ (l m:List (Tr β)) (s:σ),I7 f s (l++m)=I7 f (I7 f s l) m
 | [],m,s=>by simp [I7]
 | x::l,m,s=>by simp only [List.cons_append,I7,P4 l m]
theorem Aes {l:List (Tr β)} {i:Nat} {x:Tr β} (h:l[i]?=some x) (s:σ):I7 f s (l.take (i+1))=Vk f (I7 f s (l.take i)) x:=by
 rw [Tr.take_snoc' h,P4];simp [I7]
end
theorem Tr.Ok.kid {β:Type} {A:Tr β→Prop} {n:Nat} {x c:Tr β} (h:Tr.Ok A n x) (D:c∈x.kids):∃ m,Tr.Ok A m c:=by
 cases n with
 | zero=>exact h.elim
 | succ n=>exact ⟨n,h.2 c D⟩
theorem Ph {α:Type} {p:α→Prop} {l:List α} {i:Nat} {x:α} (h:∀ (m:Nat) (y:α),m < i→l[m]?=some y→p y) (E:l[i]?=some x) (D:p x):∀ (m:Nat) (y:α),m < i+1→l[m]?=some y→p y:=by
 intro m y H A
 rcases Nat.eq_or_lt_of_le (show m≤i by omega) with e | e
 ·subst e;rw [E] at A;simp only [Option.some.injEq] at A;subst A;exact D
 exact h m y e A
structure ItemD where
 key:Int
 typ:Int
 text:List UInt8
 mZ:List (List UInt8)
def ItemOk (x:ItemD):Prop:=¬ x.key=0∧Str x.text∧x.mZ.length≤8∧∀ s∈x.mZ,C2 s
open Classical in
noncomputable def Hi (x:ItemD):Int:=if ItemOk x then 0 else 6
theorem Dc {x:ItemD} (h:ItemOk x):Hi x=0:=by unfold Hi;rw [if_pos h]
theorem E1 {x:ItemD} (h:¬ ItemOk x):Hi x=6:=by unfold Hi;rw [if_neg h]
theorem G7 {l:List (List UInt8)} {i:Nat} (h:∀ (m:Nat) (s:List UInt8),m < i→l[m]?=some s→C2 s) (E:l.length≤i):∀ s∈l,C2 s:=by
 intro s D;obtain ⟨m,A⟩:=List.mem_iff_getElem?.1 D
 exact h m s (by have:=A3 A;omega) A
theorem Ahc {x:ItemD} {i:Nat} {s:List UInt8} (D:x.mZ[i]?=some s) (h:¬ C2 s):¬ ItemOk x:=fun A=>h (A.2.2.2 s (mG D))
theorem Fb (u:Nat):Lib.decDigits u=(if u / 10=0 then [] else Lib.decDigits (u / 10))++[UInt8.ofNat (48+u % 10)]:=by
 rw [Lib.decDigits]
 split
 ·rename_i h
  rw [if_pos tM,Nat.mod_eq_of_lt h]
  rfl
 rename_i h
 rw [if_neg tM]
theorem C7 (u:Nat) (h:u < 18446744073709551616):(Lib.decDigits u).length≤20:=by
 rw [Lib.decDigits_length]
 rcases Nat.eq_zero_or_pos u with A | A
 ·subst A;rw [Lib.nDigits_small tD];omega
 have D:=Lib.numDigits_eq u A h
 split at D <;> omega
theorem dig_at:∀ k:Nat,k < 10→([48,49,50,51,52,53,54,55,56,57]:List UInt8)[k]?=some (UInt8.ofNat (48+k)):=by decide
theorem Ty:∀ k:Nat,k < 10→(([48,49,50,51,52,53,54,55,56,57]:List UInt8).take (k+1)).drop k=[UInt8.ofNat (48+k)]:=by decide
theorem Ie {k:Nat} (h:k < 10):Lib.decDigits k=[UInt8.ofNat (48+k)]:=by
 rw [Fb,if_pos tM,Nat.mod_eq_of_lt h];rfl
theorem dec_two {u:Nat} (h:¬ u < 10):Lib.decDigits (u / 10)++Lib.decDigits (u % 10)=Lib.decDigits u:=by
 rw [Fb u,if_neg tM,Ie (k:=u % 10) tM]
theorem Awh {l:List UInt8} {k:Nat} {b:UInt8} (h:k < l.length):(l.set k b).drop k=b::l.drop (k+1):=by
 rw [List.drop_eq_getElem_cons (by rw [List.length_set];exact h),List.getElem_set_self,List.drop_set_of_lt tM]
theorem Aay {u n i:Nat} {l:List UInt8} {b:UInt8} (h:Lib.decDigits u=Lib.decDigits n++l.drop i) (E:1≤i) (D:i≤20) (H:l.length=20) (A:([48,49,50,51,52,53,54,55,56,57]:List UInt8)[n % 10]?=some b) :
  Lib.decDigits u=(if n / 10=0 then [] else Lib.decDigits (n / 10))++(l.set (i - 1) b).drop (i - 1):=by
 rw [dig_at _ tM] at A;simp only [Option.some.injEq] at A;rw [h,Fb n,Awh tM,← A,show i - 1+1=i by omega]
 simp
theorem A1s {u n i:Nat} {l:List UInt8} (h:Lib.decDigits u=Lib.decDigits n++l.drop i) (D:u < 18446744073709551616) (H:l.length=20) (E:i≤20):1≤i:=by
 have A:=C7 u D;rw [h,lA,lD,Lib.decDigits_length] at A;have:=Lib.nDigits_pos n
 omega
def I0 (x:ItemD) (s:SlotD):List UInt8:=if s.src=1 then x.text else if s.src=2 then Lib.decDigits x.key.toNat else if s.src=3 then Lib.decDigits x.mZ.length else s.v
def Cc (x:ItemD) (s:SlotD):AttrD:=⟨s.n,I0 x s⟩
theorem Aly {x:ItemD} {xs:List SlotD} {i:Nat} {s:SlotD} (h:xs[i]?=some s) :
  ((xs.take i).map (Cc x)++List.replicate (xs.length - i) (⟨[],[]⟩:AttrD)).set i (Cc x s)=(xs.take (i+1)).map (Cc x)++List.replicate (xs.length - (i+1)) (⟨[],[]⟩:AttrD):=by
 have D:=A3 h;rw [Tr.take_snoc' h,List.map_append,List.set_append_right _ _ (by simp;omega)];have e:xs.length - i=(xs.length - (i+1))+1:=by omega
 have A:i - ((xs.take i).map (Cc x)).length=0:=by simp;omega
 rw [e,A,List.replicate_succ]
 simp
theorem pick4 {x:ItemD} {s:SlotD} (A:0≤s.src) (D:s.src≤3):(#[Value.string (str s.v),Value.string (str x.text),Value.string (str (Lib.decDigits x.key.toNat)),Value.string (str (Lib.decDigits x.mZ.length))]:Array Value)[s.src.toNat]?=some (qT (I0 x s)):=by
 unfold I0;have h:s.src=0∨s.src=1∨s.src=2∨s.src=3:=by omega
 rcases h with h | h | h | h <;> rw [h] <;> rfl
theorem Abd {x:ItemD} (D:x.text.length≤9223372036854775807) (A:Al .u64 x.key) (N:x.mZ.length≤9223372036854775807) (s:SlotD) (E:s.v.length≤9223372036854775807):(I0 x s).length≤9223372036854775807:=by
 obtain ⟨H,I⟩:0≤x.key∧x.key≤18446744073709551615:=A;have a:=C7 x.key.toNat tM;have b:=C7 x.mZ.length tM;unfold I0
 split
 ·exact D
 split
 ·omega
 split
 ·omega
 exact E
theorem Aqk {l:List SlotD} (h:H3 l) {s:SlotD} (D:s∈l):s.src≤3:=by
 obtain ⟨m,A⟩:=List.mem_iff_getElem?.1 D
 exact (h.2 m s (A3 A) A).1.2.1
def Bn (s:List UInt8):NT:=.mk 2 [] [] [] s []
def Aaw (x:ItemD) (tag:List UInt8) (al:List SlotD) (m:List UInt8):NT:=.mk 1 tag m (al.map (Cc x)) [] [Bn m]
mutual
def Fy (x:ItemD):PT→List NT
 | .mk k tag key al text kids=>if k=1 then [.mk 1 tag key (al.map (Cc x)) [] (madesF x kids)] else if k=2 then [Bn text] else if k=3 then [Bn x.text] else if k=4 then [Bn (Lib.decDigits x.key.toNat)] else
   if k=5 then x.mZ.map (Aaw x tag al) else []
def madesF (x:ItemD):List PT→List NT
 | []=>[]
 | c::l=>Fy x c++madesF x l
end
theorem R3 (x:ItemD):∀ (l r:List PT),madesF x (l++r)=madesF x l++madesF x r
 | [],r=>by simp [madesF]
 | c::l,r=>by simp only [List.cons_append,madesF,R3 x l r,List.append_assoc]
theorem Dr {x:ItemD} {l:List PT} {i:Nat} {c:PT} (h:l[i]?=some c):madesF x (l.take (i+1))=madesF x (l.take i)++Fy x c:=by
 rw [Tr.take_snoc' h,R3];simp [madesF]
theorem Un {x:ItemD} {p:PT} (h:p.kind=1):Fy x p=[.mk 1 p.tag p.key (p.as.map (Cc x)) [] (madesF x p.kids)]:=by
 cases p;simp only [Tr.kind] at h;subst h;simp [Fy,Tr.tag,Tr.key,Tr.as,Tr.kids]
theorem Aor {x:ItemD} {p:PT} (h:p.kind=2):Fy x p=[Bn p.text]:=by
 cases p;simp only [Tr.kind] at h;subst h;simp [Fy,Tr.text]
theorem Aoq {x:ItemD} {p:PT} (h:p.kind=3):Fy x p=[Bn x.text]:=by
 cases p;simp only [Tr.kind] at h;subst h;simp [Fy]
theorem Aop {x:ItemD} {p:PT} (h:p.kind=4):Fy x p=[Bn (Lib.decDigits x.key.toNat)]:=by
 cases p;simp only [Tr.kind] at h;subst h;simp [Fy]
theorem Aoo {x:ItemD} {p:PT} (h:p.kind=5):Fy x p=x.mZ.map (Aaw x p.tag p.as):=by
 cases p;simp only [Tr.kind] at h;subst h;simp [Fy,Tr.tag,Tr.as]
theorem made0 {x:ItemD} {p:PT} (A:¬ p.kind=1) (D:¬ p.kind=2) (E:¬ p.kind=3) (H:¬ p.kind=4) (I:¬ p.kind=5):Fy x p=[]:=by
 cases p;simp only [Tr.kind] at A D E H I;simp [Fy,A,D,E,H,I]
theorem Xc {x:ItemD} (A:x.mZ.length≤8) (p:PT):(Fy x p).length≤8:=by
 cases p with
 | mk k tag key al text kids =>
  simp only [Fy]
  repeat' split
  all_goals simp
  exact A
theorem Pk {x:ItemD} (hm:x.mZ.length≤8):∀ l:List PT,(madesF x l).length≤8 * l.length
 | []=>by simp [madesF]
 | c::l=>by
  have h1:=Xc hm c;have h2:=Pk hm l;simp only [madesF,lA,lC];omega
theorem Kd {p:PT} {n:Nat} (h:Tr.Ok Bm n p) (A:p.kind=1∨p.kind=5):H3 p.as:=by
 cases n with
 | zero=>exact h.elim
 | succ n =>
  rcases h.1 with ⟨_,_,_,h,_⟩ | ⟨h,_⟩ | ⟨h,_⟩ | ⟨_,_,h,_⟩
  ·exact h
  ·omega
  ·omega
  ·exact h
theorem Aod {p:PT} {n:Nat} (h:Tr.Ok Bm n p):p.kids.length≤16:=by
 cases n with
 | zero=>exact h.elim
 | succ n=>exact (Q9 h.1).1
theorem Wv {p:PT} {n:Nat} (h:Tr.Ok Bm n p):∀ c∈p.kids,∃ m,Tr.Ok Bm m c:=fun c A=>Tr.Ok.kid h A
theorem Kg {l:List (List UInt8)} {j:Nat} {s:List UInt8} (h:l[j]?=some s) (f:List UInt8→NT):(l.take (j+1)).map f=(l.take j).map f++[f s]:=by
 rw [Tr.take_snoc' h,List.map_append];rfl
theorem P8 {ps:List PT} {p:PT} (h:p∈ps):Tr.sizes p.kids < Tr.sizes ps:=by
 have A:=Tr.size_mem h;rw [Tr.size_eq] at A;omega
def node1 (x:ItemD) (p:PT):NT:=.mk 1 p.tag p.key (p.as.map (Cc x)) [] (madesF x p.kids)
def K6:NT:=.mk 0 [] [] [] [] []
theorem Aue {x:ItemD} {p:PT} (h:p.kind=1):madesF x [p]=[node1 x p]:=by simp [madesF,Un h,node1]
open Classical in
noncomputable def rendE (p:PT) (x:ItemD) (most:Int):Int :=
 if most < 1∨64 < most then 1 else if ¬ ValidP p then 14 else if ¬ ItemOk x then 6 else if cntF (node1 x p)=0∨most < (cntF (node1 x p):Int) then 14 else 0
open Classical in
noncomputable def D3 (p:PT) (x:ItemD) (most:Int):NT:=if rendE p x most=0 then node1 x p else K6
section
variable {p:PT} {x:ItemD} {most:Int}
theorem Rr (h:most < 1∨64 < most):rendE p x most=1:=by unfold rendE;rw [if_pos h]
theorem Zu (h:¬ (most < 1∨64 < most)) (A:¬ ValidP p):rendE p x most=14:=by unfold rendE;rw [if_neg h,if_pos A]
theorem Zv (h:¬ (most < 1∨64 < most)) (A:ValidP p) (D:¬ ItemOk x):rendE p x most=6:=by unfold rendE;rw [if_neg h,if_neg (not_not_intro A),if_pos D]
theorem rend_many (h:¬ (most < 1∨64 < most)) (D:ValidP p) (E:ItemOk x) (A:cntF (node1 x p)=0∨most < (cntF (node1 x p):Int)):rendE p x most=14:=by
 unfold rendE;rw [if_neg h,if_neg (not_not_intro D),if_neg (not_not_intro E),if_pos A]
theorem rend_ok (h:¬ (most < 1∨64 < most)) (D:ValidP p) (E:ItemOk x) (A:¬ (cntF (node1 x p)=0∨most < (cntF (node1 x p):Int))):rendE p x most=0:=by
 unfold rendE;rw [if_neg h,if_neg (not_not_intro D),if_neg (not_not_intro E),if_neg A]
theorem Afw (h:rendE p x most=0):D3 p x most=node1 x p:=by unfold D3;rw [if_pos h]
theorem Gx (h:rendE p x most≠0):D3 p x most=K6:=by unfold D3;rw [if_neg h]
end
theorem De {x:ItemD}:Hi x=0↔ItemOk x:=by
 unfold Hi
 split
 ·rename_i h;exact ⟨fun _=>h,fun _=>rfl⟩
 rename_i h;exact ⟨fun A=>(by cases A),fun A=>absurd A h⟩
theorem T5 {p:PT} (h:ValidP p):∃ n,Tr.Ok Bm n p:=⟨6,h.2.1⟩
theorem Axn {p:PT} {n:Nat} (h:Tr.Ok Bm n p) (A:¬ p.kind=2) (D:¬ p.kind=3) (E:¬ p.kind=4) (H:¬ p.kind=5):p.kind=1:=by
 cases n with
 | zero=>exact h.elim
 | succ n =>
  rcases h.1 with ⟨h,_⟩ | ⟨h,_⟩ | ⟨h,_⟩ | ⟨h,_⟩
  ·exact h
  ·exact absurd h A
  ·rcases h with h | h
   ·exact absurd h D
   ·exact absurd h E
  ·exact absurd h H
theorem Z0 {a b c:Res} (R L:List Res):(a::b::c::(R++L)).Perm (R++(a::b::c::L)):=by
 have A:(R++(a::b::c::L)).Perm (a::(R++(b::c::L))):=List.perm_middle;have D:(R++(b::c::L)).Perm (b::(R++(c::L))):=List.perm_middle;have E:(R++(c::L)).Perm (c::(R++L)):=List.perm_middle
 exact (A.trans ((D.trans (E.cons b)).cons a)).symm
end Go.Proofs.YtmmhmcplegpenaaGreatDoor.T
