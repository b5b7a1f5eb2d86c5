/- Own lemmas and walks. -/
import Derived.Test.YtmmhmcplegpenaaGreatDoorJ2
set_option linter.unusedSimpArgs false
set_option linter.unusedVariables false
set_option maxRecDepth 10000
set_option maxHeartbeats 1600000
open Go.Value renaming slice→vS,string→vT,int→vI,bool→vB,pointer→vP
open Go.IntKind renaming i64→kI,u64→kU
open Go.Lib renaming cut→xC
open Go.Proofs.Tryz renaming prog→pG
open Go.Y.Res renaming blk→rB,row→rR
open Go.Y (pP qT iI iB iU sN)
open List renaming length_append→lA,length_cons→lC,length_nil→lN,length_take→lT,length_drop→lD,mem_of_getElem?→mG,mem_cons→mC,length_map→lM
namespace Go.Proofs.YtmmhmcplegpenaaGreatDoor.T
open Go Go.Y Go.Proofs
variable {w0 w:World} {G:Av} {L:List Res}
theorem H8 (M:Mem w0 G L w) {s:List UInt8} (A:s.length≤9223372036854775807):Calls pG 216 #[qT s] w (B5 w0 G L fun v=>∃ b:Bool,v=vB b∧(b=true↔C2 s)):=by
 refine Ap (vs:=[_]) Tryz.func216 rfl (n:=7) rfl rfl<|wk ?_;refine Ak (fun a F=>Am (cs:=[iB 1,qT s,qT [],sN,qT [],sN]) A1.k rfl A1 (F.evp rfl) rfl) rfl<|A2 A0n rfl rfl (Ia (x:=(.mk 1 s ([]:List UInt8) [] ([]:List UInt8) []:NT)) M ⟨by show (0:Int)≤1;omega,by show 1≤(255:Int);omega⟩ ⟨by first | exact Nat.zero_le _ | assumption | (simp only [Tr.tag,Tr.key,Tr.text];omega),by first | exact Nat.zero_le _ | assumption | (simp only [Tr.tag,Tr.key,Tr.text];omega),by first | exact Nat.zero_le _ | assumption | (simp only [Tr.tag,Tr.key,Tr.text];omega)⟩ Aj.nil Aj.nil)<|?_;clear M;rintro _ w M rfl
 refine wk ?_;refine Af rfl rfl<|?_
 exact ⟨M,(decide (Yd ((.mk 1 s ([]:List UInt8) [] ([]:List UInt8) []:NT))=0)),rfl,(decide_eq_true_iff.trans (T0.trans Agr))⟩
theorem Nz (M:Mem w0 G L w) {s:List UInt8} (A:s.length≤9223372036854775807):Calls pG 214 #[qT s] w (B5 w0 G L fun v=>∃ b:Bool,v=vB b∧(b=true↔Str s)):=by
 refine Ap (vs:=[_]) Tryz.func214 rfl (n:=7) rfl rfl<|wk ?_;refine Ak (fun a F=>Am (cs:=[iB 2,qT [],qT [],sN,qT s,sN]) A1.k rfl A1 (F.evp rfl) rfl) rfl<|A2 A0n rfl rfl (Ia (x:=(.mk 2 ([]:List UInt8) ([]:List UInt8) [] s []:NT)) M ⟨by show (0:Int)≤2;omega,by show 2≤(255:Int);omega⟩ ⟨by first | exact Nat.zero_le _ | assumption | (simp only [Tr.tag,Tr.key,Tr.text];omega),by first | exact Nat.zero_le _ | assumption | (simp only [Tr.tag,Tr.key,Tr.text];omega),by first | exact Nat.zero_le _ | assumption | (simp only [Tr.tag,Tr.key,Tr.text];omega)⟩ Aj.nil Aj.nil)<|?_;clear M;rintro _ w M rfl
 refine wk ?_;refine Af rfl rfl<|?_
 exact ⟨M,(decide (Yd ((.mk 2 ([]:List UInt8) ([]:List UInt8) [] s []:NT))=0)),rfl,(decide_eq_true_iff.trans (T0.trans Aep))⟩
theorem Ny (M:Mem w0 G L w) {ad:Option Addr} {cd:Nat} {xs:List SlotD} (S:Aj rdSlot 3 G (vS ad xs.length cd) xs) (bi:xs.length≤9223372036854775807):Calls pG 235 #[vS ad xs.length cd] w (B5 w0 G L fun v=>∃ b:Bool,v=vB b∧(b=true↔H3 xs)):=by
 refine Ap (vs:=[_]) Tryz.func235 rfl (n:=56) rfl rfl<|wk ?_;refine qD rfl ?_ ?_
 ·intro h1;refine wk ?_;refine Af rfl rfl<|?_
  exact ⟨M,false,rfl,⟨fun h_=>(by cases h_),fun h_=>(by have:=h_.1;omega)⟩⟩
 intro h2;refine wk ?_;refine fun a F=>Bd (fun m a' w'=>∃ (i:Nat),m=xs.length - i∧Fits 56 a' [(0,vS ad xs.length cd),(8,vS ad xs.length cd),(9,iI ((xs.length:Nat):Int)),(10,iI ((i:Nat):Int))]∧Mem w0 G (L) w'∧(i≤xs.length)∧(Hw xs i)) _ ⟨0,rfl,fU,M,Nat.zero_le _,Hw.zero _⟩ ?_;clear F M;rintro m a w ⟨i,rfl,F,M,hi,hS⟩;revert a;refine wk ?_;refine qD rfl ?_ ?_
 ·intro h3;refine wk ?_;obtain ⟨E,D⟩:=Aq (xs:=xs) (i:=i) tM;obtain ⟨aL,bj,_,aK,_,aJ,⟨rfl,a3,A,a4⟩⟩:=S.at D;refine wk ?_;refine B0 M F1 rfl rfl<|?_;clear M;intro b5 w M
  refine Dq rfl<|?_
  intro a F;refine Bf F M F1 0 ?_;clear F M a;intro w a M F;revert a;refine Ca<|?_
  refine fun a F=>D5 [(.free,0),(.pure,1),(.keep,2),(.free,3),(.free,4),(.free,5),(.pure,6),(.free,7),(.free,8),(.free,9),(.free,10),(.pure,11),(.keep,12),(.free,13),(.free,14),(.free,15),(.free,16),(.pure,17),(.free,18),(.free,19),(.free,20),(.pure,21),(.free,22),(.free,23),(.free,24),(.free,25),(.free,26),(.free,27),(.free,28),(.free,29),(.pure,30),(.free,31),(.free,32),(.free,33),(.free,34),(.free,35),(.pure,36),(.free,37),(.free,38),(.free,39)] [] (Keep G [rB b5 [qT E.n,iB E.src,qT E.v] 189]) rfl kR kF (Aw (M.drew _)) ?_;replace M:=M.drew (w.drawn+1);revert a;refine wk ?_;refine k_k rfl<|A2 Tw rfl rfl (H8 (s:=E.n) M tM)<|?_;clear M;rintro _ w M ⟨b7,rfl,bh⟩
  refine Ao<|?_
  refine eQ (Aw M)<|wk ?_
  rcases bE (!(b7)) with ar | au
  ·skip
   have h8:=Ad ar;have bf:(b7)=false:=(Ad ar);refine wk ?_;refine Af rfl rfl<|?_
   exact ⟨(M.wn tW),false,rfl,(by have V:=Ly A;have U:=F4 D;have q9:=@Gp;clear M;unfold Fg at U;grind)⟩
  have h9:=Ae au;have bg:(b7)=true:=(Ae au);refine wk ?_
  rcases bE (decide (3 < E.src)) with ai | T
  ·skip
   have aM:=dT ai;refine wk ?_;refine Af rfl rfl<|?_
   exact ⟨(M.wn tW),false,rfl,(by have V:=Ly A;have U:=F4 D;have q9:=@Gp;clear M;unfold Fg at U;grind)⟩
  have aN:=dF T;refine wk ?_;refine fun a F=>Gj F rfl rfl T ?_;revert a;refine g_t rfl T<|?_
  refine A2 Aln rfl rfl (Nz (s:=E.v) M tM)<|?_;clear M;rintro _ w M ⟨ah,rfl,aG⟩
  refine Ao<|?_
  refine eQ (Aw M)<|wk ?_
  rcases bE (!(ah)) with Y | aa
  ·skip
   have aO:=Ad Y;have aC:(ah)=false:=(Ad Y);refine wk ?_;refine Af rfl rfl<|?_
   exact ⟨(M.wn tW),false,rfl,(by have V:=Ly A;have U:=F4 D;have q9:=@Gp;clear M;unfold Fg at U;grind)⟩
  have aP:=Ae aa;have aD:(ah)=true:=(Ae aa);refine wk ?_
  rcases bE (decide (0 < E.src)) with aj | an
  ·skip
   have aQ:=dT aj;refine wk ?_
   rcases bE (!(decide (E.v=([]:List UInt8)))) with ab | ac
   ·skip
    have aR:=dF (Ad ab);have aE:(decide (E.v=([]:List UInt8)))=false:=(Ad ab);refine wk ?_;refine Af rfl rfl<|?_
    exact ⟨(M.wn tW),false,rfl,(by have V:=Ly A;have U:=F4 D;have q9:=@Gp;clear M;unfold Fg at U;grind)⟩
   have aS:=dT (Ae ac);have aF:(decide (E.v=([]:List UInt8)))=true:=(Ae ac);refine wk ?_
   rcases bE (decide (0 < ((i:Nat):Int))) with ae | am
   ·skip
    have aT:=dT ae;refine wk ?_;have av:(((i:Nat):Int) - 1:Int)=((i - 1:Nat):Int):=by omega
    intro a F;rw [av] at F;obtain ⟨N,H⟩:=Aq (xs:=xs) (i:=i - 1) tM;obtain ⟨aA,aH,_,a8,_,a6,⟨rfl,az,ax,a1⟩⟩:=S.at H;revert a;refine wk ?_;refine Nu rfl ae (fun a F w _=>Qj (F.ev rfl) (F.ev rfl))<|wk ?_;refine Ag rfl ?_ ?_
    ·intro ak;have aU:(Op.bytesLess E.n N.n || E.n==N.n)=true:=ak;refine wk ?_;refine Af rfl rfl<|?_
     exact ⟨(M.wn tW),false,rfl,(by have V:=Ly A;have U:=F4 D;have q1:=O9 D H;have q9:=@Gp;clear M;unfold Fg at U;grind)⟩
    intro al;have aV:(Op.bytesLess E.n N.n || E.n==N.n)=false:=al;refine wk ?_;intro a F
    exact ⟨_,tM,i+1,rfl,fU,(M.wn tW),tM,hS.step D (by have V:=Ly A;clear F M;unfold Fg;grind) (fun y h_ hy=>by rw [H] at hy;simp only [Option.some.injEq] at hy;subst hy;clear F M;have a5:=@Gp;grind)⟩
   have aW:=dF am;refine wk ?_;intro a F
   exact ⟨_,tM,i+1,rfl,fU,(M.wn tW),tM,hS.step D (by have V:=Ly A;clear F M;unfold Fg;grind) (fun y h_=>by omega)⟩
  have aX:=dF an;refine wk ?_
  rcases bE (decide (0 < ((i:Nat):Int))) with ag | aq
  ·skip
   have aY:=dT ag;refine wk ?_;have aw:(((i:Nat):Int) - 1:Int)=((i - 1:Nat):Int):=by omega
   intro a F;rw [aw] at F;obtain ⟨O,I⟩:=Aq (xs:=xs) (i:=i - 1) tM;obtain ⟨aB,aI,_,a9,_,a7,⟨rfl,a0,ay,a2⟩⟩:=S.at I;revert a;refine wk ?_;refine Nu rfl ag (fun a F w _=>Qj (F.ev rfl) (F.ev rfl))<|wk ?_;refine Ag rfl ?_ ?_
   ·intro ao;have aZ:(Op.bytesLess E.n O.n || E.n==O.n)=true:=ao;refine wk ?_;refine Af rfl rfl<|?_
    exact ⟨(M.wn tW),false,rfl,(by have V:=Ly A;have U:=F4 D;have q1:=O9 D I;have q9:=@Gp;clear M;unfold Fg at U;grind)⟩
   intro ap;have ba:(Op.bytesLess E.n O.n || E.n==O.n)=false:=ap;refine wk ?_;intro a F
   exact ⟨_,tM,i+1,rfl,fU,(M.wn tW),tM,hS.step D (by have V:=Ly A;clear F M;unfold Fg;grind) (fun y h_ hy=>by rw [I] at hy;simp only [Option.some.injEq] at hy;subst hy;clear F M;have a5:=@Gp;grind)⟩
  have bb:=dF aq;refine wk ?_;intro a F
  exact ⟨_,tM,i+1,rfl,fU,(M.wn tW),tM,hS.step D (by have V:=Ly A;clear F M;unfold Fg;grind) (fun y h_=>by omega)⟩
 intro be;refine wk ?_;refine Af rfl rfl<|?_
 exact ⟨M,true,rfl,⟨fun _=>hS.done tM tM,fun _=>rfl⟩⟩
theorem N9 (M:Mem w0 G L w) {ad:Option Addr} {cd:Nat} {xs:List SlotD} (S:Aj rdSlot 3 G (vS ad xs.length cd) xs) (bo:xs.length≤9223372036854775807):Calls pG 234 #[vS ad xs.length cd] w (B5 w0 G L fun v=>∃ b:Bool,v=vB b∧(b=true↔H3 xs)):=by
 refine Ap (vs:=[_]) Tryz.func234 rfl (n:=58) rfl rfl<|wk ?_;refine qD rfl ?_ ?_
 ·intro h1;refine wk ?_;refine Af rfl rfl<|?_
  exact ⟨M,false,rfl,⟨fun h_=>(by cases h_),fun h_=>(by have:=h_.1;omega)⟩⟩
 intro h2;refine wk ?_;refine fun a F=>Bd (fun m a' w'=>∃ (i:Nat),m=xs.length - i∧Fits 58 a' [(0,vS ad xs.length cd),(3,iI ((i:Nat):Int))]∧Mem w0 G (L) w'∧(i≤xs.length)∧(Hw xs i)) _ ⟨0,rfl,fU,M,Nat.zero_le _,Hw.zero _⟩ ?_;clear F M;rintro m a w ⟨i,rfl,F,M,hi,hS⟩;revert a;refine wk ?_;refine qD rfl ?_ ?_
 ·intro h3;refine wk ?_;obtain ⟨E,D⟩:=Aq (xs:=xs) (i:=i) tM;obtain ⟨aR,bp,_,aQ,_,aP,⟨rfl,a3,A,a4⟩⟩:=S.at D;refine wk ?_;refine B0 M F1 rfl rfl<|?_;clear M;intro b5 w M
  intro a F;refine Bf F M F1 0 ?_;clear F M a;intro w a M F;revert a;refine Ca<|?_
  refine fun a F=>D5 [(.free,0),(.pure,1),(.keep,2),(.free,3),(.free,4),(.free,5),(.pure,6),(.free,7),(.free,8),(.free,9),(.free,10),(.pure,11),(.keep,12),(.free,13),(.free,14),(.free,15),(.free,16),(.pure,17),(.free,18),(.free,19),(.free,20),(.pure,21),(.free,22),(.free,23),(.free,24),(.free,25),(.free,26),(.free,27),(.free,28),(.free,29),(.free,30),(.free,31),(.free,32),(.free,33),(.pure,34),(.free,35),(.pure,36),(.free,37),(.free,38),(.free,39)] [] (Keep G [rB b5 [qT E.n,iB E.src,qT E.v] 189]) rfl kR kF (Aw (M.drew _)) ?_;replace M:=M.drew (w.drawn+1);revert a;refine wk ?_;refine k_k rfl<|A2 Ou rfl rfl (E9 (s:=E.n) M tM)<|?_;clear M;rintro _ w M ⟨b7,rfl,bn⟩
  refine Ao<|?_
  refine eQ (Aw M)<|wk ?_
  rcases bE (!(b7)) with ar | au
  ·skip
   have h8:=Ad ar;have bl:(b7)=false:=(Ad ar);refine wk ?_;refine Af rfl rfl<|?_
   exact ⟨(M.wn tW),false,rfl,(by have T:=Ly A;have O:=F4 D;have q9:=@Gp;clear M;unfold Fg at O;grind)⟩
  have h9:=Ae au;have bm:(b7)=true:=(Ae au);refine wk ?_
  rcases bE (decide (3 < E.src)) with ao | N
  ·skip
   have aS:=dT ao;refine wk ?_;refine Af rfl rfl<|?_
   exact ⟨(M.wn tW),false,rfl,(by have T:=Ly A;have O:=F4 D;have q9:=@Gp;clear M;unfold Fg at O;grind)⟩
  have aT:=dF N;refine wk ?_;refine fun a F=>Gj F rfl rfl N ?_;revert a;refine g_t rfl N<|?_
  refine A2 X2 rfl rfl (Md (s:=E.v) M tM)<|?_;clear M;rintro _ w M ⟨an,rfl,aM⟩
  refine Ao<|?_
  refine eQ (Aw M)<|wk ?_
  rcases bE (!(an)) with Y | aa
  ·skip
   have aU:=Ad Y;have aC:(an)=false:=(Ad Y);refine wk ?_;refine Af rfl rfl<|?_
   exact ⟨(M.wn tW),false,rfl,(by have T:=Ly A;have O:=F4 D;have q9:=@Gp;clear M;unfold Fg at O;grind)⟩
  have aV:=Ae aa;have aD:(an)=true:=(Ae aa);refine wk ?_
  rcases bE (!(decide (E.src=0))) with ab | aj
  ·skip
   have aW:=dF (Ad ab);have aE:(decide (E.src=0))=false:=(Ad ab);refine wk ?_
   rcases bE (!(decide (E.v=([]:List UInt8)))) with ac | ae
   ·skip
    have aX:=dF (Ad ac);have aF:(decide (E.v=([]:List UInt8)))=false:=(Ad ac);refine wk ?_;refine Af rfl rfl<|?_
    exact ⟨(M.wn tW),false,rfl,(by have T:=Ly A;have O:=F4 D;have q9:=@Gp;clear M;unfold Fg at O;grind)⟩
   have aY:=dT (Ae ae);have aG:(decide (E.v=([]:List UInt8)))=true:=(Ae ae);refine wk ?_
   rcases bE (decide (0 < ((i:Nat):Int))) with ag | ap
   ·skip
    have aZ:=dT ag;refine wk ?_;have av:(((i:Nat):Int) - 1:Int)=((i - 1:Nat):Int):=by omega
    intro a F;rw [av] at F;obtain ⟨U,H⟩:=Aq (xs:=xs) (i:=i - 1) tM;obtain ⟨aA,aN,_,a8,_,a6,⟨rfl,az,ax,a1⟩⟩:=S.at H;revert a;refine wk ?_;refine Nu rfl ag (fun a F w _=>Qk (F.ev rfl) (F.ev rfl))<|wk ?_;refine Ag rfl ?_ ?_
    ·intro ah;have ba:=Ad ah;have aH:(Op.bytesLess U.n E.n)=false:=(Ad ah);refine wk ?_;refine Af rfl rfl<|?_
     exact ⟨(M.wn tW),false,rfl,(by have T:=Ly A;have O:=F4 D;have q1:=O9 D H;have q9:=@Gp;clear M;unfold Fg at O;grind)⟩
    intro ai;have bb:=Ae ai;have aI:(Op.bytesLess U.n E.n)=true:=(Ae ai);refine wk ?_;intro a F
    exact ⟨_,tM,i+1,rfl,fU,(M.wn tW),tM,hS.step D (by have T:=Ly A;clear F M;unfold Fg;grind) (fun y h_ hy=>by rw [H] at hy;simp only [Option.some.injEq] at hy;subst hy;clear F M;have a5:=@Gp;grind)⟩
   have be:=dF ap;refine wk ?_;intro a F
   exact ⟨_,tM,i+1,rfl,fU,(M.wn tW),tM,hS.step D (by have T:=Ly A;clear F M;unfold Fg;grind) (fun y h_=>by omega)⟩
  have bf:=dT (Ae aj);have aJ:(decide (E.src=0))=true:=(Ae aj);refine wk ?_
  rcases bE (decide (0 < ((i:Nat):Int))) with ak | aq
  ·skip
   have bg:=dT ak;refine wk ?_;have aw:(((i:Nat):Int) - 1:Int)=((i - 1:Nat):Int):=by omega
   intro a F;rw [aw] at F;obtain ⟨V,I⟩:=Aq (xs:=xs) (i:=i - 1) tM;obtain ⟨aB,aO,_,a9,_,a7,⟨rfl,a0,ay,a2⟩⟩:=S.at I;revert a;refine wk ?_;refine Nu rfl ak (fun a F w _=>Qk (F.ev rfl) (F.ev rfl))<|wk ?_;refine Ag rfl ?_ ?_
   ·intro al;have bh:=Ad al;have aK:(Op.bytesLess V.n E.n)=false:=(Ad al);refine wk ?_;refine Af rfl rfl<|?_
    exact ⟨(M.wn tW),false,rfl,(by have T:=Ly A;have O:=F4 D;have q1:=O9 D I;have q9:=@Gp;clear M;unfold Fg at O;grind)⟩
   intro am;have bi:=Ae am;have aL:(Op.bytesLess V.n E.n)=true:=(Ae am);refine wk ?_;intro a F
   exact ⟨_,tM,i+1,rfl,fU,(M.wn tW),tM,hS.step D (by have T:=Ly A;clear F M;unfold Fg;grind) (fun y h_ hy=>by rw [I] at hy;simp only [Option.some.injEq] at hy;subst hy;clear F M;have a5:=@Gp;grind)⟩
  have bj:=dF aq;refine wk ?_;intro a F
  exact ⟨_,tM,i+1,rfl,fU,(M.wn tW),tM,hS.step D (by have T:=Ly A;clear F M;unfold Fg;grind) (fun y h_=>by omega)⟩
 intro bk;refine wk ?_;refine Af rfl rfl<|?_
 exact ⟨M,true,rfl,⟨fun _=>hS.done tM tM,fun _=>rfl⟩⟩
theorem Aey (M:Mem w0 G L w) {rk:Rd PT} {x:PT} {ta:Option Addr} {tc:Nat} {ka:Option Addr} {kc:Nat} (hk:Al .u8 x.kind) (hl:(x.tag.length≤9223372036854775807∧x.key.length≤9223372036854775807∧x.text.length≤9223372036854775807)) (SA:Aj rdSlot 3 G (vS ta x.as.length tc) x.as) (SK:Aj rk 6 G (vS ka x.kids.length kc) x.kids) {nb no:Nat} (A:At G nb no [iB x.kind,qT x.tag,qT x.key,vS ta x.as.length tc,qT x.text,vS ka x.kids.length kc]):Calls pG 228 #[vP (some ⟨nb,no,none⟩)] w (B5 w0 G L fun v=>∃ bb:Bool,v=vB bb∧(bb=true↔Bm x)):=by
 refine Ap (vs:=[_]) Tryz.func228 rfl (n:=91) rfl rfl<|wk ?_;refine B0 M E6 rfl rfl<|?_;clear M;intro b1 w M
 intro a F;refine Bf F M E6 0<|sZ ?_;clear F M a;intro w M;refine wk ?_;refine qD rfl ?_ ?_
 ·intro h3;refine wk ?_
  rcases bE (!(decide (x.key=([]:List UInt8)))) with a1 | N
  ·skip
   have h4:=dF (Ad a1);have bO:(decide (x.key=([]:List UInt8)))=false:=(Ad a1);refine wk ?_;refine A2 Tw rfl rfl (H8 (s:=x.key) M tM)<|?_;clear M;rintro _ w M ⟨b5,rfl,cp⟩
   refine wk ?_
   rcases bE (!(b5)) with aI | aL
   ·skip
    have h6:=Ad aI;have ck:(b5)=false:=(Ad aI);refine wk ?_;refine Af rfl rfl<|?_
    exact ⟨(M.wn tW),false,rfl,(by clear M;unfold Bm;grind)⟩
   have h7:=Ae aL;have co:(b5)=true:=(Ae aL);refine wk ?_;refine qD rfl ?_ ?_
   ·intro h8;refine wk ?_;refine Af rfl rfl<|?_
    exact ⟨(M.wn tW),false,rfl,(by clear M;unfold Bm;grind)⟩
   intro h9;refine wk ?_;refine D0 Dg M 0 rfl rfl rfl rfl rfl rfl<|?_;clear M;intro w M
   refine wk ?_;refine D0 T8 M 0 rfl rfl rfl rfl rfl rfl<|?_;clear M;intro w M
   refine wk ?_;refine A2 Tw rfl rfl (H8 (s:=x.tag) M tM)<|?_;clear M;rintro _ w M ⟨ag,rfl,be⟩
   refine wk ?_
   rcases bE (!(ag)) with D | E
   ·skip
    have bl:=Ad D;have aM:(ag)=false:=(Ad D);refine wk ?_;refine Af rfl rfl<|?_
    exact ⟨(M.wn tW),false,rfl,(by clear M;unfold Bm;grind)⟩
   have bm:=Ae E;have aN:(ag)=true:=(Ae E);refine wk ?_;refine A2 Alj rfl rfl (Ny (xs:=x.as) M SA (by have:=SA.bound;omega))<|?_;clear M;rintro _ w M ⟨aj,rfl,bf⟩
   refine wk ?_;refine Ag rfl ?_ ?_
   ·intro H;have bn:=Ad H;have aO:(aj)=false:=(Ad H);refine wk ?_;refine Af rfl rfl<|?_
    exact ⟨(M.wn tW),false,rfl,(by clear M;unfold Bm;grind)⟩
   intro I;have bo:=Ae I;have aP:(aj)=true:=(Ae I);refine wk ?_;refine D0 Dg M 0 rfl rfl rfl rfl rfl rfl<|?_;clear M;intro w M
   refine wk ?_;refine D0 Rh M 0 rfl rfl rfl rfl rfl rfl<|?_;clear M;intro w M
   refine wk ?_
   rcases bE (decide (x.text=([]:List UInt8))) with an | ao
   ·skip
    have bp:=dT an;refine wk ?_;refine Af rfl rfl<|?_
    exact ⟨(M.wn tW),(decide (((0:Nat):Int)=0)),rfl,(by clear M;unfold Bm;grind)⟩
   have bq:=dF ao;refine wk ?_;refine Af rfl rfl<|?_
   exact ⟨(M.wn tW),false,rfl,(by clear M;unfold Bm;grind)⟩
  have br:=dT (Ae N);have aQ:(decide (x.key=([]:List UInt8)))=true:=(Ae N);refine wk ?_;refine qD rfl ?_ ?_
  ·intro bt;refine wk ?_;refine Af rfl rfl<|?_
   exact ⟨(M.wn tW),false,rfl,(by clear M;unfold Bm;grind)⟩
  intro bu;refine wk ?_;refine D0 Dg M 0 rfl rfl rfl rfl rfl rfl<|?_;clear M;intro w M
  refine wk ?_;refine D0 T8 M 0 rfl rfl rfl rfl rfl rfl<|?_;clear M;intro w M
  refine wk ?_;refine A2 Tw rfl rfl (H8 (s:=x.tag) M tM)<|?_;clear M;rintro _ w M ⟨ah,rfl,bg⟩
  refine wk ?_
  rcases bE (!(ah)) with O | S
  ·skip
   have bv:=Ad O;have aR:(ah)=false:=(Ad O);refine wk ?_;refine Af rfl rfl<|?_
   exact ⟨(M.wn tW),false,rfl,(by clear M;unfold Bm;grind)⟩
  have bw:=Ae S;have aS:(ah)=true:=(Ae S);refine wk ?_;refine A2 Alj rfl rfl (Ny (xs:=x.as) M SA (by have:=SA.bound;omega))<|?_;clear M;rintro _ w M ⟨ak,rfl,bh⟩
  refine wk ?_;refine Ag rfl ?_ ?_
  ·intro T;have bx:=Ad T;have aT:(ak)=false:=(Ad T);refine wk ?_;refine Af rfl rfl<|?_
   exact ⟨(M.wn tW),false,rfl,(by clear M;unfold Bm;grind)⟩
  intro U;have bz:=Ae U;have aU:(ak)=true:=(Ae U);refine wk ?_;refine D0 Dg M 0 rfl rfl rfl rfl rfl rfl<|?_;clear M;intro w M
  refine wk ?_;refine D0 Rh M 0 rfl rfl rfl rfl rfl rfl<|?_;clear M;intro w M
  refine wk ?_
  rcases bE (decide (x.text=([]:List UInt8))) with ap | aq
  ·skip
   have b0:=dT ap;refine wk ?_;refine Af rfl rfl<|?_
   exact ⟨(M.wn tW),(decide (((0:Nat):Int)=0)),rfl,(by clear M;unfold Bm;grind)⟩
  have b3:=dF aq;refine wk ?_;refine Af rfl rfl<|?_
  exact ⟨(M.wn tW),false,rfl,(by clear M;unfold Bm;grind)⟩
 intro b4;refine wk ?_;refine qD rfl ?_ ?_
 ·intro b6;refine wk ?_;refine A2 Tw rfl rfl (H8 (s:=x.tag) M tM)<|?_;clear M;rintro _ w M ⟨ai,rfl,bi⟩
  refine wk ?_
  rcases bE (!(ai)) with V | Y
  ·skip
   have b7:=Ad V;have aV:(ai)=false:=(Ad V);refine wk ?_;refine Af rfl rfl<|?_
   exact ⟨(M.wn tW),false,rfl,(by clear M;unfold Bm;grind)⟩
  have b8:=Ae Y;have aW:(ai)=true:=(Ae Y);refine wk ?_;refine A2 Alj rfl rfl (Ny (xs:=x.as) M SA (by have:=SA.bound;omega))<|?_;clear M;rintro _ w M ⟨al,rfl,bj⟩
  refine wk ?_;refine Ag rfl ?_ ?_
  ·intro aa;have b9:=Ad aa;have aX:(al)=false:=(Ad aa);refine wk ?_;refine Af rfl rfl<|?_
   exact ⟨(M.wn tW),false,rfl,(by clear M;unfold Bm;grind)⟩
  intro ab;have bA:=Ae ab;have aY:(al)=true:=(Ae ab);refine wk ?_;refine D0 Dg M 0 rfl rfl rfl rfl rfl rfl<|?_;clear M;intro w M
  refine wk ?_;refine D0 Rh M 0 rfl rfl rfl rfl rfl rfl<|?_;clear M;intro w M
  refine wk ?_
  rcases bE (decide (x.key=([]:List UInt8))) with ar | aw
  ·skip
   have bB:=dT ar;refine wk ?_
   rcases bE (decide (x.text=([]:List UInt8))) with au | av
   ·skip
    have bC:=dT au;refine wk ?_;refine Af rfl rfl<|?_
    exact ⟨(M.wn tW),(decide (((x.kids.length:Nat):Int)=0)),rfl,(by clear M;unfold Bm;grind)⟩
   have bD:=dF av;refine wk ?_;refine Af rfl rfl<|?_
   exact ⟨(M.wn tW),false,rfl,(by clear M;unfold Bm;grind)⟩
  have bF:=dF aw;refine wk ?_;refine Af rfl rfl<|?_
  exact ⟨(M.wn tW),false,rfl,(by clear M;unfold Bm;grind)⟩
 intro bG;refine wk ?_;refine qD rfl ?_ ?_
 ·intro bH;refine wk ?_;refine A2 Aln rfl rfl (Nz (s:=x.text) M tM)<|?_;clear M;rintro _ w M ⟨am,rfl,bk⟩
  refine wk ?_;refine Ag rfl ?_ ?_
  ·intro ac;have bI:=Ad ac;have aZ:(am)=false:=(Ad ac);refine wk ?_;refine Af rfl rfl<|?_
   exact ⟨(M.wn tW),false,rfl,(by clear M;unfold Bm;grind)⟩
  intro ae;have bJ:=Ae ae;have ba:(am)=true:=(Ae ae);refine wk ?_;refine D0 Dg M 0 rfl rfl rfl rfl rfl rfl<|?_;clear M;intro w M
  refine wk ?_
  rcases bE (decide (x.tag=([]:List UInt8))) with ax | a3
  ·skip
   have bK:=dT ax;refine wk ?_
   rcases bE (decide (x.key=([]:List UInt8))) with ay | a2
   ·skip
    have bL:=dT ay;refine wk ?_
    rcases bE (decide (((x.as.length:Nat):Int)=0)) with az | a0
    ·skip
     have bM:=dT az;refine wk ?_;refine Af rfl rfl<|?_
     exact ⟨(M.wn tW),(decide (((x.kids.length:Nat):Int)=0)),rfl,(by clear M;unfold Bm;grind)⟩
    have bN:=dF a0;refine wk ?_;refine Af rfl rfl<|?_
    exact ⟨(M.wn tW),false,rfl,(by clear M;unfold Bm;grind)⟩
   have bP:=dF a2;refine wk ?_;refine Af rfl rfl<|?_
   exact ⟨(M.wn tW),false,rfl,(by clear M;unfold Bm;grind)⟩
  have bQ:=dF a3;refine wk ?_;refine Af rfl rfl<|?_
  exact ⟨(M.wn tW),false,rfl,(by clear M;unfold Bm;grind)⟩
 intro bR;refine wk ?_;refine qD rfl ?_ ?_
 ·intro bS;refine wk ?_
  rcases bE (decide (x.tag=([]:List UInt8))) with a4 | aB
  ·skip
   have bT:=dT a4;refine wk ?_
   rcases bE (decide (x.key=([]:List UInt8))) with a5 | aA
   ·skip
    have bU:=dT a5;refine wk ?_
    rcases bE (decide (x.text=([]:List UInt8))) with a6 | a9
    ·skip
     have bV:=dT a6;refine wk ?_
     rcases bE (decide (((x.as.length:Nat):Int)=0)) with a7 | a8
     ·skip
      have bW:=dT a7;refine wk ?_;refine Af rfl rfl<|?_
      exact ⟨(M.wn tW),(decide (((x.kids.length:Nat):Int)=0)),rfl,(by clear M;unfold Bm;grind)⟩
     have bX:=dF a8;refine wk ?_;refine Af rfl rfl<|?_
     exact ⟨(M.wn tW),false,rfl,(by clear M;unfold Bm;grind)⟩
    have bY:=dF a9;refine wk ?_;refine Af rfl rfl<|?_
    exact ⟨(M.wn tW),false,rfl,(by clear M;unfold Bm;grind)⟩
   have bZ:=dF aA;refine wk ?_;refine Af rfl rfl<|?_
   exact ⟨(M.wn tW),false,rfl,(by clear M;unfold Bm;grind)⟩
  have ca:=dF aB;refine wk ?_;refine Af rfl rfl<|?_
  exact ⟨(M.wn tW),false,rfl,(by clear M;unfold Bm;grind)⟩
 intro cb;refine wk ?_;refine qD rfl ?_ ?_
 ·intro cc;refine wk ?_
  rcases bE (decide (x.tag=([]:List UInt8))) with aC | aK
  ·skip
   have cd:=dT aC;refine wk ?_
   rcases bE (decide (x.key=([]:List UInt8))) with aD | aJ
   ·skip
    have ce:=dT aD;refine wk ?_
    rcases bE (decide (x.text=([]:List UInt8))) with aE | aH
    ·skip
     have cf:=dT aE;refine wk ?_
     rcases bE (decide (((x.as.length:Nat):Int)=0)) with aF | aG
     ·skip
      have cg:=dT aF;refine wk ?_;refine Af rfl rfl<|?_
      exact ⟨(M.wn tW),(decide (((x.kids.length:Nat):Int)=0)),rfl,(by clear M;unfold Bm;grind)⟩
     have ci:=dF aG;refine wk ?_;refine Af rfl rfl<|?_
     exact ⟨(M.wn tW),false,rfl,(by clear M;unfold Bm;grind)⟩
    have cj:=dF aH;refine wk ?_;refine Af rfl rfl<|?_
    exact ⟨(M.wn tW),false,rfl,(by clear M;unfold Bm;grind)⟩
   have cl:=dF aJ;refine wk ?_;refine Af rfl rfl<|?_
   exact ⟨(M.wn tW),false,rfl,(by clear M;unfold Bm;grind)⟩
  have cm:=dF aK;refine wk ?_;refine Af rfl rfl<|?_
  exact ⟨(M.wn tW),false,rfl,(by clear M;unfold Bm;grind)⟩
 intro cn;refine wk ?_;refine Af rfl rfl<|?_
 exact ⟨(M.wn tW),false,rfl,(by clear M;unfold Bm;grind)⟩
theorem Ajv (M:Mem w0 G L w) {x:PT} {ta:Option Addr} {tc:Nat} {ka:Option Addr} {kc:Nat} (hk:Al .u8 x.kind) (hl:(x.tag.length≤9223372036854775807∧x.key.length≤9223372036854775807∧x.text.length≤9223372036854775807)) (T:Aj rdSlot 3 G (vS ta x.as.length tc) x.as) (SK:Aj rdP 6 G (vS ka x.kids.length kc) x.kids):Calls pG 221 #[.agg #[iB x.kind,qT x.tag,qT x.key,vS ta x.as.length tc,qT x.text,vS ka x.kids.length kc]] w (B5 w0 G L fun v=>∃ bb:Bool,v=vB bb∧(bb=true↔Bm x)):=by
 have bA:=T.bound;have bK:=SK.bound;refine Ap (vs:=[_]) Tryz.func221 rfl (n:=113) rfl rfl<|?_
 refine Bt<|?_
 refine Ch M rfl rfl rfl<|?_;clear M;intro b1 w M
 refine wk ?_;refine qD rfl ?_ ?_
 ·intro h2;refine wk ?_;refine A2 Ou rfl rfl (E9 (s:=x.tag) M tM)<|?_;clear M;rintro _ w M ⟨b3,rfl,b9⟩
  refine Cd rfl<|?_
  rcases bE (b3) with a8 | D
  ·skip
   have h4:(b3)=true:=a8;refine wk ?_
   rcases bE (decide (x.key=([]:List UInt8))) with a9 | ac
   ·skip
    have h5:=dT a9;refine wk ?_;refine A2 Alk rfl rfl (N9 (xs:=x.as) M T (by have:=T.bound;omega))<|?_;clear M;rintro _ w M ⟨b6,rfl,bB⟩
    refine wk ?_
    rcases bE (b6) with aA | E
    ·skip
     have h7:(b6)=true:=aA;refine wk ?_
     rcases bE (decide (x.text=([]:List UInt8))) with aB | aC
     ·skip
      have h8:=dT aB;refine wk ?_;refine Af rfl rfl<|?_
      exact ⟨(M.wn tW),(decide (((x.kids.length:Nat):Int)≤16)),rfl,(by have A:=@C8 x.as.length x.kids.length tM tM;clear M;unfold Bm;grind)⟩
     have h9:=dF aC;refine wk ?_;refine Af rfl rfl<|?_
     exact ⟨(M.wn tW),false,rfl,(by have A:=@C8 x.as.length x.kids.length tM tM;clear M;unfold Bm;grind)⟩
    have aI:(b6)=false:=E;refine g_f rfl E<|g_f rfl E<|g_f rfl E<|Ii rfl E rfl<|Cd rfl<|g_f rfl rfl<|g_f rfl rfl<|g_f rfl rfl<|g_f rfl rfl<|Ii rfl rfl rfl<|Dq rfl<|Fl<|Iw<|Fu<|?_
    refine Af rfl rfl<|?_
    exact ⟨(M.wn tW),false,rfl,(by have A:=@C8 x.as.length x.kids.length tM tM;clear M;unfold Bm;grind)⟩
   have aJ:=dF ac;refine wk ?_;refine A2 Ou rfl rfl (E9 (s:=x.key) M tM)<|?_;clear M;rintro _ w M ⟨U,rfl,aD⟩
   refine wk ?_
   rcases bE (U) with ae | I
   ·skip
    have aK:(U)=true:=ae;refine wk ?_;refine A2 Alk rfl rfl (N9 (xs:=x.as) M T (by have:=T.bound;omega))<|?_;clear M;rintro _ w M ⟨V,rfl,aE⟩
    refine wk ?_
    rcases bE (V) with ag | H
    ·skip
     have aL:(V)=true:=ag;refine wk ?_
     rcases bE (decide (x.text=([]:List UInt8))) with ah | ai
     ·skip
      have aM:=dT ah;refine wk ?_;refine Af rfl rfl<|?_
      exact ⟨(M.wn tW),(decide (((x.kids.length:Nat):Int)≤16)),rfl,(by have A:=@C8 x.as.length x.kids.length tM tM;clear M;unfold Bm;grind)⟩
     have aN:=dF ai;refine wk ?_;refine Af rfl rfl<|?_
     exact ⟨(M.wn tW),false,rfl,(by have A:=@C8 x.as.length x.kids.length tM tM;clear M;unfold Bm;grind)⟩
    have aO:(V)=false:=H;refine g_f rfl H<|g_f rfl H<|g_f rfl H<|Ii rfl H rfl<|Cd rfl<|g_f rfl rfl<|g_f rfl rfl<|g_f rfl rfl<|g_f rfl rfl<|Ii rfl rfl rfl<|Dq rfl<|Fl<|Iw<|Fu<|?_
    refine Af rfl rfl<|?_
    exact ⟨(M.wn tW),false,rfl,(by have A:=@C8 x.as.length x.kids.length tM tM;clear M;unfold Bm;grind)⟩
   have aP:(U)=false:=I;refine g_f rfl I<|g_f rfl I<|g_f rfl I<|Ii rfl I rfl<|Cd rfl<|g_f rfl rfl<|g_f rfl rfl<|g_f rfl rfl<|Ii rfl rfl rfl<|Cd rfl<|g_f rfl rfl<|g_f rfl rfl<|g_f rfl rfl<|g_f rfl rfl<|Ii rfl rfl rfl<|Dq rfl<|Fl<|Iw<|Fu<|?_
   refine Af rfl rfl<|?_
   exact ⟨(M.wn tW),false,rfl,(by have A:=@C8 x.as.length x.kids.length tM tM;clear M;unfold Bm;grind)⟩
  have aQ:(b3)=false:=D;refine g_f rfl D<|g_f rfl D<|g_f rfl D<|g_f rfl D<|g_u rfl<|g_u rfl<|g_u rfl<|g_f rfl D<|Ii rfl D rfl<|Cd rfl<|g_f rfl rfl<|g_f rfl rfl<|g_f rfl rfl<|Ii rfl rfl rfl<|Cd rfl<|g_f rfl rfl<|g_f rfl rfl<|g_f rfl rfl<|Ii rfl rfl rfl<|Cd rfl<|g_f rfl rfl<|g_f rfl rfl<|g_f rfl rfl<|g_f rfl rfl<|Ii rfl rfl rfl<|Dq rfl<|Fl<|Iw<|Fu<|?_
  refine Af rfl rfl<|?_
  exact ⟨(M.wn tW),false,rfl,(by have A:=@C8 x.as.length x.kids.length tM tM;clear M;unfold Bm;grind)⟩
 intro aR;refine wk ?_;refine qD rfl ?_ ?_
 ·intro aS;refine wk ?_;refine A2 X2 rfl rfl (Md (s:=x.text) M tM)<|?_;clear M;rintro _ w M ⟨Y,rfl,aF⟩
  refine Cd rfl<|?_
  rcases bE (Y) with aj | N
  ·skip
   have aT:(Y)=true:=aj;refine wk ?_
   rcases bE (decide (x.tag=([]:List UInt8))) with ak | an
   ·skip
    have aU:=dT ak;refine wk ?_
    rcases bE (decide (x.key=([]:List UInt8))) with al | am
    ·skip
     have aV:=dT al;refine wk ?_;refine Ak (fun a F=>Ld (F.ev rfl) (F.ev rfl)) rfl<|wk ?_;refine Af rfl rfl<|?_
     exact ⟨(M.wn tW),(decide (IntKind.i64.wrap (((x.as.length:Nat):Int)+((x.kids.length:Nat):Int))=0)),rfl,(by have A:=@C8 x.as.length x.kids.length tM tM;clear M;unfold Bm;grind)⟩
    have aW:=dF am;refine wk ?_;refine Af rfl rfl<|?_
    exact ⟨(M.wn tW),false,rfl,(by have A:=@C8 x.as.length x.kids.length tM tM;clear M;unfold Bm;grind)⟩
   have aX:=dF an;refine wk ?_;refine Af rfl rfl<|?_
   exact ⟨(M.wn tW),false,rfl,(by have A:=@C8 x.as.length x.kids.length tM tM;clear M;unfold Bm;grind)⟩
  have aY:(Y)=false:=N;refine g_f rfl N<|g_f rfl N<|g_f rfl N<|Ii rfl N rfl<|Cd rfl<|g_f rfl rfl<|g_f rfl rfl<|g_f rfl rfl<|Ii rfl rfl rfl<|Cd rfl<|g_f rfl rfl<|g_f rfl rfl<|g_f rfl rfl<|g_f rfl rfl<|g_f rfl rfl<|g_f rfl rfl<|g_f rfl rfl<|g_f rfl rfl<|Ii rfl rfl rfl<|Dq rfl<|Fl<|Iw<|Fu<|?_
  refine Af rfl rfl<|?_
  exact ⟨(M.wn tW),false,rfl,(by have A:=@C8 x.as.length x.kids.length tM tM;clear M;unfold Bm;grind)⟩
 intro aZ;refine wk ?_;refine qD rfl ?_ ?_
 ·intro ba;refine wk ?_
  rcases bE (decide (x.text=([]:List UInt8))) with ao | av
  ·skip
   have be:=dT ao;refine wk ?_
   rcases bE (decide (x.tag=([]:List UInt8))) with ap | au
   ·skip
    have bf:=dT ap;refine wk ?_
    rcases bE (decide (x.key=([]:List UInt8))) with aq | ar
    ·skip
     have bg:=dT aq;refine wk ?_;refine Ak (fun a F=>Ld (F.ev rfl) (F.ev rfl)) rfl<|wk ?_;refine Af rfl rfl<|?_
     exact ⟨(M.wn tW),(decide (IntKind.i64.wrap (((x.as.length:Nat):Int)+((x.kids.length:Nat):Int))=0)),rfl,(by have A:=@C8 x.as.length x.kids.length tM tM;clear M;unfold Bm;grind)⟩
    have bh:=dF ar;refine wk ?_;refine Af rfl rfl<|?_
    exact ⟨(M.wn tW),false,rfl,(by have A:=@C8 x.as.length x.kids.length tM tM;clear M;unfold Bm;grind)⟩
   have bi:=dF au;refine wk ?_;refine Af rfl rfl<|?_
   exact ⟨(M.wn tW),false,rfl,(by have A:=@C8 x.as.length x.kids.length tM tM;clear M;unfold Bm;grind)⟩
  have bj:=dF av;refine wk ?_;refine Af rfl rfl<|?_
  exact ⟨(M.wn tW),false,rfl,(by have A:=@C8 x.as.length x.kids.length tM tM;clear M;unfold Bm;grind)⟩
 intro bk;refine wk ?_;refine qD rfl ?_ ?_
 ·intro bl;refine wk ?_
  rcases bE (decide (x.text=([]:List UInt8))) with aw | a1
  ·skip
   have bm:=dT aw;refine wk ?_
   rcases bE (decide (x.tag=([]:List UInt8))) with ax | a0
   ·skip
    have bn:=dT ax;refine wk ?_
    rcases bE (decide (x.key=([]:List UInt8))) with ay | az
    ·skip
     have bo:=dT ay;refine wk ?_;refine Ak (fun a F=>Ld (F.ev rfl) (F.ev rfl)) rfl<|wk ?_;refine Af rfl rfl<|?_
     exact ⟨(M.wn tW),(decide (IntKind.i64.wrap (((x.as.length:Nat):Int)+((x.kids.length:Nat):Int))=0)),rfl,(by have A:=@C8 x.as.length x.kids.length tM tM;clear M;unfold Bm;grind)⟩
    have bp:=dF az;refine wk ?_;refine Af rfl rfl<|?_
    exact ⟨(M.wn tW),false,rfl,(by have A:=@C8 x.as.length x.kids.length tM tM;clear M;unfold Bm;grind)⟩
   have bq:=dF a0;refine wk ?_;refine Af rfl rfl<|?_
   exact ⟨(M.wn tW),false,rfl,(by have A:=@C8 x.as.length x.kids.length tM tM;clear M;unfold Bm;grind)⟩
  have br:=dF a1;refine wk ?_;refine Af rfl rfl<|?_
  exact ⟨(M.wn tW),false,rfl,(by have A:=@C8 x.as.length x.kids.length tM tM;clear M;unfold Bm;grind)⟩
 intro bt;refine wk ?_;refine qD rfl ?_ ?_
 ·intro bu;refine wk ?_;refine A2 Ou rfl rfl (E9 (s:=x.tag) M tM)<|?_;clear M;rintro _ w M ⟨aa,rfl,aG⟩
  refine Cd rfl<|?_
  rcases bE (aa) with a2 | S
  ·skip
   have bv:(aa)=true:=a2;refine wk ?_;refine A2 Alk rfl rfl (N9 (xs:=x.as) M T (by have:=T.bound;omega))<|?_;clear M;rintro _ w M ⟨ab,rfl,aH⟩
   refine wk ?_
   rcases bE (ab) with a3 | O
   ·skip
    have bw:(ab)=true:=a3;refine wk ?_
    rcases bE (decide (x.key=([]:List UInt8))) with a4 | a7
    ·skip
     have bx:=dT a4;refine wk ?_
     rcases bE (decide (x.text=([]:List UInt8))) with a5 | a6
     ·skip
      have bz:=dT a5;refine wk ?_;refine Af rfl rfl<|?_
      exact ⟨(M.wn tW),(decide (((x.kids.length:Nat):Int)=0)),rfl,(by have A:=@C8 x.as.length x.kids.length tM tM;clear M;unfold Bm;grind)⟩
     have b0:=dF a6;refine wk ?_;refine Af rfl rfl<|?_
     exact ⟨(M.wn tW),false,rfl,(by have A:=@C8 x.as.length x.kids.length tM tM;clear M;unfold Bm;grind)⟩
    have b4:=dF a7;refine wk ?_;refine Af rfl rfl<|?_
    exact ⟨(M.wn tW),false,rfl,(by have A:=@C8 x.as.length x.kids.length tM tM;clear M;unfold Bm;grind)⟩
   have b5:(ab)=false:=O;refine g_f rfl O<|g_f rfl O<|g_f rfl O<|Ii rfl O rfl<|Cd rfl<|g_f rfl rfl<|g_f rfl rfl<|g_f rfl rfl<|Ii rfl rfl rfl<|Cd rfl<|g_f rfl rfl<|g_f rfl rfl<|g_f rfl rfl<|g_f rfl rfl<|Ii rfl rfl rfl<|Dq rfl<|Fl<|Iw<|Fu<|?_
   refine Af rfl rfl<|?_
   exact ⟨(M.wn tW),false,rfl,(by have A:=@C8 x.as.length x.kids.length tM tM;clear M;unfold Bm;grind)⟩
  have b7:(aa)=false:=S;refine g_f rfl S<|g_f rfl S<|g_f rfl S<|Ii rfl S rfl<|Cd rfl<|g_f rfl rfl<|g_f rfl rfl<|g_f rfl rfl<|Ii rfl rfl rfl<|Cd rfl<|g_f rfl rfl<|g_f rfl rfl<|g_f rfl rfl<|Ii rfl rfl rfl<|Cd rfl<|g_f rfl rfl<|g_f rfl rfl<|g_f rfl rfl<|g_f rfl rfl<|Ii rfl rfl rfl<|Dq rfl<|Fl<|Iw<|Fu<|?_
  refine Af rfl rfl<|?_
  exact ⟨(M.wn tW),false,rfl,(by have A:=@C8 x.as.length x.kids.length tM tM;clear M;unfold Bm;grind)⟩
 intro b8;refine wk ?_;refine Af rfl rfl<|?_
 exact ⟨(M.wn tW),false,rfl,(by have A:=@C8 x.as.length x.kids.length tM tM;clear M;unfold Bm;grind)⟩
structure FEff (w0:World) (ff:FuncId) (caps:List Value) {σ:Type} (Rs:σ→List Res) (stp:σ→PT→σ):Prop where
 ent:Ent pG ff
 run:∀ {w:World} {G:Av} {L:List Res} {nb no:Nat} {s:σ} {x:PT} {ta ka:Option Addr} {tc kc:Nat},Mem w0 G (Rs s++L) w→Al .u8 x.kind→(x.tag.length≤9223372036854775807∧x.key.length≤9223372036854775807∧x.text.length≤9223372036854775807)→Aj rdSlot 3 G (vS ta x.as.length tc) x.as→Aj rdP 6 G (vS ka x.kids.length kc) x.kids→At G nb no [iB x.kind,qT x.tag,qT x.key,vS ta x.as.length tc,qT x.text,vS ka x.kids.length kc]→Bm x →
  Calls pG ff (vP (some ⟨nb,no,none⟩)::caps).toArray w (L4 w0 G fun L' v=>v=.tuple #[]∧L' = Rs (stp s x)++L)
def WalkP (w0:World) (ff:FuncId) (caps:List Value) {σ:Type} (Rs:σ→List Res) (stp:σ→PT→σ) (x:PT):Prop:=∀ (w:World) (G:Av) (L:List Res) (cb fb eb nb no c lev:Nat) (s:σ) (ta ka:Option Addr) (tc kc:Nat),Mem w0 G (rB cb [iI ((c:Nat):Int)] 3::rB fb [.func (.func ff) #[] caps.toArray] 286::rB eb [.func (.func 227) #[] #[pP cb,pP fb,pP eb]] 297::(Rs s++L)) w →
  Al .u8 x.kind→(x.tag.length≤9223372036854775807∧x.key.length≤9223372036854775807∧x.text.length≤9223372036854775807)→Aj rdSlot 3 G (vS ta x.as.length tc) x.as→Aj rdP 6 G (vS ka x.kids.length kc) x.kids→At G nb no [iB x.kind,qT x.tag,qT x.key,vS ta x.as.length tc,qT x.text,vS ka x.kids.length kc]→c≤64→1≤lev→lev≤7→Calls pG 227 #[vP (some ⟨nb,no,none⟩),iI (lev:Int),pP cb,pP fb,pP eb] w (L4 w0 G fun L' v=>∃ (bb:Bool) (c':Nat) (s':σ),v=vB bb∧L' = (rB cb [iI ((c':Nat):Int)] 3::rB fb [.func (.func ff) #[] caps.toArray] 286::rB eb [.func (.func 227) #[] #[pP cb,pP fb,pP eb]] 297::(Rs s'++L))∧(bb=true↔Tr.Ok Bm (7 - lev) x∧c+x.size≤64)∧(bb=true→c' = c+x.size∧s' = Vk stp s x))
theorem tw_step {w0:World} {ff:FuncId} {caps:List Value} {σ:Type} {Rs:σ→List Res} {I:σ→PT→σ} (hF:FEff w0 ff caps Rs I) {x:PT} (ih:∀ y∈x.kids,WalkP w0 ff caps Rs I y) {w:World} {G:Av} {L:List Res} {O S N nb no c H:Nat} {s:σ} {ta ka:Option Addr} {tc kc:Nat} (M:Mem w0 G (rB O [iI ((c:Nat):Int)] 3::rB S [.func (.func ff) #[] caps.toArray] 286::rB N [.func (.func 227) #[] #[pP O,pP S,pP N]] 297::(Rs s++L)) w) (hk:Al .u8 x.kind) (hl:(x.tag.length≤9223372036854775807∧x.key.length≤9223372036854775807∧x.text.length≤9223372036854775807))
  (SA:Aj rdSlot 3 G (vS ta x.as.length tc) x.as) (SK:Aj rdP 6 G (vS ka x.kids.length kc) x.kids) (A:At G nb no [iB x.kind,qT x.tag,qT x.key,vS ta x.as.length tc,qT x.text,vS ka x.kids.length kc]) (hc:c≤64) (aF:1≤H) (aG:H≤7) :
  Calls pG 227 #[vP (some ⟨nb,no,none⟩),iI (H:Int),pP O,pP S,pP N] w (L4 w0 G fun L' v=>∃ (bb:Bool) (c':Nat) (s':σ),v=vB bb∧L' = (rB O [iI ((c':Nat):Int)] 3::rB S [.func (.func ff) #[] caps.toArray] 286::rB N [.func (.func 227) #[] #[pP O,pP S,pP N]] 297::(Rs s'++L))∧(bb=true↔Tr.Ok Bm (7 - H) x∧c+x.size≤64)∧(bb=true→c' = c+x.size∧s' = Vk I s x)):=by
 refine Ap (vs:=[_,_,_,_,_]) Tryz.func227 rfl (n:=45) rfl rfl<|wk ?_;refine D0 Cj M 0 rfl rfl rfl rfl rfl rfl<|?_;clear M;intro w M
 refine wk ?_
 rcases bE (decide (6 < (H:Int))) with ar | au
 ·skip
  have h1:=dT ar;refine wk ?_;refine Af rfl rfl<|?_
  replace M:=M.perm (Ah _ 2 _ rfl);replace M:=M.perm (Ah _ 2 _ rfl);replace M:=M.perm (Ah _ 2 _ rfl);replace M:=z_M M
  exact ⟨_,M,false,_,_,rfl,rfl,⟨fun D=>(by cases D),fun D=>absurd D (Mi (by clear M;grind))⟩,fun D=>(by cases D)⟩
 have h2:=dF au;refine wk ?_
 rcases bE (decide (64 < ((c:Nat):Int)+1)) with av | aw
 ·skip
  have h3:=dT av;refine wk ?_;refine Af rfl rfl<|?_
  replace M:=M.perm (Ah _ 2 _ rfl);replace M:=M.perm (Ah _ 2 _ rfl);replace M:=M.perm (Ah _ 2 _ rfl);replace M:=z_M M
  exact ⟨_,M,false,_,_,rfl,rfl,⟨fun D=>(by cases D),fun D=>absurd D (Mi (by clear M;grind))⟩,fun D=>(by cases D)⟩
 have h4:=dF aw;refine wk ?_;refine A2 ent228 rfl rfl (Aey (x:=x) M hk hl SA SK A)<|?_;clear M;rintro _ w M ⟨b5,rfl,aC⟩
 refine wk ?_;refine Ag rfl ?_ ?_
 ·intro ai;have h6:=Ad ai;have aA:(b5)=false:=(Ad ai);refine wk ?_;refine Af rfl rfl<|?_
  replace M:=M.perm (Ah _ 2 _ rfl);replace M:=M.perm (Ah _ 2 _ rfl);replace M:=M.perm (Ah _ 2 _ rfl);replace M:=z_M M
  exact ⟨_,M,false,_,_,rfl,rfl,⟨fun D=>(by cases D),fun D=>absurd D (Mi (by clear M;grind))⟩,fun D=>(by cases D)⟩
 intro aj;have h7:=Ae aj;have aB:(b5)=true:=(Ae aj);refine wk ?_;have Y:Bm x:=by clear M;grind
 have am:H≤6:=by omega
 have aE:=Q9 Y;refine wk ?_;replace M:=M.perm (Ah _ 2 _ rfl);replace M:=M.perm (Ah _ 2 _ rfl);replace M:=M.perm (Ah _ 2 _ rfl);replace M:=z_M M;replace M:=M.perm (Z0 _ _);intro a F;refine Ta F hF.ent (caps:=caps) rfl rfl rfl (hF.run (s:=s) (x:=x) M hk hl SA SK A Y) ?_;clear F M a;rintro _ _ w a M ⟨rfl,rfl⟩ F;replace M:=M.perm (Z0 _ _).symm;revert a;refine wk ?_;refine fun a F=>Bd (fun m a' w'=>∃ (i:Nat),∃ (ci:Nat),∃ (si:σ),m=x.kids.length - i∧Fits 45 a' [(0,vP (some ⟨nb,no,none⟩)),(1,iI ((H:Int))),(2,pP O),(3,pP S),(4,pP N),(28,vS ka x.kids.length kc),(29,iI ((x.kids.length:Nat):Int)),(30,iI ((i:Nat):Int))]∧Mem w0 G (rB O [iI ((ci:Nat):Int)] 3::rB S [.func (.func ff) #[] caps.toArray] 286::rB N [.func (.func 227) #[] #[pP O,pP S,pP N]] 297::(Rs si++L)) w'∧(i≤x.kids.length)∧(ci=c+1+Tr.sizes (x.kids.take i)∧ci≤64)∧(si=I7 I (I s x) (x.kids.take i))∧(∀ (m:Nat) (y:PT),m < i→x.kids[m]?=some y→Tr.Ok Bm (7 - (H+1)) y)) _ ⟨0,c+1,(I s x),rfl,fU,M,Nat.zero_le _,⟨by simp [Tr.sizes],tM⟩,by simp [I7],fun m y h=>by omega⟩ ?_;clear F M;rintro m a w ⟨i,ci,si,rfl,F,M,hi,ax,aa,hO⟩;revert a;refine wk ?_;refine qD rfl ?_ ?_
 ·intro h8;refine wk ?_;refine fun a F=>D5 [(.pure,0),(.free,1),(.free,2),(.free,3),(.pure,4),(.free,5),(.free,6),(.free,7),(.free,8),(.keep,9),(.free,10)] [] (Keep G [rB N [.func (.func 227) #[] #[pP O,pP S,pP N]] 297]) rfl kR kF (Aw (M.drew _)) ?_;replace M:=M.drew (w.drawn+1);revert a;refine wk ?_;obtain ⟨aq,E⟩:=Aq (xs:=x.kids) (i:=i) tM;obtain ⟨a6,aI,_,a5,_,ap,ak⟩:=SK.at E;obtain ⟨a3,a4,a1,a2,rfl,al,an,ab,ac⟩:=D7 ak;refine wk ?_;refine k_k rfl<|?_
  replace M:=M.perm (Ah _ 2 _ rfl);replace M:=M.perm (Ah _ 2 _ rfl);replace M:=M.perm (Ah _ 2 _ rfl);replace M:=z_M M;refine s_vL A0o (caps:=[pP O,pP S,pP N]) rfl rfl rfl (ih aq (mG E) _ _ L _ _ _ _ _ ci (H+1) si _ _ _ _ M al an ab ac ap tM tM tM)<|?_;clear M;rintro _ _ w M ⟨ae,ag,ao,rfl,rfl,V,ah⟩
  refine Ao<|?_
  refine eQ (Aw M)<|wk ?_;refine Ag rfl ?_ ?_
  ·intro T;have a7:=Ad T;have az:(ae)=false:=(Ad T);refine wk ?_;refine Af rfl rfl<|?_
   replace M:=M.perm (Ah _ 2 _ rfl);replace M:=M.perm (Ah _ 2 _ rfl);replace M:=M.perm (Ah _ 2 _ rfl);replace M:=z_M M
   exact ⟨_,M,false,_,_,rfl,rfl,⟨fun D=>(by cases D),fun D=>absurd D (Um E am (by rw [← ax.1];exact fun D=>by have h9:=V.2 D;simp_all))⟩,fun D=>(by cases D)⟩
  intro U;have a8:=Ae U;have a0:(ae)=true:=(Ae U);refine wk ?_;have hq:=V.1 tA;obtain ⟨aD,ay⟩:=ah tA;have aH:=Tr.sizes_snoc E;intro a F
  exact ⟨_,tM,i+1,ag,ao,rfl,fU,M,tM,tM,by rw [Aes I E,← aa];exact ay,Acy hO E hq.1⟩
 intro a9;refine wk ?_;refine Af rfl rfl<|?_
 replace M:=M.perm (Ah _ 2 _ rfl);replace M:=M.perm (Ah _ 2 _ rfl);replace M:=M.perm (Ah _ 2 _ rfl);replace M:=z_M M;have hf:=Mv (x:=x) (i:=i) tM;rw [List.take_of_length_le tM] at aa
 exact ⟨_,M,true,_,_,rfl,rfl,⟨fun _=>⟨Aha am Y tM hO,tM⟩,fun _=>rfl⟩,fun _=>⟨tM,by rw [Avr];exact aa⟩⟩
theorem tw_all {w0:World} {N:FuncId} {caps:List Value} {σ:Type} {I:σ→List Res} {D:σ→PT→σ} (T:FEff w0 N caps I D) (x:PT):WalkP w0 N caps I D x:=by
 induction x using Tr.ind with
 | _ x ih=>intro w G L cb fb eb nb no c aa s ta ka tc kc M V Y O S A U E H;exact tw_step T ih M V Y O S A U E H
theorem Aiy {w0:World} {ff:FuncId} {caps:List Value} {σ:Type} {U:σ→List Res} {T:σ→PT→σ} (hF:FEff w0 ff caps U T) {x:PT} {w:World} {G:Av} {L:List Res} {nb no:Nat} {s:σ} {ta ka:Option Addr} {tc kc:Nat} (M:Mem w0 G (U s++L) w) (hk:Al .u8 x.kind) (hl:(x.tag.length≤9223372036854775807∧x.key.length≤9223372036854775807∧x.text.length≤9223372036854775807))
  (SA:Aj rdSlot 3 G (vS ta x.as.length tc) x.as) (SK:Aj rdP 6 G (vS ka x.kids.length kc) x.kids) (A:At G nb no [iB x.kind,qT x.tag,qT x.key,vS ta x.as.length tc,qT x.text,vS ka x.kids.length kc]) :
  Calls pG 212 #[vP (some ⟨nb,no,none⟩),.func (.func ff) #[] caps.toArray] w (L4 w0 G fun L' v=>∃ (k:Nat) (s':σ),v=iI (k:Int)∧L' = (U s'++L)∧k=cntP x∧(ValidP x→s' = Vk T s x)):=by
 refine Ap (vs:=[_,_]) Tryz.func212 rfl (n:=18) rfl rfl<|?_
 refine Bt<|?_
 refine Ch M rfl rfl rfl<|?_;clear M;intro b1 w M
 refine wk ?_;refine Ag rfl ?_ ?_
 ·intro I;have h2:=dF (Ad I);have ae:(decide (x.kind=1))=false:=(Ad I);refine wk ?_;refine Af rfl rfl<|?_
  have H:¬ ValidP x:=fun E=>by have:=E.1;omega
  exact ⟨_,M.wn dS1,0,s,rfl,rfl,(Aeg H).symm,fun E=>absurd E H⟩
 intro N;have h3:=dT (Ae N);have ag:(decide (x.kind=1))=true:=(Ae N);refine wk ?_;refine B0 M Cj rfl rfl<|?_;clear M;intro b4 w M
 refine D0 Cj M 0 rfl rfl rfl rfl rfl rfl<|?_;clear M;intro w M
 refine wk ?_;refine B0 M Ajb rfl rfl<|?_;clear M;intro b6 w M
 refine wk ?_;refine Ak (fun a F=>Dh (vs:=#[pP b4,pP b1,pP b6]) (by simp only [List.map_toArray,List.map_cons,List.map_nil,F.ev (x:=.tmp 5) rfl,F.ev (x:=.tmp 3) rfl,F.ev (x:=.tmp 6) rfl])) rfl<|D0 Ajb M 0 rfl rfl rfl rfl rfl rfl<|?_;clear M;intro w M
 refine wk ?_;replace M:=M.perm (Ah _ 2 _ rfl);replace M:=M.perm (Ah _ 2 _ rfl);replace M:=z_M M;refine s_vL A0o (caps:=[pP b4,pP b1,pP b6]) rfl rfl rfl (tw_all hF x _ _ L _ _ _ _ _ 0 1 s _ _ _ _ M hk hl SA SK A tM tM tM)<|?_;clear M;rintro _ _ w M ⟨b8,ab,aj,rfl,rfl,S,V⟩
 refine wk ?_;refine Ag rfl ?_ ?_
 ·intro O;have h9:=Ad O;have ah:(b8)=false:=(Ad O);refine wk ?_;refine Af rfl rfl<|?_
  have H:¬ ValidP x:=fun E=>by have h9:=S.2 ⟨E.2.1,by have:=E.2.2;omega⟩;simp_all
  exact ⟨_,M.wn dS3,0,_,rfl,rfl,(Aeg H).symm,fun E=>absurd E H⟩
 intro D;have ac:=Ae D;have aa:(b8)=true:=(Ae D);refine wk ?_;refine Af rfl rfl<|?_
 have hq:=S.1 tA;have H:ValidP x:=⟨tM,hq.1,tM⟩;obtain ⟨ai,Y⟩:=V tA
 exact ⟨_,M.wn dS3,_,_,rfl,rfl,by rw [Aif H];omega,fun _=>Y⟩
theorem Ajk (M:Mem w0 G L w) {v:Value}:Calls pG 213 #[v] w (L4 w0 G fun A v=>v=.tuple #[]∧A = L):=by
 refine Ap (vs:=[_]) Tryz.func213 rfl (n:=2) rfl rfl<|?_
 refine D8<|?_
 refine fun a F=>Azy F rfl ?_
 exact ⟨_,M,rfl,rfl⟩
theorem Alg {w0:World}:FEff w0 213 [] (fun _:Unit=>[]) (fun _ _=>()):=⟨ent213,fun M _ _ _ _ _ _=>Ajk M⟩
theorem Ajj (M:Mem w0 G L w) {x:PT} {S:Option Addr} {T:Nat} {ka:Option Addr} {O:Nat} (Y:Al .u8 x.kind) (hl:(x.tag.length≤9223372036854775807∧x.key.length≤9223372036854775807∧x.text.length≤9223372036854775807)) (SA:Aj rdSlot 3 G (vS S x.as.length T) x.as) (SK:Aj rdP 6 G (vS ka x.kids.length O) x.kids):Calls pG 189 #[.agg #[iB x.kind,qT x.tag,qT x.key,vS S x.as.length T,qT x.text,vS ka x.kids.length O]] w (Ret w0 G L fun _ v=>v=iI ((cntP x:Nat):Int)):=by
 refine Ap (vs:=[_]) Tryz.func189 rfl (n:=4) rfl rfl<|?_
 refine Bt<|?_
 refine Ch M rfl rfl rfl<|?_;clear M;intro U w M
 refine wk ?_;obtain ⟨H,A,E,M⟩:=M.freeze (k:=0) rfl;have I:At H U 0 [iB x.kind,qT x.tag,qT x.key,vS S x.as.length T,qT x.text,vS ka x.kids.length O]:=At.of_cells E;clear E;replace SA:=SA.mono mono_rdSlot A;replace SK:=SK.mono mono_rdP A;replace M:=z_M M;refine wk ?_;replace M:=z_M M;refine Sy ent212 rfl rfl (Aiy Alg (x:=x) (s:=()) (L:=L) M Y hl SA SK I)<|?_;clear M;rintro _ _ w M ⟨k3,aa,rfl,D,N,V⟩
 intro a F;rw [D] at M;clear D;replace M:Mem w0 H (L) _:=M;revert a;refine wk ?_;refine Af rfl rfl<|?_
 exact ⟨_,A,M.wn (sR _),by rw [N]⟩
theorem Aex (M:Mem w0 G L w) {x:PT} {D:Option Addr} {E:Nat} {ka:Option Addr} {A:Nat} (N:Al .u8 x.kind) (O:(x.tag.length≤9223372036854775807∧x.key.length≤9223372036854775807∧x.text.length≤9223372036854775807)) (H:Aj rdSlot 3 G (vS D x.as.length E) x.as) (I:Aj rdP 6 G (vS ka x.kids.length A) x.kids):Calls pG 189 #[.agg #[iB x.kind,qT x.tag,qT x.key,vS D x.as.length E,qT x.text,vS ka x.kids.length A]] w (B5 w0 G L fun v=>v=iI ((cntP x:Nat):Int)):=Ret.plain M (Ajj M N O H I)
theorem tcheck_spec (M:Mem w0 G L w) {x:PT} {D:Option Addr} {E:Nat} {ka:Option Addr} {A:Nat} (O:Al .u8 x.kind) (S:(x.tag.length≤9223372036854775807∧x.key.length≤9223372036854775807∧x.text.length≤9223372036854775807)) (H:Aj rdSlot 3 G (vS D x.as.length E) x.as) (I:Aj rdP 6 G (vS ka x.kids.length A) x.kids):Calls pG 155 #[.agg #[iB x.kind,qT x.tag,qT x.key,vS D x.as.length E,qT x.text,vS ka x.kids.length A]] w (B5 w0 G L fun v=>v=iI (Y8 x)):=by
 refine Ap (vs:=[_]) Tryz.func155 rfl (n:=6) rfl rfl<|?_
 refine Bt<|?_
 refine Ch M rfl rfl rfl<|?_;clear M;intro T w M
 refine wk ?_;refine A2 ent189 rfl rfl (Aex (x:=x) M O S H I)<|?_;clear M;rintro _ w M rfl
 refine wk ?_;refine qD rfl ?_ ?_
 ·intro U;refine wk ?_;refine Af rfl rfl<|?_
  exact ⟨M.wn dS1,by rw [Vh fun N=>by have:=Sf.2 N;omega]⟩
 intro V;refine wk ?_;refine Af rfl rfl<|?_
 exact ⟨M.wn dS1,by rw [Aih (Sf.1 tM)]⟩
def A2e (x:PT):Prop:=∀ (w0 w:World) (G:Av) (L:List Res) (ta ka:Option Addr) (tc kc lev:Nat),Mem w0 G L w→Al .u8 x.kind→(x.tag.length≤9223372036854775807∧x.key.length≤9223372036854775807∧x.text.length≤9223372036854775807)→Aj rdSlot 3 G (vS ta x.as.length tc) x.as→Aj rdP 6 G (vS ka x.kids.length kc) x.kids→lev≤8 →
  Calls pG 194 #[.agg #[iB x.kind,qT x.tag,qT x.key,vS ta x.as.length tc,qT x.text,vS ka x.kids.length kc],iI (lev:Int)] w (B5 w0 G L fun v=>∃ r:Nat,v=iI (r:Int)∧Cnt Bm x lev r)
theorem Ajw {x:PT} (ih:∀ y∈x.kids,A2e y) {w0 w:World} {G:Av} {L:List Res} (M:Mem w0 G L w) {ta:Option Addr} {tc:Nat} {ka:Option Addr} {kc:Nat} (hk:Al .u8 x.kind) (hl:(x.tag.length≤9223372036854775807∧x.key.length≤9223372036854775807∧x.text.length≤9223372036854775807)) (SA:Aj rdSlot 3 G (vS ta x.as.length tc) x.as) (SK:Aj rdP 6 G (vS ka x.kids.length kc) x.kids) {lev:Nat} (ak:lev≤8):Calls pG 194 #[.agg #[iB x.kind,qT x.tag,qT x.key,vS ta x.as.length tc,qT x.text,vS ka x.kids.length kc],iI (lev:Int)] w (B5 w0 G L fun v=>∃ r:Nat,v=iI (r:Int)∧Cnt Bm x lev r):=by
 refine Ap (vs:=[_,_]) Tryz.func194 rfl (n:=36) rfl rfl<|?_
 refine Bt<|?_
 refine Ch M rfl rfl rfl<|?_;clear M;intro b1 w M
 refine wk ?_
 rcases bE (decide ((lev:Int) < 1)) with ab | ac
 ·skip
  have h2:=dT ab;refine wk ?_;refine Af rfl rfl<|?_
  exact ⟨M.wn dS1,1000,rfl,Cnt.bad (by clear M;grind)⟩
 have h3:=dF ac;refine wk ?_;refine A2 ent221 rfl rfl (Ajv (x:=x) M hk hl SA SK)<|?_;clear M;rintro _ w M ⟨b4,rfl,ay⟩
 refine wk ?_;refine Ag rfl ?_ ?_
 ·intro O;have h5:=Ad O;have aw:(b4)=false:=(Ad O);refine wk ?_;refine Af rfl rfl<|?_
  exact ⟨M.wn dS1,1000,rfl,Cnt.bad (by clear M;grind)⟩
 intro S;have h6:=Ae S;have ax:(b4)=true:=(Ae S);refine wk ?_;have E:Bm x:=by clear M;grind
 have a0:1≤lev:=by omega
 have az:=Q9 E;refine wk ?_;refine fun a F=>Bd (fun m a' w'=>∃ (i:Nat),∃ (c:Nat),m=x.kids.length - i∧Fits 36 a' [(1,iI ((lev:Int))),(2,pP b1),(5,iI ((c:Nat):Int)),(6,iI ((i:Nat):Int))]∧Mem w0 G (rB b1 [iB x.kind,qT x.tag,qT x.key,vS ta x.as.length tc,qT x.text,vS ka x.kids.length kc] 79::L) w'∧(i≤x.kids.length)∧(CntL Bm x lev i c)) _ ⟨0,1,rfl,fU,M,Nat.zero_le _,CntL.zero _ _⟩ ?_;clear F M;rintro m a w ⟨i,c,rfl,F,M,hi,hL⟩;revert a;refine Ca<|Ca<|?_
 have aj:=hL.hi;refine wk ?_
 rcases bE (decide (((i:Nat):Int) < ((x.kids.length:Nat):Int))) with ae | N
 ·skip
  have h7:=dT ae;refine wk ?_;refine qD rfl ?_ ?_
  ·intro h8;refine wk ?_;obtain ⟨aa,A⟩:=Aq (xs:=x.kids) (i:=i) tM;obtain ⟨ar,a1,_,aq,_,ap,T⟩:=SK.at A;obtain ⟨an,ao,al,am,rfl,U,V,H,I⟩:=D7 T;refine wk ?_;have Y:((lev:Int) - 1:Int)=((lev - 1:Nat):Int):=by omega
   intro a F;rw [Y] at F;revert a;refine A2 A0q rfl rfl (ih aa (mG A) _ _ _ _ _ _ _ _ (lev - 1) M U V H I tM)<|?_;clear M;rintro _ w M ⟨ai,rfl,D⟩
   have ag:=D.hi;have ah:=D.lo;refine wk ?_;intro a F
   exact ⟨_,tM,i+1,c+ai,rfl,fU,M,tM,hL.step tM tM A D⟩
  intro au;refine wk ?_;refine Af rfl rfl<|?_
  exact ⟨M.wn dS1,c,rfl,hL.done tM E tM⟩
 have av:=dF N;refine wk ?_;refine Af rfl rfl<|?_
 exact ⟨M.wn dS1,c,rfl,hL.done tM E tM⟩
theorem Aqr (x:PT):A2e x:=by
 induction x using Tr.ind with
 | _ x ih=>intro w0 w G L S ka T O N M H I D E A;exact Ajw ih M H I D E A
theorem Ach (M:Mem w0 G L w) {x:PT} {O:Option Addr} {S:Nat} {ka:Option Addr} {I:Nat} (V:Al .u8 x.kind) (Y:(x.tag.length≤9223372036854775807∧x.key.length≤9223372036854775807∧x.text.length≤9223372036854775807)) (T:Aj rdSlot 3 G (vS O x.as.length S) x.as) (U:Aj rdP 6 G (vS ka x.kids.length I) x.kids):Calls pG 165 #[.agg #[iB x.kind,qT x.tag,qT x.key,vS O x.as.length S,qT x.text,vS ka x.kids.length I]] w (B5 w0 G L fun v=>v=iI ((cntP x:Nat):Int)):=by
 refine Ap (vs:=[_]) Tryz.func165 rfl (n:=14) rfl rfl<|?_
 refine Bt<|?_
 refine Ch M rfl rfl rfl<|?_;clear M;intro b1 w M
 refine wk ?_;refine A2 A0q rfl rfl (Aqr x _ _ _ _ _ _ _ _ 6 M V Y T U tM)<|?_;clear M;rintro _ w M ⟨r2,rfl,A⟩
 have H:=A.hi;have N:=A.lo;refine wk ?_
 rcases bE (!(decide (x.kind=1))) with D | E
 ·skip
  have h3:=dF (Ad D);refine wk ?_;refine Af rfl rfl<|?_
  exact ⟨M.wn dS1,by rw [A.cntP.1 tM];rfl⟩
 have h4:=dT (Ae E);refine wk ?_;refine qD rfl ?_ ?_
 ·intro h5;refine wk ?_;refine Af rfl rfl<|?_
  exact ⟨M.wn dS1,by rw [A.cntP.1 tM];rfl⟩
 intro h6;refine wk ?_;refine Af rfl rfl<|?_
 exact ⟨M.wn dS1,by rw [A.cntP.2 tM tM]⟩
theorem Rp (M:Mem w0 G L w) {x:PT} {D:Option Addr} {E:Nat} {ka:Option Addr} {A:Nat} (O:Al .u8 x.kind) (S:(x.tag.length≤9223372036854775807∧x.key.length≤9223372036854775807∧x.text.length≤9223372036854775807)) (H:Aj rdSlot 3 G (vS D x.as.length E) x.as) (I:Aj rdP 6 G (vS ka x.kids.length A) x.kids):Calls pG 130 #[.agg #[iB x.kind,qT x.tag,qT x.key,vS D x.as.length E,qT x.text,vS ka x.kids.length A]] w (B5 w0 G L fun v=>v=iI (Y8 x)):=by
 refine Ap (vs:=[_]) Tryz.func130 rfl (n:=6) rfl rfl<|?_
 refine Bt<|?_
 refine Ch M rfl rfl rfl<|?_;clear M;intro T w M
 refine wk ?_;refine A2 ent165 rfl rfl (Ach (x:=x) M O S H I)<|?_;clear M;rintro _ w M rfl
 refine wk ?_;refine qD rfl ?_ ?_
 ·intro U;refine wk ?_;refine Af rfl rfl<|?_
  exact ⟨M.wn dS1,by rw [Vh fun N=>by have:=Sf.2 N;omega]⟩
 intro V;refine wk ?_;refine Af rfl rfl<|?_
 exact ⟨M.wn dS1,by rw [Aih (Sf.1 tM)]⟩
theorem A1w (M:Mem w0 G L w) {s:List UInt8} (E:s.length≤9223372036854775807):Calls pG 215 #[qT s] w (B5 w0 G L fun v=>∃ b:Bool,v=vB b∧(b=true↔¬ C2 s)):=by
 refine Ap (vs:=[_]) Tryz.func215 rfl (n:=6) rfl rfl<|wk ?_;refine A2 Tw rfl rfl (H8 (s:=s) M tA)<|?_;clear M;rintro _ w M ⟨A,rfl,D⟩
 refine wk ?_;refine Af rfl rfl<|?_
 exact ⟨M,(!(A)),rfl,(by clear M;grind)⟩
theorem Tn (M:Mem w0 G L w) {ad:Option Addr} {E:Nat} {xs:List (List UInt8)} (S:Aj Cr 1 G (vS ad xs.length E) xs):Calls pG 104 #[vS ad xs.length E,.func (.func 215) #[] #[]] w (B5 w0 G L fun v=>∃ z:Int,v=iI z∧(0≤z↔¬ ∀ s∈xs,C2 s)):=by
 have bS:=S.bound;refine Ap (vs:=[_,_]) Tryz.func104 rfl (n:=19) rfl rfl<|wk ?_;refine fun a F=>Bd (fun m a' w'=>∃ (i:Nat),m=xs.length - i∧Fits 19 a' [(0,vS ad xs.length E),(1,.func (.func 215) #[] #[]),(7,iI ((xs.length:Nat):Int)),(8,iI ((i:Nat):Int))]∧Mem w0 G (L) w'∧(i≤xs.length)∧(∀ (m:Nat) (s:List UInt8),m < i→xs[m]?=some s→C2 s)) _ ⟨0,rfl,fU,M,Nat.zero_le _,fun m d h=>by omega⟩ ?_;clear F M;rintro m a w ⟨i,rfl,F,M,hi,U⟩;revert a;refine wk ?_;refine qD rfl ?_ ?_
 ·intro h1;refine wk ?_;obtain ⟨D,A⟩:=Aq (xs:=xs) (i:=i) tM;obtain ⟨aa,ab,_,Y,_,V,⟨rfl,O⟩⟩:=S.at A;refine wk ?_;refine Ajq ent215 (caps:=[]) rfl rfl rfl (A1w (s:=D) M tM)<|?_;clear M;rintro _ w M ⟨T,rfl,N⟩
  refine Ao<|Gd<|?_
  refine Ag rfl ?_ ?_
  ·intro H;have h4:(T)=true:=H;refine wk ?_;refine Af rfl rfl<|?_
   exact ⟨M,_,rfl,⟨fun _ h_=>(N.1 tA) (h_ _ (mG A)),fun _=>by omega⟩⟩
  intro I;have h5:(T)=false:=I;refine wk ?_;intro a F
  exact ⟨_,tM,i+1,rfl,fU,M,tM,Ph U A (by clear F M;grind)⟩
 intro h6;refine wk ?_;refine Af rfl rfl<|?_
 exact ⟨M,_,rfl,⟨fun h=>by omega,fun h=>absurd (G7 U tM) h⟩⟩
theorem Q2 (M:Mem w0 G L w) {ad:Option Addr} {D:Nat} {xs:List (List UInt8)} (S:Aj Cr 1 G (vS ad xs.length D) xs):Calls pG 51 #[vS ad xs.length D,.func (.func 215) #[] #[]] w (B5 w0 G L fun v=>∃ b:Bool,v=vB b∧(b=true↔¬ ∀ s∈xs,C2 s)):=by
 refine Ap (vs:=[_,_]) Tryz.func51 rfl (n:=9) rfl rfl<|wk ?_;refine A2 A1i rfl rfl (Tn (xs:=xs) M S)<|?_;clear M;rintro _ w M ⟨E,rfl,A⟩
 refine wk ?_;refine Af rfl rfl<|?_
 exact ⟨M,_,rfl,decide_eq_true_iff.trans A⟩
theorem Yf (M:Mem w0 G L w) {x:ItemD} {V:Option Addr} {Y:Nat} (ht:x.text.length≤9223372036854775807) (SM:Aj Cr 1 G (vS V x.mZ.length Y) x.mZ):Calls pG 191 #[.agg #[iU x.key,iB x.typ,qT x.text,vS V x.mZ.length Y]] w (B5 w0 G L fun v=>v=iI (Hi x)):=by
 refine Ap (vs:=[_]) Tryz.func191 rfl (n:=23) rfl rfl<|?_
 refine Bt<|?_
 refine Ch M rfl rfl rfl<|?_;clear M;intro b1 w M
 refine wk ?_
 rcases bE (decide (x.key=0)) with N | O
 ·skip
  have h2:=dT N;refine wk ?_;refine Af rfl rfl<|?_
  exact ⟨M.wn dS1,by rw [E1 (by clear M;unfold ItemOk;grind)]⟩
 have h3:=dF O;refine wk ?_;refine A2 Aln rfl rfl (Nz (s:=x.text) M tM)<|?_;clear M;rintro _ w M ⟨I,rfl,ag⟩
 refine wk ?_
 rcases bE (!(I)) with E | H
 ·skip
  have h5:=Ad E;have ac:(I)=false:=(Ad E);refine wk ?_;refine Af rfl rfl<|?_
  exact ⟨M.wn dS1,by rw [E1 (by clear M;unfold ItemOk;grind)]⟩
 have h6:=Ae H;have ae:(I)=true:=(Ae H);refine wk ?_
 rcases bE (decide (8 < ((x.mZ.length:Nat):Int))) with S | T
 ·skip
  have h7:=dT S;refine wk ?_;refine Af rfl rfl<|?_
  exact ⟨M.wn dS1,by rw [E1 (by clear M;unfold ItemOk;grind)]⟩
 have h8:=dF T;refine wk ?_;refine A2 ent51 rfl rfl (Q2 (xs:=x.mZ) M SM)<|?_;clear M;rintro _ w M ⟨U,rfl,ah⟩
 refine wk ?_;refine Ag rfl ?_ ?_
 ·intro A;have aa:(U)=true:=A;refine wk ?_;refine Af rfl rfl<|?_
  exact ⟨M.wn dS1,by rw [E1 (by clear M;unfold ItemOk;grind)]⟩
 intro D;have ab:(U)=false:=D;refine wk ?_;refine Af rfl rfl<|?_
 exact ⟨M.wn dS1,by rw [Dc (by first | (clear M;unfold ItemOk;grind) | exact ⟨tM,by clear M;grind,tM,G7 hA tM⟩)]⟩
theorem Nq (M:Mem w0 G L w) {x:ItemD} {Y:Option Addr} {mc:Nat} (ht:x.text.length≤9223372036854775807) (SM:Aj Cr 1 G (vS Y x.mZ.length mc) x.mZ):Calls pG 150 #[.agg #[iU x.key,iB x.typ,qT x.text,vS Y x.mZ.length mc]] w (B5 w0 G L fun v=>v=iI (Hi x)):=by
 refine Ap (vs:=[_]) Tryz.func150 rfl (n:=33) rfl rfl<|?_
 refine Bt<|?_
 refine Ch M rfl rfl rfl<|?_;clear M;intro b1 w M
 refine wk ?_
 rcases bE (decide (x.key=0)) with U | V
 ·skip
  have h2:=dT U;refine wk ?_;refine Af rfl rfl<|?_
  exact ⟨M.wn dS1,by rw [E1 (by clear M;unfold ItemOk;grind)]⟩
 have h3:=dF V;refine wk ?_;refine A2 X2 rfl rfl (Md (s:=x.text) M tM)<|?_;clear M;rintro _ w M ⟨T,rfl,ao⟩
 refine wk ?_
 rcases bE (!(T)) with N | O
 ·skip
  have h5:=Ad N;have am:(T)=false:=(Ad N);refine wk ?_;refine Af rfl rfl<|?_
  exact ⟨M.wn dS1,by rw [E1 (by clear M;unfold ItemOk;grind)]⟩
 have h6:=Ae O;have an:(T)=true:=(Ae O);refine wk ?_;refine qD rfl ?_ ?_
 ·intro h7;refine wk ?_;refine Af rfl rfl<|?_
  exact ⟨M.wn dS1,by rw [E1 (by clear M;unfold ItemOk;grind)]⟩
 intro h8;refine wk ?_;refine fun a F=>Bd (fun m a' w'=>∃ (i:Nat),m=x.mZ.length - i∧Fits 33 a' [(1,pP b1),(3,iI ((i:Nat):Int))]∧Mem w0 G (rB b1 [iU x.key,iB x.typ,qT x.text,vS Y x.mZ.length mc] 26::L) w'∧(i≤x.mZ.length)∧(∀ (m:Nat) (s:List UInt8),m < i→x.mZ[m]?=some s→C2 s)) _ ⟨0,rfl,fU,M,Nat.zero_le _,fun m d h=>by omega⟩ ?_;clear F M;rintro m a w ⟨i,rfl,F,M,hi,hA⟩;revert a;refine wk ?_;refine qD rfl ?_ ?_
 ·intro h9;refine wk ?_;obtain ⟨H,A⟩:=Aq (xs:=x.mZ) (i:=i) tM;obtain ⟨ac,ai,_,ab,_,aa,⟨rfl,S⟩⟩:=SM.at A;refine wk ?_;refine A2 Ou rfl rfl (E9 (s:=H) M tM)<|?_;clear M;rintro _ w M ⟨I,rfl,ah⟩
  refine wk ?_;refine Ag rfl ?_ ?_
  ·intro D;have aj:=Ad D;have ae:(I)=false:=(Ad D);refine wk ?_;refine Af rfl rfl<|?_
   exact ⟨M.wn dS1,by rw [E1 (Ahc A (by clear M;grind))]⟩
  intro E;have ak:=Ae E;have ag:(I)=true:=(Ae E);refine wk ?_;intro a F
  exact ⟨_,tM,i+1,rfl,fU,M,tM,Ph hA A (by clear F M;grind)⟩
 intro al;refine wk ?_;refine Af rfl rfl<|?_
 exact ⟨M.wn dS1,by rw [Dc (by first | (clear M;unfold ItemOk;grind) | exact ⟨tM,by clear M;grind,tM,G7 hA tM⟩)]⟩
theorem Tz (M:Mem w0 G L w) {u:Nat} (hu:u < 18446744073709551616):Calls pG 219 #[iU (u:Int)] w (B5 w0 G L fun v=>v=qT (Lib.decDigits u)):=by
 refine Ap (vs:=[_]) Tryz.func219 rfl (n:=19) rfl rfl<|wk ?_;refine B0 M Abs rfl rfl<|?_;clear M;intro O w M
 refine wk ?_;replace M:Mem w0 G (rB O (bc (List.replicate 20 0)) 302::L) w:=M;refine wk ?_;refine fun a F=>Bd (fun m a' w'=>∃ (i:Nat),∃ (n:Nat),∃ (N:List UInt8),m=i+1∧Fits 19 a' [(3,pP O),(0,iU ((n:Nat):Int)),(4,iI ((i:Nat):Int))]∧Mem w0 G (rB O (bc (N)) 302::L) w'∧(i≤20)∧(N.length=20)∧(n < 18446744073709551616)∧(Lib.decDigits u=Lib.decDigits n++N.drop i)) _ ⟨20,u,List.replicate 20 0,rfl,fU,M,Nat.le_refl _,by simp,hu,by simp⟩ ?_;clear F M;rintro m a w ⟨i,n,N,rfl,F,M,T,A,Y,S⟩;revert a;refine H2<|Ca<|?_
 have D:=A1s S hu A T;refine wk ?_;have U:(((i:Nat):Int) - 1:Int)=((i - 1:Nat):Int):=by omega
 intro a F;rw [U] at F;revert a;refine wk ?_;refine Ak (fun a F=>C5 (F.ev rfl) (F.ev rfl) tM tM) rfl<|?_
 obtain ⟨V,E⟩:=Aq (xs:=([48,49,50,51,52,53,54,55,56,57]:List UInt8)) (i:=n % 10) (by (show n % 10 < 10;omega));have aa:=Ry V;refine Ak (fun a F=>Cu (i:=n % 10) Dg.k (F.ev rfl) (F.ev rfl) E) rfl<|Ak (fun a F=>Br (j:=i - 1) Abs.k Cp rfl (F.ev rfl) (F.ev rfl) tM tM) rfl<|fun a F=>?_
 refine Pd F M Cp rfl (k:=0) rfl rfl rfl rfl (List.getElem?_eq_getElem (by rw [Yl];omega)) ?_;clear F M a;intro w a M F;rw [Nat.zero_add,bc_set] at M;replace M:=z_M M;have H:=E;revert a;refine wk ?_;refine Ak (fun a F=>Iq (F.ev rfl) (F.ev rfl) tM tM (Gn tM tM)) rfl<|wk ?_;refine qD rfl ?_ ?_
 ·intro h5;refine wk ?_;refine Ak (fun a F=>Yt (l:=i - 1) Abs.k Cp rfl (F.ev rfl) (F.ev rfl) tM tM) rfl<|Ak (fun a F=>Yr M (k:=0) rfl Nn.k Cp.k Dg.k (F.ev rfl) (by rw [List.length_set];omega)) rfl<|wk ?_;refine Af rfl rfl<|?_
  have I:=Aay S D T A H;rw [if_pos tM,List.nil_append] at I
  exact ⟨M.wn dS1,by rw [I]⟩
 intro h6;refine wk ?_;intro a F
 exact ⟨_,tM,i - 1,n / 10,(N).set (i - 1) V,rfl,fU,M,tM,by rw [List.length_set];exact A,tM,by have I:=Aay S D T A H;rw [if_neg tM] at I;exact I⟩
def RdecP (u:Nat):Prop:=∀ (w0 w:World) (G:Av) (L:List Res),Mem w0 G L w→u < 18446744073709551616→Calls pG 186 #[iU (u:Int)] w (B5 w0 G L fun v=>v=qT (Lib.decDigits u))
theorem Akf {u:Nat} (H:∀ v,v < u→RdecP v) {w0 w:World} {G:Av} {L:List Res} (M:Mem w0 G L w) (O:u < 18446744073709551616):Calls pG 186 #[iU (u:Int)] w (B5 w0 G L fun v=>v=qT (Lib.decDigits u)):=by
 refine Ap (vs:=[_]) Tryz.func186 rfl (n:=16) rfl rfl<|wk ?_;refine qD rfl ?_ ?_
 ·intro I;refine wk ?_;refine Ak (fun a F=>Fx (F.ev rfl) (F.ev rfl) (Gn tM tM)) rfl<|Ak (fun a F=>Ip (a:=u) (b:=u+1) Dg.k (F.ev rfl) ⟨(F.ev rfl),tM⟩ ⟨(F.ev rfl),tM⟩ (by (first | omega | (show u+1≤10;omega))) (by (first | omega | (show u+1≤10;omega)))) rfl<|?_
  have A:(([48,49,50,51,52,53,54,55,56,57]:List UInt8).take (u+1)).drop (u)=[UInt8.ofNat (48+u)]:=Ty u tM;intro a F;rw [A] at F;revert a;refine wk ?_;refine Af rfl rfl<|?_
  exact ⟨M,by rw [Ie tM]⟩
 intro N;refine wk ?_;refine Ak (fun a F=>Iq (F.ev rfl) (F.ev rfl) tM tM (Gn tM tM)) rfl<|A2 X1 rfl rfl (H (u / 10) tM _ _ _ _ M tM)<|?_;clear M;rintro _ w M rfl
 have D:=C7 (u / 10) tM;refine Cd rfl<|?_
 refine Ak (fun a F=>C5 (F.ev rfl) (F.ev rfl) tM tM) rfl<|A2 X1 rfl rfl (H (u % 10) tM _ _ _ _ M tM)<|?_;clear M;rintro _ w M rfl
 have E:=C7 (u % 10) tM;refine Ak (fun a F=>Bg (F.ev rfl) (F.ev rfl) tO) rfl<|wk ?_;refine Af rfl rfl<|?_
 exact ⟨M,by rw [dec_two tM]⟩
theorem Are (u:Nat):RdecP u:=by
 induction u using Nat.strongRecOn with
 | _ u ih=>intro w0 w G L M A;exact Akf ih M A
theorem Qq (M:Mem w0 G L w) {u:Nat} (A:u < 18446744073709551616):Calls pG 186 #[iU (u:Int)] w (B5 w0 G L fun v=>v=qT (Lib.decDigits u)):=Are u _ _ _ _ M A
end Go.Proofs.YtmmhmcplegpenaaGreatDoor.T
