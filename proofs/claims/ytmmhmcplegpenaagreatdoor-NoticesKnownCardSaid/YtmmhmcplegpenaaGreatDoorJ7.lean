/- Own lemmas and walks. -/
import Derived.Test.YtmmhmcplegpenaaGreatDoorJ6
import Derived.Laws.CopyRow
import Derived.MapKept
set_option linter.unusedSimpArgs false
set_option linter.unusedVariables false
set_option maxRecDepth 10000
set_option maxHeartbeats 1600000
open Go.Value renaming slice→vS,string→vT,int→vI,bool→vB,pointer→vP
open Go.IntKind renaming i64→kI,u64→kU
open Go.Lib renaming cut→xC
open Go.Proofs.Tryz renaming prog→pG
open Go.Y.Res renaming blk→rB,row→rR
open Go.Y (pP qT iI iB iU sN)
open List renaming length_append→lA,length_cons→lC,length_nil→lN,length_take→lT,length_drop→lD,mem_of_getElem?→mG,mem_cons→mC,length_map→lM
namespace Go.Proofs.YtmmhmcplegpenaaGreatDoor
open Go Go.Y Go.Proofs
variable {w0 w:World} {G:Av} {L:List Res}
theorem Tf (M:Mem w0 G L w) (HG:Globs 0 1 2 3 G) {x:ItemD} {D:Option Addr} {E:Nat} (S:(x.key < 18446744073709551616∧x.typ < 256∧x.text.length≤9223372036854775807)) (O:Aj Cr 1 G (vS D x.mZ.length E) x.mZ) (A:ItemOk 8 x):Calls pG 42 #[.agg #[iU ((x.key:Nat):Int),iB ((x.typ:Nat):Int),qT x.text,vS D x.mZ.length E]] w (B5 w0 G L fun v=>v=qT (Cx x)):=by
 obtain ⟨H,T,U⟩:=id S;have I:=A.2.2.2.1;have hj:=Nc I A.2.2.2.2;have aa:=A.2.2.1.1;have V:=C7 x.key H;have Y:=C7 x.typ tM;refine Ap (vs:=[_]) Tryz.func42 rfl (n:=25) rfl rfl<|?_
 refine Bt<|?_
 refine Ch M rfl rfl rfl<|?_;clear M;intro N w M
 refine wk ?_;refine A2 ent97 rfl rfl (Auj (xs:=x.mZ) M O tM tM)<|?_;clear M;rintro _ w M rfl
 refine wk ?_;refine qD rfl ?_ ?_
 ·intro h2;refine wk ?_;refine fun a F=>D5 [(.free,0),(.pure,1),(.free,4),(.pure,5),(.free,6),(.free,10),(.free,13),(.pure,14),(.keep,2),(.free,3),(.keep,7),(.free,8),(.free,9),(.free,11),(.free,12),(.free,15),(.free,16)] [] (Keep G [rB N [iU ((x.key:Nat):Int),iB ((x.typ:Nat):Int),qT x.text,vS D x.mZ.length E] 26]) rfl kR kF (Aw (M.drew _)) ?_;replace M:=M.drew (w.drawn+1);revert a;refine wk ?_;refine k_f (fun a F w _=>Bb Cj.k ⟨_,by rw [Be Cp.k]⟩ (F.ev rfl) (Bi tM tM)) rfl<|wk ?_;refine k_k rfl<|A2 ent98 rfl rfl (Apd (u:=x.key) M HG tM)<|?_;clear M;rintro _ w M rfl
  refine Ao<|?_
  refine eQ (Aw M)<|k_f (fun a F w _=>Bg (F.ev rfl) (F.ev rfl) (by (first | omega | (simp only [lA,lC,lN];omega)))) rfl<|k_k rfl<|A2 Apk rfl rfl (Aak (u:=x.typ) M HG tM)<|?_;clear M;rintro _ w M rfl
  refine Ao<|?_
  refine eQ (Aw M)<|k_f (fun a F w _=>Bg (F.ev rfl) (F.ev rfl) (by (first | omega | (simp only [lA,lC,lN];omega)))) rfl<|k_f (fun a F w _=>Bg (F.ev rfl) (F.ev rfl) (by (first | omega | (simp only [lA,lC,lN];omega)))) rfl<|k_f (fun a F w _=>Bg (F.ev rfl) (F.ev rfl) (by (first | omega | (simp only [lA,lC,lN];omega)))) rfl<|k_f (fun a F w _=>Bg (F.ev rfl) (F.ev rfl) (by (first | omega | (simp only [lA,lC,lN];omega)))) rfl<|k_f (fun a F w _=>Bg (F.ev rfl) (F.ev rfl) (by (first | omega | (simp only [lA,lC,lN];omega)))) rfl<|wk ?_;refine Af rfl rfl<|?_
  exact ⟨M.wn dS1,by first | rw [Aag tA] | rw [Aah tA A]⟩
 intro h3;refine wk ?_;refine fun a F=>D5 [(.free,0),(.pure,1),(.free,4),(.pure,5),(.free,6),(.free,10),(.free,13),(.pure,14),(.keep,2),(.free,3),(.keep,7),(.free,8),(.free,9),(.free,11),(.free,12),(.free,15),(.free,16)] [] (Keep G [rB N [iU ((x.key:Nat):Int),iB ((x.typ:Nat):Int),qT x.text,vS D x.mZ.length E] 26]) rfl kR kF (Aw (M.drew _)) ?_;replace M:=M.drew (w.drawn+1);revert a;refine wk ?_;refine k_f (fun a F w _=>Bb Cj.k ⟨_,by rw [Be Cp.k]⟩ (F.ev rfl) (Bi tM tM)) rfl<|wk ?_;refine k_k rfl<|A2 ent98 rfl rfl (Apd (u:=x.key) M HG tM)<|?_;clear M;rintro _ w M rfl
 refine Ao<|?_
 refine eQ (Aw M)<|k_f (fun a F w _=>Bg (F.ev rfl) (F.ev rfl) (by (first | omega | (simp only [lA,lC,lN];omega)))) rfl<|k_k rfl<|A2 Apk rfl rfl (Aak (u:=x.typ) M HG tM)<|?_;clear M;rintro _ w M rfl
 refine Ao<|?_
 refine eQ (Aw M)<|k_f (fun a F w _=>Bg (F.ev rfl) (F.ev rfl) (by (first | omega | (simp only [lA,lC,lN];omega)))) rfl<|k_f (fun a F w _=>Bg (F.ev rfl) (F.ev rfl) (by (first | omega | (simp only [lA,lC,lN];omega)))) rfl<|k_f (fun a F w _=>Bg (F.ev rfl) (F.ev rfl) (by (first | omega | (simp only [lA,lC,lN];omega)))) rfl<|k_f (fun a F w _=>Bg (F.ev rfl) (F.ev rfl) (by (first | omega | (simp only [lA,lC,lN];omega)))) rfl<|k_f (fun a F w _=>Bg (F.ev rfl) (F.ev rfl) (by (first | omega | (simp only [lA,lC,lN];omega)))) rfl<|wk ?_;refine Af rfl rfl<|?_
 exact ⟨M.wn dS1,by first | rw [Aag tA] | rw [Aah tA A]⟩
theorem Qn (M:Mem w0 G L w) {x:ItemD} {I:Option Addr} {N:Nat} (hI:(x.key < 18446744073709551616∧x.typ < 256∧x.text.length≤9223372036854775807)) (SM:Aj Cr 1 G (vS I x.mZ.length N) x.mZ) (A:ItemOk 8 x):Calls pG 59 #[.agg #[iU ((x.key:Nat):Int),iB ((x.typ:Nat):Int),qT x.text,vS I x.mZ.length N]] w (B5 w0 G L fun v=>v=qT (Cx x++[10])):=by
 obtain ⟨T,an,ao⟩:=id hI;have Y:=A.2.2.2.1;have hj:=Nc Y A.2.2.2.2;have ar:=A.2.2.1.1;have ap:=C7 x.key T;have aq:=C7 x.typ tM;refine Ap (vs:=[_]) Tryz.func59 rfl (n:=44) rfl rfl<|?_
 refine Bt<|?_
 refine Ch M rfl rfl rfl<|?_;clear M;intro O w M
 refine wk ?_;refine fun a F=>Bd (fun m a' w'=>∃ (i:Nat),m=x.mZ.length - i∧Fits 44 a' [(1,pP O),(2,qT []),(3,qT (Lib.join (x.mZ.take i) [44])),(4,iI ((i:Nat):Int))]∧Mem w0 G (rB O [iU ((x.key:Nat):Int),iB ((x.typ:Nat):Int),qT x.text,vS I x.mZ.length N] 26::L) w'∧(i≤x.mZ.length)) _ ⟨0,rfl,fU,M,tM⟩ ?_;clear F M;rintro m a w ⟨i,rfl,F,M,hi⟩;revert a;refine wk ?_;refine qD rfl ?_ ?_
 ·intro h2;refine wk ?_;have V:=Tk A i;have ag:=Tk A (i+1);refine wk ?_;refine qD rfl ?_ ?_
  ·intro h3;refine Hg<|Cd rfl<|?_
   refine Ak (fun a F=>Bg (F.ev rfl) (F.ev rfl) (by (first | omega | (simp only [lA,lC,lN];omega)))) rfl<|wk ?_;obtain ⟨S,D⟩:=Aq (xs:=x.mZ) (i:=i) tM;obtain ⟨al,au,_,aj,_,ah,⟨rfl,ac⟩⟩:=SM.at D;refine wk ?_;have aa:=(A.2.2.2.2 S (mG D)).1.2;refine Ak (fun a F=>Bg (F.ev rfl) (F.ev rfl) (by (first | omega | (simp only [lA,lC,lN];omega)))) rfl<|wk ?_;intro a F;rw [← Auk D tM] at F
   exact ⟨_,tM,i+1,rfl,fU,M,tM⟩
  intro h5;refine wk ?_;obtain ⟨H,E⟩:=Aq (xs:=x.mZ) (i:=i) tM;obtain ⟨am,av,_,ak,_,ai,⟨rfl,ae⟩⟩:=SM.at E;refine wk ?_;have aa:=(A.2.2.2.2 H (mG E)).1.2;refine Ak (fun a F=>Bg (F.ev rfl) (F.ev rfl) (by (first | omega | (simp only [lA,lC,lN];omega)))) rfl<|wk ?_;have U:i=0:=by omega
  have ab:(Lib.join (x.mZ.take i) [44])++H=Lib.join (x.mZ.take (i+1)) [44]:=by subst U;rw [Azc E];rfl
  intro a F;rw [ab] at F
  exact ⟨_,tM,i+1,rfl,fU,M,tM⟩
 intro h7;refine wk ?_;have V:=Tk A i;refine wk ?_;refine qD rfl ?_ ?_
 ·intro h8;refine wk ?_;refine fun a F=>D5 [(.free,0),(.pure,1),(.free,4),(.pure,5),(.free,6),(.free,10),(.free,13),(.pure,14),(.keep,2),(.free,3),(.keep,7),(.free,8),(.free,9),(.free,11),(.free,12),(.free,15),(.free,16),(.free,17)] [] (Keep G [rB O [iU ((x.key:Nat):Int),iB ((x.typ:Nat):Int),qT x.text,vS I x.mZ.length N] 26]) rfl kR kF (Aw (M.drew _)) ?_;replace M:=M.drew (w.drawn+1);revert a;refine wk ?_;refine k_f (fun a F w _=>Bb Gh.k ⟨_,by rw [Be Cp.k]⟩ (F.ev rfl) (Gn tM tM)) rfl<|wk ?_;refine k_k rfl<|A2 Ov rfl rfl (Jc (u:=x.key) M (by (first | omega | assumption)))<|?_;clear M;rintro _ w M rfl
  refine Ao<|?_
  refine eQ (Aw M)<|k_f (fun a F w _=>Bg (F.ev rfl) (F.ev rfl) (by (first | omega | (simp only [lA,lC,lN];omega)))) rfl<|k_k rfl<|A2 Ov rfl rfl (Jc (u:=x.typ) M (by (first | omega | assumption)))<|?_;clear M;rintro _ w M rfl
  refine Ao<|?_
  refine eQ (Aw M)<|k_f (fun a F w _=>Bg (F.ev rfl) (F.ev rfl) (by (first | omega | (simp only [lA,lC,lN];omega)))) rfl<|k_f (fun a F w _=>Bg (F.ev rfl) (F.ev rfl) (by (first | omega | (simp only [lA,lC,lN];omega)))) rfl<|k_f (fun a F w _=>Bg (F.ev rfl) (F.ev rfl) (by (first | omega | (simp only [lA,lC,lN];omega)))) rfl<|k_f (fun a F w _=>Bg (F.ev rfl) (F.ev rfl) (by (first | omega | (simp only [lA,lC,lN];omega)))) rfl<|k_f (fun a F w _=>Bg (F.ev rfl) (F.ev rfl) (by (first | omega | (simp only [lA,lC,lN];omega)))) rfl<|k_f (fun a F w _=>Bg (F.ev rfl) (F.ev rfl) (by (first | omega | (simp only [lA,lC,lN];omega)))) rfl<|wk ?_;refine Af rfl rfl<|?_
  exact ⟨M.wn dS1,by first | rw [Tg tM] | rw [Aaf (i:=i) tM tM]⟩
 intro h9;refine wk ?_;refine fun a F=>D5 [(.free,0),(.pure,1),(.free,4),(.pure,5),(.free,6),(.free,10),(.free,13),(.pure,14),(.keep,2),(.free,3),(.keep,7),(.free,8),(.free,9),(.free,11),(.free,12),(.free,15),(.free,16),(.free,17)] [] (Keep G [rB O [iU ((x.key:Nat):Int),iB ((x.typ:Nat):Int),qT x.text,vS I x.mZ.length N] 26]) rfl kR kF (Aw (M.drew _)) ?_;replace M:=M.drew (w.drawn+1);revert a;refine wk ?_;refine k_f (fun a F w _=>Bb Gh.k ⟨_,by rw [Be Cp.k]⟩ (F.ev rfl) (Gn tM tM)) rfl<|wk ?_;refine k_k rfl<|A2 Ov rfl rfl (Jc (u:=x.key) M (by (first | omega | assumption)))<|?_;clear M;rintro _ w M rfl
 refine Ao<|?_
 refine eQ (Aw M)<|k_f (fun a F w _=>Bg (F.ev rfl) (F.ev rfl) (by (first | omega | (simp only [lA,lC,lN];omega)))) rfl<|k_k rfl<|A2 Ov rfl rfl (Jc (u:=x.typ) M (by (first | omega | assumption)))<|?_;clear M;rintro _ w M rfl
 refine Ao<|?_
 refine eQ (Aw M)<|k_f (fun a F w _=>Bg (F.ev rfl) (F.ev rfl) (by (first | omega | (simp only [lA,lC,lN];omega)))) rfl<|k_f (fun a F w _=>Bg (F.ev rfl) (F.ev rfl) (by (first | omega | (simp only [lA,lC,lN];omega)))) rfl<|k_f (fun a F w _=>Bg (F.ev rfl) (F.ev rfl) (by (first | omega | (simp only [lA,lC,lN];omega)))) rfl<|k_f (fun a F w _=>Bg (F.ev rfl) (F.ev rfl) (by (first | omega | (simp only [lA,lC,lN];omega)))) rfl<|k_f (fun a F w _=>Bg (F.ev rfl) (F.ev rfl) (by (first | omega | (simp only [lA,lC,lN];omega)))) rfl<|k_f (fun a F w _=>Bg (F.ev rfl) (F.ev rfl) (by (first | omega | (simp only [lA,lC,lN];omega)))) rfl<|wk ?_;refine Af rfl rfl<|?_
 exact ⟨M.wn dS1,by first | rw [Tg tM] | rw [Aaf (i:=i) tM tM]⟩
theorem Aqi (M:Mem w0 G L w) (HG:Globs 0 1 2 3 G) {a1:Option Addr} {c1:Nat} {xs:List ItemD} (S:Aj Bp 4 G (vS a1 xs.length c1) xs) :
  Calls pG 11 #[vS a1 xs.length c1] w (B5 w0 G L fun v=>v=.tuple #[qT (Np xs),iI (K9 xs)]):=by
 have bS:=S.bound;refine Ap (vs:=[_]) Tryz.func11 rfl (n:=28) rfl rfl<|wk ?_;refine qD rfl ?_ ?_
 ·intro h1;refine wk ?_;refine Co rfl rfl rfl<|?_
  exact ⟨M,by rw [(Kj tM).1,(Kj tM).2];rfl⟩
 intro h2;refine wk ?_;refine B0 M Ss rfl rfl<|?_;clear M;intro b3 w M
 refine wk ?_;replace M:=z_M M;have M:=(M.nilrow 5 1).perm (List.Perm.swap _ _ _);intro a F;rw [show ([]:List Value)=bc [] from rfl] at M;revert a;refine wk ?_;refine fun a F=>Bd (fun m a' w'=>∃ (i:Nat),∃ (am:Option Addr),∃ (nm:Nat),∃ (cm:Nat),∃ (pm:Value),m=xs.length - i∧Fits 28 a' [(0,vS a1 xs.length c1),(4,pP b3),(11,vS a1 xs.length c1),(12,iI ((xs.length:Nat):Int)),(13,iI ((i:Nat):Int))]∧Mem w0 G (rB b3 [pm,vS am nm cm] 101::rR (vS am nm cm) (nm) (bc (Ce (xs.take i))) 5 1::L) w'∧(i≤xs.length)∧((Ce (xs.take i)).length≤301 * i)∧(∀ (m:Nat) (x:ItemD),m < i→xs[m]?=some x→ItemOk 8 x)∧(pm=vP none∨pm=pP b3)∧(nm=(Ce (xs.take i)).length)∧((Ce (xs.take i))=[]→am=none)) _ ⟨0,(none),(0),(0),(vP none),rfl,fU,M,Nat.zero_le _,by simp [Ce],fun m x h=>by omega,(Or.inl rfl),rfl,(fun _=>rfl)⟩ ?_;clear F M;rintro m a w ⟨i,am,nm,cm,pm,rfl,F,M,hi,al,hA,ak,ab,H⟩;revert a;refine wk ?_;refine qD rfl ?_ ?_
 ·intro h5;refine wk ?_;obtain ⟨Xe6,A⟩:=Aq (xs:=xs) (i:=i) tM;obtain ⟨au,ax,_,ar,_,aq,Y⟩:=S.at A;obtain ⟨ao,ap,rfl,aa,ae,ag,an,O⟩:=Y;have E:(Xe6.key < 18446744073709551616∧Xe6.typ < 256∧Xe6.text.length≤9223372036854775807):=⟨aa,ae,ag⟩;refine wk ?_;refine B0 M Bc rfl rfl<|?_;clear M;intro b7 w M
  intro a F;refine Bf F M Bc 0<|sZ ?_;clear F M a;intro w M;refine wk ?_;refine A2 Ahx rfl rfl (K2 (x:=Xe6) (t:=8) M E O)<|?_;clear M;rintro _ w M rfl
  refine wk ?_;refine Ag rfl ?_ ?_
  ·intro aj;have h9:=dF (Ad aj);refine wk ?_;refine Co rfl rfl rfl<|?_
   exact ⟨(M.wn tW),by rw [(Ma tM (Ih.no A (fun h_=>by have:=Dc h_;omega))).1,(Ma tM (Ih.no A (fun h_=>by have:=Dc h_;omega))).2,E1 (fun h_=>by have:=Dc h_;omega)];rfl⟩
  intro V;have av:=dT (Ae V);refine D8<|Gd<|?_
  have N:ItemOk 8 Xe6:=De.1 tM;refine wk ?_;refine A2 A0h rfl rfl (Tf (x:=Xe6) M HG E O N)<|?_;clear M;rintro _ w M rfl
  have ai:=Kr (x:=Xe6) N E.1 E.2.1;refine Ak (fun a F=>Bg (F.ev rfl) (F.ev rfl) (by (first | omega | (simp only [lA,lC,lN];omega)))) rfl<|?_
  replace M:=M.perm (Ah _ 2 _ rfl);replace M:=M.perm (Ah _ 2 _ rfl);replace M:=z_M M;refine Sy App rfl rfl (O5 (s:=((Cx Xe6)++([10]:List UInt8))) ak M ab H (by (first | omega | (simp only [lA,lC,lN];omega))))<|?_;clear M;rintro _ _ w M ⟨rfl,T,ah,U,rfl,I,D⟩
  refine wk ?_;have ac:(Ce (xs.take i))++((Cx Xe6)++([10]:List UInt8))=Ce (xs.take (i+1)):=by rw [Qh A]
  intro a F;rw [ac] at M I D
  exact ⟨_,tM,i+1,(T),(ah),(U),(pP b3),rfl,fU,(M.wn tW),tM,by rw [← ac];simp only [lA,lC,lN];omega,D9 hA A N,(Or.inr rfl),I,D⟩
 intro aw;refine wk ?_;replace M:=M.perm (Ah _ 1 _ rfl);replace M:=M.perm (Ah _ 1 _ rfl);replace M:=z_M M;refine A2 ent43 rfl rfl (Abc M ab H)<|?_;clear M;rintro _ w M rfl
 refine wk ?_;refine Co rfl rfl rfl<|?_
 exact ⟨M,by rw [(Mt tM (E3 hA tM)).1,(Mt tM (E3 hA tM)).2,List.take_of_length_le tM]⟩
theorem Aul (M:Mem w0 G L w) (HG:Globs 0 1 2 3 G) {s:List UInt8} (hs:s.length≤1048577):Calls pG 45 #[qT s] w (Ret w0 G L fun G' v=>∃ (x:ItemD) (ma:Option Addr) (mc:Nat) (b:Bool),v=.tuple #[.agg #[iU ((x.key:Nat):Int),iB ((x.typ:Nat):Int),qT x.text,vS ma x.mZ.length mc],vB b]∧(x.key < 18446744073709551616∧x.typ < 256∧x.text.length≤9223372036854775807)∧Aj Cr 1 G' (vS ma x.mZ.length mc) x.mZ∧(b=true→Rd8 s x)∧(b=false→∀ y,¬ Rd8 s y)):=by
 refine Ap (vs:=[_]) Tryz.func45 rfl (n:=72) rfl rfl<|?_
 refine Bt<|?_
 refine B0 M Bc rfl rfl<|?_;clear M;intro b1 w M
 refine wk ?_;refine A2 X6 rfl rfl (Oy (s:=s) (sep:=([32]:List UInt8)) M HG tM)<|?_;clear M;rintro _ w M rfl
 have az:=E8 32 s;refine wk ?_;refine A2 X6 rfl rfl (Oy (s:=(xC s [32]).2.1) (sep:=([32]:List UInt8)) M HG tM)<|?_;clear M;rintro _ w M rfl
 have a0:=E8 32 ((xC s [32]).2.1);refine wk ?_;refine A2 X6 rfl rfl (Oy (s:=(xC ((xC s [32]).2.1) [32]).2.1) (sep:=([32]:List UInt8)) M HG tM)<|?_;clear M;rintro _ w M rfl
 have a1:=E8 32 ((xC ((xC s [32]).2.1) [32]).2.1);refine wk ?_;refine A2 A1k rfl rfl (Arm (s:=(xC s [32]).1) M HG tM)<|?_;clear M;rintro _ w M ⟨D,U,rfl,aq,O⟩
 have a2:=O.1;refine wk ?_;refine A2 A1k rfl rfl (Axj (s:=(xC ((xC s [32]).2.1) [32]).1) M HG tM)<|?_;clear M;rintro _ w M ⟨E,V,rfl,ar,S⟩
 have a3:=S.1;refine wk ?_;refine Ak (fun a F=>Bb Cp.k ⟨_,by rw [Be Gh.k]⟩ (F.ev rfl) (Ho tM tM)) rfl<|?_
 refine Cd rfl<|?_
 refine Ak (fun a F=>Am (cs:=[iU ((D:Nat):Int),iB ((E:Nat):Int),qT ((xC ((xC ((xC s [32]).2.1) [32]).2.1) ([32]:List UInt8)).2.1),sN]) Bc.k rfl Bc (F.evp rfl) rfl) rfl<|fun a F=>?_
 refine Bf F M Bc 0 ?_;clear F M a;intro w a M F;revert a;refine Ca<|Bt<|Cd rfl<|s_sne rfl rfl<|Ao<|Gd<|?_
 refine Ag rfl ?_ ?_
 ·intro aw;have h8:=dF (Ad aw);have aI:(decide (((xC ((xC ((xC s [32]).2.1) [32]).2.1) ([32]:List UInt8)).1)=([45]:List UInt8)))=false:=(Ad aw);refine Hg<|Cd rfl<|?_
  refine C3 A1j rfl rfl (Ajm (s:=(xC ((xC ((xC s [32]).2.1) [32]).2.1) ([32]:List UInt8)).1) M HG tM)<|?_;clear M;rintro _ ai w ac M ⟨Y,rfl,ah⟩
  replace HG:=HG.mono ac;refine Io Bc.k rfl rfl<|?_
  refine D0 Dx M 0 rfl rfl rfl rfl rfl rfl<|?_;clear M;intro w M
  refine Ca<|?_
  have H:((⟨D,E,(xC ((xC ((xC s [32]).2.1) [32]).2.1) ([32]:List UInt8)).2.1,Cg ((xC ((xC ((xC s [32]).2.1) [32]).2.1) ([32]:List UInt8)).1)⟩:ItemD).key < 18446744073709551616∧(⟨D,E,(xC ((xC ((xC s [32]).2.1) [32]).2.1) ([32]:List UInt8)).2.1,Cg ((xC ((xC ((xC s [32]).2.1) [32]).2.1) ([32]:List UInt8)).1)⟩:ItemD).typ < 256∧(⟨D,E,(xC ((xC ((xC s [32]).2.1) [32]).2.1) ([32]:List UInt8)).2.1,Cg ((xC ((xC ((xC s [32]).2.1) [32]).2.1) ([32]:List UInt8)).1)⟩:ItemD).text.length≤9223372036854775807):=⟨by show D < _;omega,by show E < _;omega,by show ((xC ((xC ((xC s [32]).2.1) [32]).2.1) ([32]:List UInt8)).2.1).length≤_;omega⟩;intro a F;refine D5 [(.pure,0),(.free,1),(.free,2),(.free,3),(.free,4),(.free,5),(.free,6),(.free,7),(.pure,8),(.keep,9),(.free,10),(.free,11),(.free,12),(.pure,13),(.free,15),(.keep,14),(.free,16),(.free,17),(.chg,18),(.free,19)] [18] (Keep ai [rB b1 [iU ((D:Nat):Int),iB ((E:Nat):Int),qT ((xC ((xC ((xC s [32]).2.1) [32]).2.1) ([32]:List UInt8)).2.1),vS Y ((Cg ((xC ((xC ((xC s [32]).2.1) [32]).2.1) ([32]:List UInt8)).1)).length) ((Cg ((xC ((xC ((xC s [32]).2.1) [32]).2.1) ([32]:List UInt8)).1)).length)] 26]) rfl kR kF (Aw (M.drew _)) ?_;replace M:=M.drew (w.drawn+1);revert a;refine wk ?_;refine k_f (fun a F w _=>M0 Sr.k aq (F.ev rfl) rfl) rfl<|wk ?_
  rcases bE (Dw U) with an | ae
  ·skip
   have a5:(Dw U)=true:=an;refine wk ?_;refine Nu rfl an (fun a F w _=>M0 Sr.k ar (F.ev rfl) rfl)<|wk ?_
   rcases bE (Dw V) with aj | aa
   ·skip
    have a6:(Dw V)=true:=aj;refine wk ?_;refine fun a F=>Gj F rfl rfl aj ?_;revert a;refine g_t rfl aj<|?_
    refine A2 Ahx rfl rfl (K2 (x:=(⟨D,E,(xC ((xC ((xC s [32]).2.1) [32]).2.1) ([32]:List UInt8)).2.1,Cg ((xC ((xC ((xC s [32]).2.1) [32]).2.1) ([32]:List UInt8)).1)⟩:ItemD)) (t:=8) M H ah)<|?_;clear M;rintro _ w M rfl
    refine Ao<|?_
    refine eQ (Aw M)<|wk ?_
    rcases bE (decide (Hi 8 ((⟨D,E,(xC ((xC ((xC s [32]).2.1) [32]).2.1) ([32]:List UInt8)).2.1,Cg ((xC ((xC ((xC s [32]).2.1) [32]).2.1) ([32]:List UInt8)).1)⟩:ItemD))=0)) with ak | au
    ·skip
     have a7:=dT ak;refine wk ?_;refine fun a F=>Gj F rfl rfl ak ?_;revert a;refine g_t rfl ak<|?_
     refine A2 A0h rfl rfl (Tf (x:=(⟨D,E,(xC ((xC ((xC s [32]).2.1) [32]).2.1) ([32]:List UInt8)).2.1,Cg ((xC ((xC ((xC s [32]).2.1) [32]).2.1) ([32]:List UInt8)).1)⟩:ItemD)) M HG H ah (De.1 tA))<|?_;clear M;rintro _ w M rfl
     have ax:=Kr (x:=(⟨D,E,(xC ((xC ((xC s [32]).2.1) [32]).2.1) ([32]:List UInt8)).2.1,Cg ((xC ((xC ((xC s [32]).2.1) [32]).2.1) ([32]:List UInt8)).1)⟩:ItemD)) (De.1 tA) H.1 H.2.1;refine Ao<|?_
     refine eQ (Aw M)<|wk ?_;refine k_c rfl<|fun a F=>?_
     refine Bf F M Bc 0 ?_;clear F M a;intro w a M F;revert a;refine Ao<|?_
     refine fun a F=>⟨Keep ai [rB b1 [iU ((D:Nat):Int),iB ((E:Nat):Int),qT ((xC ((xC ((xC s [32]).2.1) [32]).2.1) ([32]:List UInt8)).2.1),vS Y ((Cg ((xC ((xC ((xC s [32]).2.1) [32]).2.1) ([32]:List UInt8)).1)).length) ((Cg ((xC ((xC ((xC s [32]).2.1) [32]).2.1) ([32]:List UInt8)).1)).length)] 26],M.keep (Gle.refl _) (by simp),?_⟩;revert a;refine wk ?_;refine fun a F=>B1 F M (k:=0) rfl rfl Bc rfl rfl rfl rfl ?_;refine ⟨_,ac,M.wn dS1,(⟨D,E,(xC ((xC ((xC s [32]).2.1) [32]).2.1) ([32]:List UInt8)).2.1,Cg ((xC ((xC ((xC s [32]).2.1) [32]).2.1) ([32]:List UInt8)).1)⟩:ItemD),Y,(Cg ((xC ((xC ((xC s [32]).2.1) [32]).2.1) ([32]:List UInt8)).1)).length,(decide ((Cx ((⟨D,E,(xC ((xC ((xC s [32]).2.1) [32]).2.1) ([32]:List UInt8)).2.1,Cg ((xC ((xC ((xC s [32]).2.1) [32]).2.1) ([32]:List UInt8)).1)⟩:ItemD)))=s)),rfl,H,ah,?_,?_⟩
     ·intro A;first | (cases A;done) | exact ⟨De.1 tA,H.1,dT A⟩
     intro A y T;obtain ⟨q1,q2,N⟩:=Ib T O tM S;unfold Kq at N;first | rw [if_neg tA] at N | rw [if_pos tA] at N
     first | exact absurd (show true=false from q1.symm.trans tA) tD | exact absurd (show true=false from q2.symm.trans tA) tD | exact absurd (show Hi 8 (⟨D,E,(xC ((xC ((xC s [32]).2.1) [32]).2.1) ([32]:List UInt8)).2.1,Cg ((xC ((xC ((xC s [32]).2.1) [32]).2.1) ([32]:List UInt8)).1)⟩:ItemD)=0 by rw [N];exact Dc T.1) tA | exact absurd (show Cx (⟨D,E,(xC ((xC ((xC s [32]).2.1) [32]).2.1) ([32]:List UInt8)).2.1,Cg ((xC ((xC ((xC s [32]).2.1) [32]).2.1) ([32]:List UInt8)).1)⟩:ItemD)=s by rw [N];exact T.2.2) (dF A)
    have a8:=dF au;refine wk ?_;refine k_c rfl<|fun a F=>?_
    refine Bf F M Bc 0 ?_;clear F M a;intro w a M F;revert a;refine Ao<|?_
    refine fun a F=>⟨Keep ai [rB b1 [iU ((D:Nat):Int),iB ((E:Nat):Int),qT ((xC ((xC ((xC s [32]).2.1) [32]).2.1) ([32]:List UInt8)).2.1),vS Y ((Cg ((xC ((xC ((xC s [32]).2.1) [32]).2.1) ([32]:List UInt8)).1)).length) ((Cg ((xC ((xC ((xC s [32]).2.1) [32]).2.1) ([32]:List UInt8)).1)).length)] 26],M.keep (Gle.refl _) (by simp),?_⟩;revert a;refine wk ?_;refine fun a F=>B1 F M (k:=0) rfl rfl Bc rfl rfl rfl rfl ?_;refine ⟨_,ac,M.wn dS1,(⟨D,E,(xC ((xC ((xC s [32]).2.1) [32]).2.1) ([32]:List UInt8)).2.1,Cg ((xC ((xC ((xC s [32]).2.1) [32]).2.1) ([32]:List UInt8)).1)⟩:ItemD),Y,(Cg ((xC ((xC ((xC s [32]).2.1) [32]).2.1) ([32]:List UInt8)).1)).length,false,rfl,H,ah,?_,?_⟩
    ·intro A;first | (cases A;done) | exact ⟨De.1 tA,H.1,dT A⟩
    intro A y T;obtain ⟨q1,q2,N⟩:=Ib T O tM S;unfold Kq at N;first | rw [if_neg tA] at N | rw [if_pos tA] at N
    first | exact absurd (show true=false from q1.symm.trans tA) tD | exact absurd (show true=false from q2.symm.trans tA) tD | exact absurd (show Hi 8 (⟨D,E,(xC ((xC ((xC s [32]).2.1) [32]).2.1) ([32]:List UInt8)).2.1,Cg ((xC ((xC ((xC s [32]).2.1) [32]).2.1) ([32]:List UInt8)).1)⟩:ItemD)=0 by rw [N];exact Dc T.1) tA | exact absurd (show Cx (⟨D,E,(xC ((xC ((xC s [32]).2.1) [32]).2.1) ([32]:List UInt8)).2.1,Cg ((xC ((xC ((xC s [32]).2.1) [32]).2.1) ([32]:List UInt8)).1)⟩:ItemD)=s by rw [N];exact T.2.2) (dF A)
   have a9:(Dw V)=false:=aa;refine k_s rfl aa<|k_s rfl aa<|k_s rfl aa<|k_f (fun a F w _=>Yp F rfl aa rfl) rfl<|fMv rfl<|k_s rfl rfl<|k_s rfl rfl<|k_s rfl rfl<|k_s rfl rfl<|k_f (fun a F w _=>Yp F rfl rfl rfl) rfl<|?_
   refine k_c rfl<|fun a F=>?_
   refine Bf F M Bc 0 ?_;clear F M a;intro w a M F;revert a;refine Ao<|?_
   refine fun a F=>⟨Keep ai [rB b1 [iU ((D:Nat):Int),iB ((E:Nat):Int),qT ((xC ((xC ((xC s [32]).2.1) [32]).2.1) ([32]:List UInt8)).2.1),vS Y ((Cg ((xC ((xC ((xC s [32]).2.1) [32]).2.1) ([32]:List UInt8)).1)).length) ((Cg ((xC ((xC ((xC s [32]).2.1) [32]).2.1) ([32]:List UInt8)).1)).length)] 26],M.keep (Gle.refl _) (by simp),?_⟩;revert a;refine wk ?_;refine fun a F=>B1 F M (k:=0) rfl rfl Bc rfl rfl rfl rfl ?_;refine ⟨_,ac,M.wn dS1,(⟨D,E,(xC ((xC ((xC s [32]).2.1) [32]).2.1) ([32]:List UInt8)).2.1,Cg ((xC ((xC ((xC s [32]).2.1) [32]).2.1) ([32]:List UInt8)).1)⟩:ItemD),Y,(Cg ((xC ((xC ((xC s [32]).2.1) [32]).2.1) ([32]:List UInt8)).1)).length,false,rfl,H,ah,?_,?_⟩
   ·intro A;first | (cases A;done) | exact ⟨De.1 tA,H.1,dT A⟩
   intro A y T;obtain ⟨q1,q2,N⟩:=Ib T O tM S;unfold Kq at N;first | rw [if_neg tA] at N | rw [if_pos tA] at N
   first | exact absurd (show true=false from q1.symm.trans tA) tD | exact absurd (show true=false from q2.symm.trans tA) tD | exact absurd (show Hi 8 (⟨D,E,(xC ((xC ((xC s [32]).2.1) [32]).2.1) ([32]:List UInt8)).2.1,Cg ((xC ((xC ((xC s [32]).2.1) [32]).2.1) ([32]:List UInt8)).1)⟩:ItemD)=0 by rw [N];exact Dc T.1) tA | exact absurd (show Cx (⟨D,E,(xC ((xC ((xC s [32]).2.1) [32]).2.1) ([32]:List UInt8)).2.1,Cg ((xC ((xC ((xC s [32]).2.1) [32]).2.1) ([32]:List UInt8)).1)⟩:ItemD)=s by rw [N];exact T.2.2) (dF A)
  have aA:(Dw U)=false:=ae;refine k_s rfl ae<|k_s rfl ae<|k_f (fun a F w _=>Yp F rfl ae rfl) rfl<|fMv rfl<|k_s rfl rfl<|k_s rfl rfl<|k_s rfl rfl<|k_f (fun a F w _=>Yp F rfl rfl rfl) rfl<|fMv rfl<|k_s rfl rfl<|k_s rfl rfl<|k_s rfl rfl<|k_s rfl rfl<|k_f (fun a F w _=>Yp F rfl rfl rfl) rfl<|?_
  refine k_c rfl<|fun a F=>?_
  refine Bf F M Bc 0 ?_;clear F M a;intro w a M F;revert a;refine Ao<|?_
  refine fun a F=>⟨Keep ai [rB b1 [iU ((D:Nat):Int),iB ((E:Nat):Int),qT ((xC ((xC ((xC s [32]).2.1) [32]).2.1) ([32]:List UInt8)).2.1),vS Y ((Cg ((xC ((xC ((xC s [32]).2.1) [32]).2.1) ([32]:List UInt8)).1)).length) ((Cg ((xC ((xC ((xC s [32]).2.1) [32]).2.1) ([32]:List UInt8)).1)).length)] 26],M.keep (Gle.refl _) (by simp),?_⟩;revert a;refine wk ?_;refine fun a F=>B1 F M (k:=0) rfl rfl Bc rfl rfl rfl rfl ?_;refine ⟨_,ac,M.wn dS1,(⟨D,E,(xC ((xC ((xC s [32]).2.1) [32]).2.1) ([32]:List UInt8)).2.1,Cg ((xC ((xC ((xC s [32]).2.1) [32]).2.1) ([32]:List UInt8)).1)⟩:ItemD),Y,(Cg ((xC ((xC ((xC s [32]).2.1) [32]).2.1) ([32]:List UInt8)).1)).length,false,rfl,H,ah,?_,?_⟩
  ·intro A;first | (cases A;done) | exact ⟨De.1 tA,H.1,dT A⟩
  intro A y T;obtain ⟨q1,q2,N⟩:=Ib T O tM S;unfold Kq at N;first | rw [if_neg tA] at N | rw [if_pos tA] at N
  first | exact absurd (show true=false from q1.symm.trans tA) tD | exact absurd (show true=false from q2.symm.trans tA) tD | exact absurd (show Hi 8 (⟨D,E,(xC ((xC ((xC s [32]).2.1) [32]).2.1) ([32]:List UInt8)).2.1,Cg ((xC ((xC ((xC s [32]).2.1) [32]).2.1) ([32]:List UInt8)).1)⟩:ItemD)=0 by rw [N];exact Dc T.1) tA | exact absurd (show Cx (⟨D,E,(xC ((xC ((xC s [32]).2.1) [32]).2.1) ([32]:List UInt8)).2.1,Cg ((xC ((xC ((xC s [32]).2.1) [32]).2.1) ([32]:List UInt8)).1)⟩:ItemD)=s by rw [N];exact T.2.2) (dF A)
 intro ao;have aB:=dT (Ae ao);have a4:(decide (((xC ((xC ((xC s [32]).2.1) [32]).2.1) ([32]:List UInt8)).1)=([45]:List UInt8)))=true:=(Ae ao);refine wk ?_;have I:((⟨D,E,(xC ((xC ((xC s [32]).2.1) [32]).2.1) ([32]:List UInt8)).2.1,([]:List (List UInt8))⟩:ItemD).key < 18446744073709551616∧(⟨D,E,(xC ((xC ((xC s [32]).2.1) [32]).2.1) ([32]:List UInt8)).2.1,([]:List (List UInt8))⟩:ItemD).typ < 256∧(⟨D,E,(xC ((xC ((xC s [32]).2.1) [32]).2.1) ([32]:List UInt8)).2.1,([]:List (List UInt8))⟩:ItemD).text.length≤9223372036854775807):=⟨by show D < _;omega,by show E < _;omega,by show ((xC ((xC ((xC s [32]).2.1) [32]).2.1) ([32]:List UInt8)).2.1).length≤_;omega⟩;intro a F;refine D5 [(.pure,0),(.free,1),(.free,2),(.free,3),(.free,4),(.free,5),(.free,6),(.free,7),(.pure,8),(.keep,9),(.free,10),(.free,11),(.free,12),(.pure,13),(.free,15),(.keep,14),(.free,16),(.free,17),(.chg,18),(.free,19)] [18] (Keep G [rB b1 [iU ((D:Nat):Int),iB ((E:Nat):Int),qT ((xC ((xC ((xC s [32]).2.1) [32]).2.1) ([32]:List UInt8)).2.1),sN] 26]) rfl kR kF (Aw (M.drew _)) ?_;replace M:=M.drew (w.drawn+1);revert a;refine wk ?_;refine k_f (fun a F w _=>M0 Sr.k aq (F.ev rfl) rfl) rfl<|wk ?_
 rcases bE (Dw U) with ap | ag
 ·skip
  have aC:(Dw U)=true:=ap;refine wk ?_;refine Nu rfl ap (fun a F w _=>M0 Sr.k ar (F.ev rfl) rfl)<|wk ?_
  rcases bE (Dw V) with al | ab
  ·skip
   have aD:(Dw V)=true:=al;refine wk ?_;refine fun a F=>Gj F rfl rfl al ?_;revert a;refine g_t rfl al<|?_
   refine A2 Ahx rfl rfl (K2 (x:=(⟨D,E,(xC ((xC ((xC s [32]).2.1) [32]).2.1) ([32]:List UInt8)).2.1,([]:List (List UInt8))⟩:ItemD)) (t:=8) M I Aj.nil)<|?_;clear M;rintro _ w M rfl
   refine Ao<|?_
   refine eQ (Aw M)<|wk ?_
   rcases bE (decide (Hi 8 ((⟨D,E,(xC ((xC ((xC s [32]).2.1) [32]).2.1) ([32]:List UInt8)).2.1,([]:List (List UInt8))⟩:ItemD))=0)) with am | av
   ·skip
    have aE:=dT am;refine wk ?_;refine fun a F=>Gj F rfl rfl am ?_;revert a;refine g_t rfl am<|?_
    refine A2 A0h rfl rfl (Tf (x:=(⟨D,E,(xC ((xC ((xC s [32]).2.1) [32]).2.1) ([32]:List UInt8)).2.1,([]:List (List UInt8))⟩:ItemD)) M HG I Aj.nil (De.1 tA))<|?_;clear M;rintro _ w M rfl
    have ay:=Kr (x:=(⟨D,E,(xC ((xC ((xC s [32]).2.1) [32]).2.1) ([32]:List UInt8)).2.1,([]:List (List UInt8))⟩:ItemD)) (De.1 tA) I.1 I.2.1;refine Ao<|?_
    refine eQ (Aw M)<|wk ?_;refine k_c rfl<|fun a F=>?_
    refine Bf F M Bc 0 ?_;clear F M a;intro w a M F;revert a;refine Ao<|?_
    refine fun a F=>⟨Keep G [rB b1 [iU ((D:Nat):Int),iB ((E:Nat):Int),qT ((xC ((xC ((xC s [32]).2.1) [32]).2.1) ([32]:List UInt8)).2.1),sN] 26],M.keep (Gle.refl _) (by simp),?_⟩;revert a;refine wk ?_;refine fun a F=>B1 F M (k:=0) rfl rfl Bc rfl rfl rfl rfl ?_;refine ⟨_,(Gle.refl _),M.wn dS1,(⟨D,E,(xC ((xC ((xC s [32]).2.1) [32]).2.1) ([32]:List UInt8)).2.1,([]:List (List UInt8))⟩:ItemD),none,0,(decide ((Cx ((⟨D,E,(xC ((xC ((xC s [32]).2.1) [32]).2.1) ([32]:List UInt8)).2.1,([]:List (List UInt8))⟩:ItemD)))=s)),rfl,I,Aj.nil,?_,?_⟩
    ·intro A;first | (cases A;done) | exact ⟨De.1 tA,I.1,dT A⟩
    intro A y T;obtain ⟨q1,q2,N⟩:=Ib T O tM S;unfold Kq at N;first | rw [if_neg tA] at N | rw [if_pos tA] at N
    first | exact absurd (show true=false from q1.symm.trans tA) tD | exact absurd (show true=false from q2.symm.trans tA) tD | exact absurd (show Hi 8 (⟨D,E,(xC ((xC ((xC s [32]).2.1) [32]).2.1) ([32]:List UInt8)).2.1,([]:List (List UInt8))⟩:ItemD)=0 by rw [N];exact Dc T.1) tA | exact absurd (show Cx (⟨D,E,(xC ((xC ((xC s [32]).2.1) [32]).2.1) ([32]:List UInt8)).2.1,([]:List (List UInt8))⟩:ItemD)=s by rw [N];exact T.2.2) (dF A)
   have aF:=dF av;refine wk ?_;refine k_c rfl<|fun a F=>?_
   refine Bf F M Bc 0 ?_;clear F M a;intro w a M F;revert a;refine Ao<|?_
   refine fun a F=>⟨Keep G [rB b1 [iU ((D:Nat):Int),iB ((E:Nat):Int),qT ((xC ((xC ((xC s [32]).2.1) [32]).2.1) ([32]:List UInt8)).2.1),sN] 26],M.keep (Gle.refl _) (by simp),?_⟩;revert a;refine wk ?_;refine fun a F=>B1 F M (k:=0) rfl rfl Bc rfl rfl rfl rfl ?_;refine ⟨_,(Gle.refl _),M.wn dS1,(⟨D,E,(xC ((xC ((xC s [32]).2.1) [32]).2.1) ([32]:List UInt8)).2.1,([]:List (List UInt8))⟩:ItemD),none,0,false,rfl,I,Aj.nil,?_,?_⟩
   ·intro A;first | (cases A;done) | exact ⟨De.1 tA,I.1,dT A⟩
   intro A y T;obtain ⟨q1,q2,N⟩:=Ib T O tM S;unfold Kq at N;first | rw [if_neg tA] at N | rw [if_pos tA] at N
   first | exact absurd (show true=false from q1.symm.trans tA) tD | exact absurd (show true=false from q2.symm.trans tA) tD | exact absurd (show Hi 8 (⟨D,E,(xC ((xC ((xC s [32]).2.1) [32]).2.1) ([32]:List UInt8)).2.1,([]:List (List UInt8))⟩:ItemD)=0 by rw [N];exact Dc T.1) tA | exact absurd (show Cx (⟨D,E,(xC ((xC ((xC s [32]).2.1) [32]).2.1) ([32]:List UInt8)).2.1,([]:List (List UInt8))⟩:ItemD)=s by rw [N];exact T.2.2) (dF A)
  have aG:(Dw V)=false:=ab;refine k_s rfl ab<|k_s rfl ab<|k_s rfl ab<|k_f (fun a F w _=>Yp F rfl ab rfl) rfl<|fMv rfl<|k_s rfl rfl<|k_s rfl rfl<|k_s rfl rfl<|k_s rfl rfl<|k_f (fun a F w _=>Yp F rfl rfl rfl) rfl<|?_
  refine k_c rfl<|fun a F=>?_
  refine Bf F M Bc 0 ?_;clear F M a;intro w a M F;revert a;refine Ao<|?_
  refine fun a F=>⟨Keep G [rB b1 [iU ((D:Nat):Int),iB ((E:Nat):Int),qT ((xC ((xC ((xC s [32]).2.1) [32]).2.1) ([32]:List UInt8)).2.1),sN] 26],M.keep (Gle.refl _) (by simp),?_⟩;revert a;refine wk ?_;refine fun a F=>B1 F M (k:=0) rfl rfl Bc rfl rfl rfl rfl ?_;refine ⟨_,(Gle.refl _),M.wn dS1,(⟨D,E,(xC ((xC ((xC s [32]).2.1) [32]).2.1) ([32]:List UInt8)).2.1,([]:List (List UInt8))⟩:ItemD),none,0,false,rfl,I,Aj.nil,?_,?_⟩
  ·intro A;first | (cases A;done) | exact ⟨De.1 tA,I.1,dT A⟩
  intro A y T;obtain ⟨q1,q2,N⟩:=Ib T O tM S;unfold Kq at N;first | rw [if_neg tA] at N | rw [if_pos tA] at N
  first | exact absurd (show true=false from q1.symm.trans tA) tD | exact absurd (show true=false from q2.symm.trans tA) tD | exact absurd (show Hi 8 (⟨D,E,(xC ((xC ((xC s [32]).2.1) [32]).2.1) ([32]:List UInt8)).2.1,([]:List (List UInt8))⟩:ItemD)=0 by rw [N];exact Dc T.1) tA | exact absurd (show Cx (⟨D,E,(xC ((xC ((xC s [32]).2.1) [32]).2.1) ([32]:List UInt8)).2.1,([]:List (List UInt8))⟩:ItemD)=s by rw [N];exact T.2.2) (dF A)
 have aH:(Dw U)=false:=ag;refine k_s rfl ag<|k_s rfl ag<|k_f (fun a F w _=>Yp F rfl ag rfl) rfl<|fMv rfl<|k_s rfl rfl<|k_s rfl rfl<|k_s rfl rfl<|k_f (fun a F w _=>Yp F rfl rfl rfl) rfl<|fMv rfl<|k_s rfl rfl<|k_s rfl rfl<|k_s rfl rfl<|k_s rfl rfl<|k_f (fun a F w _=>Yp F rfl rfl rfl) rfl<|?_
 refine k_c rfl<|fun a F=>?_
 refine Bf F M Bc 0 ?_;clear F M a;intro w a M F;revert a;refine Ao<|?_
 refine fun a F=>⟨Keep G [rB b1 [iU ((D:Nat):Int),iB ((E:Nat):Int),qT ((xC ((xC ((xC s [32]).2.1) [32]).2.1) ([32]:List UInt8)).2.1),sN] 26],M.keep (Gle.refl _) (by simp),?_⟩;revert a;refine wk ?_;refine fun a F=>B1 F M (k:=0) rfl rfl Bc rfl rfl rfl rfl ?_;refine ⟨_,(Gle.refl _),M.wn dS1,(⟨D,E,(xC ((xC ((xC s [32]).2.1) [32]).2.1) ([32]:List UInt8)).2.1,([]:List (List UInt8))⟩:ItemD),none,0,false,rfl,I,Aj.nil,?_,?_⟩
 ·intro A;first | (cases A;done) | exact ⟨De.1 tA,I.1,dT A⟩
 intro A y T;obtain ⟨q1,q2,N⟩:=Ib T O tM S;unfold Kq at N;first | rw [if_neg tA] at N | rw [if_pos tA] at N
 first | exact absurd (show true=false from q1.symm.trans tA) tD | exact absurd (show true=false from q2.symm.trans tA) tD | exact absurd (show Hi 8 (⟨D,E,(xC ((xC ((xC s [32]).2.1) [32]).2.1) ([32]:List UInt8)).2.1,([]:List (List UInt8))⟩:ItemD)=0 by rw [N];exact Dc T.1) tA | exact absurd (show Cx (⟨D,E,(xC ((xC ((xC s [32]).2.1) [32]).2.1) ([32]:List UInt8)).2.1,([]:List (List UInt8))⟩:ItemD)=s by rw [N];exact T.2.2) (dF A)
theorem A1u {c:UInt8} {s:List UInt8} (h:(xC s [c]).2.2=true):(xC s [c]).2.1.length < s.length:=by
 rw [Ni] at h ⊢
 split
 ·rename_i A;simp only [lD];omega
 rename_i A;rw [if_neg A] at h;cases h
theorem Zx (M:Mem w0 G L w) {s:List UInt8} (hs:s.length≤1048578):Calls pG 90 #[qT s] w (Ret w0 G L fun G' v=>∃ (x:ItemD) (ma:Option Addr) (mc:Nat) (b:Bool),v=.tuple #[.agg #[iU ((x.key:Nat):Int),iB ((x.typ:Nat):Int),qT x.text,vS ma x.mZ.length mc],iI (if b=true then 1 else 0)]∧(x.key < 18446744073709551616∧x.typ < 256∧x.text.length≤9223372036854775807)∧Aj Cr 1 G' (vS ma x.mZ.length mc) x.mZ∧(b=true→U0 s x)∧(b=false→∀ y,¬ U0 s y)):=by
 refine Ap (vs:=[_]) Tryz.func90 rfl (n:=106) rfl rfl<|?_
 refine Bt<|?_
 refine B0 M Bc rfl rfl<|?_;clear M;intro b1 w M
 refine wk ?_;refine A2 Qd rfl rfl (Gz (s:=s) (c:=(32:UInt8)) M tM)<|?_;clear M;rintro _ w M rfl
 have aN:=E8 (32:UInt8) s;refine wk ?_;refine A2 Qd rfl rfl (Gz (s:=(xC s [(32:UInt8)]).2.1) (c:=(32:UInt8)) M tM)<|?_;clear M;rintro _ w M rfl
 have aO:=E8 (32:UInt8) ((xC s [(32:UInt8)]).2.1);refine wk ?_;refine A2 Qd rfl rfl (Gz (s:=(xC ((xC s [(32:UInt8)]).2.1) [(32:UInt8)]).2.1) (c:=(32:UInt8)) M tM)<|?_;clear M;rintro _ w M rfl
 have aP:=E8 (32:UInt8) ((xC ((xC s [(32:UInt8)]).2.1) [(32:UInt8)]).2.1);refine wk ?_;refine A2 Qd rfl rfl (Gz (s:=(xC ((xC ((xC s [(32:UInt8)]).2.1) [(32:UInt8)]).2.1) [(32:UInt8)]).2.1) (c:=(10:UInt8)) M tM)<|?_;clear M;rintro _ w M rfl
 have aQ:=E8 (10:UInt8) ((xC ((xC ((xC s [(32:UInt8)]).2.1) [(32:UInt8)]).2.1) [(32:UInt8)]).2.1);refine wk ?_;refine A2 Aeb rfl rfl (Pa (s:=(xC s [(32:UInt8)]).1) M tM)<|?_;clear M;rintro _ w M ⟨E,ag,rfl,ab⟩
 refine wk ?_;refine A2 Aeb rfl rfl (Pa (s:=(xC ((xC s [(32:UInt8)]).2.1) [(32:UInt8)]).1) M tM)<|?_;clear M;rintro _ w M ⟨D,ah,rfl,ac⟩
 refine wk ?_;have hB:=fun (y:ItemD) (A:U0 s y)=>Ard A ab tM ac;have bb:=ab.1;have be:=ac.1;refine wk ?_;refine Ak (fun a F=>Hy (F.ev rfl) (F.ev rfl) (Bi (by ((repeat' split) <;> omega)) (by ((repeat' split) <;> omega)))) rfl<|?_
 refine Cd rfl<|?_
 refine Ak (fun a F=>Hy (F.ev rfl) (F.ev rfl) (Bi (by ((repeat' split) <;> omega)) (by ((repeat' split) <;> omega)))) rfl<|wk ?_
 rcases bE (decide ((((if ag=true then (1:Int) else 0)) * ((if ah=true then (1:Int) else 0))) * ((if (xC ((xC ((xC ((xC s [(32:UInt8)]).2.1) [(32:UInt8)]).2.1) [(32:UInt8)]).2.1) [(10:UInt8)]).2.2=true then (1:Int) else 0))=0)) with aM | a8
 ·skip
  have h9:=dT aM;refine wk ?_;refine Ak (fun a F=>Am (cs:=[iU 0,iB 0,qT [],sN]) Bc.k rfl Bc (F.evp rfl) rfl) rfl<|fun a F=>?_
  refine Bf F M Bc 0<|sZ ?_;clear F M a;intro w M;refine wk ?_;refine fun a F=>B1 F M (k:=0) rfl rfl Bc rfl rfl rfl rfl ?_;refine ⟨_,(Gle.refl _),M.wn dS1,(⟨0,0,[],[]⟩:ItemD),none,0,false,rfl,⟨tD,tD,tD⟩,Aj.nil,fun N=>(by cases N),fun _ y A=>?_⟩;obtain ⟨q1,q2,q3,q4,q5,V⟩:=hB y A
  first | exact absurd (show (((if ag=true then (1:Int) else 0)) * ((if ah=true then (1:Int) else 0))) * ((if (xC ((xC ((xC ((xC s [(32:UInt8)]).2.1) [(32:UInt8)]).2.1) [(32:UInt8)]).2.1) [(10:UInt8)]).2.2=true then (1:Int) else 0))=0 by assumption) (by rw [q1,q2,V];simp) | (have aj:=A.1.2.1;omega)
 have bf:=dF a8;refine wk ?_
 rcases bE (decide (7 < ((D:Nat):Int))) with a9 | aA
 ·skip
  have bg:=dT a9;refine wk ?_;refine Ak (fun a F=>Am (cs:=[iU 0,iB 0,qT [],sN]) Bc.k rfl Bc (F.evp rfl) rfl) rfl<|fun a F=>?_
  refine Bf F M Bc 0<|sZ ?_;clear F M a;intro w M;refine wk ?_;refine fun a F=>B1 F M (k:=0) rfl rfl Bc rfl rfl rfl rfl ?_;refine ⟨_,(Gle.refl _),M.wn dS1,(⟨0,0,[],[]⟩:ItemD),none,0,false,rfl,⟨tD,tD,tD⟩,Aj.nil,fun N=>(by cases N),fun _ y A=>?_⟩;obtain ⟨q1,q2,q3,q4,q5,V⟩:=hB y A
  first | exact absurd (show (((if ag=true then (1:Int) else 0)) * ((if ah=true then (1:Int) else 0))) * ((if (xC ((xC ((xC ((xC s [(32:UInt8)]).2.1) [(32:UInt8)]).2.1) [(32:UInt8)]).2.1) [(10:UInt8)]).2.2=true then (1:Int) else 0))=0 by assumption) (by rw [q1,q2,V];simp) | (have aj:=A.1.2.1;omega)
 have bh:=dF aA;refine wk ?_;refine Ag rfl ?_ ?_
 ·intro al;have bi:=dF (Ad al);have aT:(decide (((xC ((xC ((xC ((xC s [(32:UInt8)]).2.1) [(32:UInt8)]).2.1) [(32:UInt8)]).2.1) [(10:UInt8)]).2.1)=([]:List UInt8)))=false:=(Ad al);refine Bt<|?_
  refine Ak (fun a F=>Am (cs:=[iU 0,iB 0,qT [],sN]) Bc.k rfl Bc (F.evp rfl) rfl) rfl<|fun a F=>?_
  refine Bf F M Bc 0<|sZ ?_;clear F M a;intro w M;refine wk ?_;refine fun a F=>B1 F M (k:=0) rfl rfl Bc rfl rfl rfl rfl ?_;refine ⟨_,(Gle.refl _),M.wn dS1,(⟨0,0,[],[]⟩:ItemD),none,0,false,rfl,⟨tD,tD,tD⟩,Aj.nil,fun N=>(by cases N),fun _ y A=>?_⟩;obtain ⟨q1,q2,q3,q4,q5,V⟩:=hB y A
  first | exact absurd (show (((if ag=true then (1:Int) else 0)) * ((if ah=true then (1:Int) else 0))) * ((if (xC ((xC ((xC ((xC s [(32:UInt8)]).2.1) [(32:UInt8)]).2.1) [(32:UInt8)]).2.1) [(10:UInt8)]).2.2=true then (1:Int) else 0))=0 by assumption) (by rw [q1,q2,V];simp) | (have aj:=A.1.2.1;omega) | exact absurd (show (xC ((xC ((xC ((xC s [(32:UInt8)]).2.1) [(32:UInt8)]).2.1) [(32:UInt8)]).2.1) [(10:UInt8)]).2.1=[] by rw [V]) tA
 intro an;have bj:=dT (Ae an);have aU:(decide (((xC ((xC ((xC ((xC s [(32:UInt8)]).2.1) [(32:UInt8)]).2.1) [(32:UInt8)]).2.1) [(10:UInt8)]).2.1)=([]:List UInt8)))=true:=(Ae an);refine wk ?_;refine Ak (fun a F=>Bb Cp.k ⟨_,by rw [Be Gh.k]⟩ (F.ev rfl) (Ho tM tM)) rfl<|?_
 refine Cd rfl<|?_
 refine Ak (fun a F=>Am (cs:=[iU ((E:Nat):Int),iB ((D:Nat):Int),qT ((xC ((xC ((xC ((xC s [(32:UInt8)]).2.1) [(32:UInt8)]).2.1) [(32:UInt8)]).2.1) [(10:UInt8)]).1),sN]) Bc.k rfl Bc (F.evp rfl) rfl) rfl<|B0 M Bc rfl rfl<|?_;clear M;intro ae w M
 intro a F;refine Bf F M Bc 0<|sZ ?_;clear F M a;intro w M;refine wk ?_;replace M:=z_M M;have M:=(M.nilrow 9 1).perm (List.Perm.swap _ _ _);replace M:=z_M M;intro a F;refine Bd (fun m a' w'=>∃ (am:Option Addr),∃ (nm:Nat),∃ (cm:Nat),∃ (ai:List Value),∃ (xs:List (List UInt8)),∃ (c:List UInt8),m=c.length∧Fits 106 a' [(0,qT s),(2,pP b1),(3,iI 0),(20,pP ae),(10,qT c)]∧Mem w0 G (rB ae [iU ((E:Nat):Int),iB ((D:Nat):Int),qT ((xC ((xC ((xC ((xC s [(32:UInt8)]).2.1) [(32:UInt8)]).2.1) [(32:UInt8)]).2.1) [(10:UInt8)]).1),vS am nm cm] 26::rR (vS am nm cm) (nm) (ai) 9 1::rB b1 [iU 0,iB 0,qT [],sN] 26::L) w'∧(Els Cr 1 G ai xs)∧(xs.length+c.length≤s.length)∧(nm=xs.length)∧(∀ y,U0 s y→MkI y.mZ xs c)) _ ⟨none,0,0,[],[],(xC ((xC ((xC s [(32:UInt8)]).2.1) [(32:UInt8)]).2.1) [(32:UInt8)]).1,rfl,fU,M,rfl,by simp only [lN];omega,rfl,fun y A=>MkI.nil (hB y A).2.2.2.2.1⟩ ?_;clear F M;rintro m a w ⟨am,nm,cm,ai,xs,c,rfl,F,M,Em,bz,bx,hM⟩;revert a;refine wk ?_;refine Ag rfl ?_ ?_
 ·intro ao;have bk:=dF (Ad ao);have aV:(decide (c=([45]:List UInt8)))=false:=(Ad ao);refine wk ?_;refine A2 Qd rfl rfl (Gz (s:=c) (c:=(44:UInt8)) M tM)<|?_;clear M;rintro _ w M rfl
  have aF:=E8 (44:UInt8) c;refine wk ?_;intro a F;refine Ar F M Dx.k Dg rfl rfl (cs:=[qT ((xC c [(44:UInt8)]).1)]) rfl rfl tS tD rfl ?_;clear F M a;intro b0 w a M F;obtain ⟨a2,a5,rfl,aI,aG,aR⟩:=M.rS (k:=0) rfl;have Eb:Els Cr 1 G [qT ((xC c [(44:UInt8)]).1)] [(xC c [(44:UInt8)]).1]:=⟨[qT ((xC c [(44:UInt8)]).1)],[],rfl,rfl,⟨rfl,tM⟩,rfl⟩;refine A4 F M (k:=2) (k2:=0) rfl rfl Dx.k Dg rfl rfl tD rfl rfl tX tO rfl ?_;clear F M a;intro b3 w a M F;have ak:=Els.append Em Eb;obtain ⟨Y,aa,rfl,aJ,aH,aS⟩:=M.rS (k:=2) rfl;revert a;refine wk ?_;refine D0 Dx M 1 rfl rfl rfl rfl rfl rfl<|?_;clear M;intro w M
  refine wk ?_;refine qD rfl ?_ ?_
  ·intro bl;refine X8<|Aee<|e_be rfl<|Aee<|A1p<|Ca<|Ca<|?_
   have hE:∀ y,U0 s y→y.mZ=xs++([(xC c [(44:UInt8)]).1]):=fun y A=>((hM y A).step A.1.2.2.2.2 tA).2 (fun N=>by rw [if_pos N] at *;omega);obtain ⟨ay,a0,a3,a6,O,aw,T,M⟩:=M.fZ Au (k:=2) rfl ak tD;clear aw a3 a6;replace Em:=Em.mono Au O;intro a F;rw [ay] at M T;change Mem w0 a0 (rR (vS a2 1 (a5)) 1 ([qT ((xC c [(44:UInt8)]).1)]) 9 1::rB ae [iU ((E:Nat):Int),iB ((D:Nat):Int),qT ((xC ((xC ((xC ((xC s [(32:UInt8)]).2.1) [(32:UInt8)]).2.1) [(32:UInt8)]).2.1) [(10:UInt8)]).1),vS Y ((xs++([(xC c [(44:UInt8)]).1])).length) (aa)] 26::rB b1 [iU 0,iB 0,qT [],sN] 26::L) _ at M;have H:((⟨E,D,(xC ((xC ((xC ((xC s [(32:UInt8)]).2.1) [(32:UInt8)]).2.1) [(32:UInt8)]).2.1) [(10:UInt8)]).1,xs++([(xC c [(44:UInt8)]).1])⟩:ItemD).key < 18446744073709551616∧(⟨E,D,(xC ((xC ((xC ((xC s [(32:UInt8)]).2.1) [(32:UInt8)]).2.1) [(32:UInt8)]).2.1) [(10:UInt8)]).1,xs++([(xC c [(44:UInt8)]).1])⟩:ItemD).typ < 256∧(⟨E,D,(xC ((xC ((xC ((xC s [(32:UInt8)]).2.1) [(32:UInt8)]).2.1) [(32:UInt8)]).2.1) [(10:UInt8)]).1,xs++([(xC c [(44:UInt8)]).1])⟩:ItemD).text.length≤9223372036854775807):=⟨by show E < _;omega,by show D < _;omega,by show ((xC ((xC ((xC ((xC s [(32:UInt8)]).2.1) [(32:UInt8)]).2.1) [(32:UInt8)]).2.1) [(10:UInt8)]).1).length≤_;omega⟩
   revert a;refine Hg<|Vw Bc M 1 rfl rfl rfl rfl<|?_
   refine A2 Apo rfl rfl (H9 (x:=(⟨E,D,(xC ((xC ((xC ((xC s [(32:UInt8)]).2.1) [(32:UInt8)]).2.1) [(32:UInt8)]).2.1) [(10:UInt8)]).1,xs++([(xC c [(44:UInt8)]).1])⟩:ItemD)) (t:=8) M H T)<|?_;clear M;rintro _ w M rfl
   refine wk ?_
   rcases bE (decide (0 < Hi 8 ((⟨E,D,(xC ((xC ((xC ((xC s [(32:UInt8)]).2.1) [(32:UInt8)]).2.1) [(32:UInt8)]).2.1) [(10:UInt8)]).1,xs++([(xC c [(44:UInt8)]).1])⟩:ItemD)))) with aB | aC
   ·skip
    have bm:=dT aB;refine wk ?_;refine Ak (fun a F=>Am (cs:=[iU 0,iB 0,qT [],sN]) Bc.k rfl Bc (F.evp rfl) rfl) rfl<|fun a F=>?_
    refine Bf F M Bc 2<|sZ ?_;clear F M a;intro w M;refine wk ?_;refine fun a F=>B1 F M (k:=2) rfl rfl Bc rfl rfl rfl rfl ?_;refine ⟨_,O,M.wn dS3,(⟨0,0,[],[]⟩:ItemD),none,0,false,rfl,⟨tD,tD,tD⟩,Aj.nil,fun N=>(by cases N),fun _ y A=>?_⟩;obtain ⟨q1,q2,q3,q4,q5,V⟩:=hB y A;have q7:(⟨E,D,(xC ((xC ((xC ((xC s [(32:UInt8)]).2.1) [(32:UInt8)]).2.1) [(32:UInt8)]).2.1) [(10:UInt8)]).1,xs++([(xC c [(44:UInt8)]).1])⟩:ItemD)=y:=Ml q3 q4 (by show _=_;rw [V]) (hE y A).symm
    first | exact absurd (q7 ▸ A.1:ItemOk 8 (⟨E,D,(xC ((xC ((xC ((xC s [(32:UInt8)]).2.1) [(32:UInt8)]).2.1) [(32:UInt8)]).2.1) [(10:UInt8)]).1,xs++([(xC c [(44:UInt8)]).1])⟩:ItemD)) (R7 tA) | exact absurd (show Cx (⟨E,D,(xC ((xC ((xC ((xC s [(32:UInt8)]).2.1) [(32:UInt8)]).2.1) [(32:UInt8)]).2.1) [(10:UInt8)]).1,xs++([(xC c [(44:UInt8)]).1])⟩:ItemD)++[10]=s by rw [q7];exact A.2.2) tA
   have bn:=dF aC;refine wk ?_;refine A2 A0g rfl rfl (Qn (x:=(⟨E,D,(xC ((xC ((xC ((xC s [(32:UInt8)]).2.1) [(32:UInt8)]).2.1) [(32:UInt8)]).2.1) [(10:UInt8)]).1,xs++([(xC c [(44:UInt8)]).1])⟩:ItemD)) M H T (J6 tA))<|?_;clear M;rintro _ w M rfl
   have aK:=Kr (x:=(⟨E,D,(xC ((xC ((xC ((xC s [(32:UInt8)]).2.1) [(32:UInt8)]).2.1) [(32:UInt8)]).2.1) [(10:UInt8)]).1,xs++([(xC c [(44:UInt8)]).1])⟩:ItemD)) (J6 tA) H.1 H.2.1;refine wk ?_;refine Ag rfl ?_ ?_
   ·intro ap;have bo:=dF (Ad ap);have aW:(decide ((Cx ((⟨E,D,(xC ((xC ((xC ((xC s [(32:UInt8)]).2.1) [(32:UInt8)]).2.1) [(32:UInt8)]).2.1) [(10:UInt8)]).1,xs++([(xC c [(44:UInt8)]).1])⟩:ItemD))++[10])=s))=false:=(Ad ap);refine Bt<|?_
    refine Ak (fun a F=>Am (cs:=[iU 0,iB 0,qT [],sN]) Bc.k rfl Bc (F.evp rfl) rfl) rfl<|fun a F=>?_
    refine Bf F M Bc 2<|sZ ?_;clear F M a;intro w M;refine wk ?_;refine fun a F=>B1 F M (k:=2) rfl rfl Bc rfl rfl rfl rfl ?_;refine ⟨_,O,M.wn dS3,(⟨0,0,[],[]⟩:ItemD),none,0,false,rfl,⟨tD,tD,tD⟩,Aj.nil,fun N=>(by cases N),fun _ y A=>?_⟩;obtain ⟨q1,q2,q3,q4,q5,V⟩:=hB y A;have q7:(⟨E,D,(xC ((xC ((xC ((xC s [(32:UInt8)]).2.1) [(32:UInt8)]).2.1) [(32:UInt8)]).2.1) [(10:UInt8)]).1,xs++([(xC c [(44:UInt8)]).1])⟩:ItemD)=y:=Ml q3 q4 (by show _=_;rw [V]) (hE y A).symm
    first | exact absurd (q7 ▸ A.1:ItemOk 8 (⟨E,D,(xC ((xC ((xC ((xC s [(32:UInt8)]).2.1) [(32:UInt8)]).2.1) [(32:UInt8)]).2.1) [(10:UInt8)]).1,xs++([(xC c [(44:UInt8)]).1])⟩:ItemD)) (R7 tA) | exact absurd (show Cx (⟨E,D,(xC ((xC ((xC ((xC s [(32:UInt8)]).2.1) [(32:UInt8)]).2.1) [(32:UInt8)]).2.1) [(10:UInt8)]).1,xs++([(xC c [(44:UInt8)]).1])⟩:ItemD)++[10]=s by rw [q7];exact A.2.2) tA
   intro aq;have bp:=dT (Ae aq);have aX:(decide ((Cx ((⟨E,D,(xC ((xC ((xC ((xC s [(32:UInt8)]).2.1) [(32:UInt8)]).2.1) [(32:UInt8)]).2.1) [(10:UInt8)]).1,xs++([(xC c [(44:UInt8)]).1])⟩:ItemD))++[10])=s))=true:=(Ae aq);refine wk ?_;intro a F;refine Bf F M Bc 2<|sZ ?_;clear F M a;intro w M;refine wk ?_;refine fun a F=>B1 F M (k:=2) rfl rfl Bc rfl rfl rfl rfl ?_
   exact ⟨_,O,M.wn dS3,(⟨E,D,(xC ((xC ((xC ((xC s [(32:UInt8)]).2.1) [(32:UInt8)]).2.1) [(32:UInt8)]).2.1) [(10:UInt8)]).1,xs++([(xC c [(44:UInt8)]).1])⟩:ItemD),Y,aa,true,rfl,H,T,fun _=>⟨J6 tA,H.1,tA⟩,fun N=>(by cases N)⟩
  intro bq;refine wk ?_;intro a F
  exact ⟨_,(by have aj:=A1u (c:=44) (s:=c) (Classical.byContradiction fun N=>by rw [if_neg N] at *;omega);omega),(Y),(nm+1),(aa),ai++([qT ((xC c [(44:UInt8)]).1)]),xs++([(xC c [(44:UInt8)]).1]),(xC c [(44:UInt8)]).2.1,rfl,fU,(M.wn (cN (cC (.cons_cons _ (cC (sR _)))))),ak,by have aj:=A1u (c:=44) (s:=c) (Classical.byContradiction fun N=>by rw [if_neg N] at *;omega);simp only [lA,lC,lN];omega,by simp only [lA,lC,lN];omega,fun y A=>((hM y A).step A.1.2.2.2.2 tA).1 (Classical.byContradiction fun N=>by rw [if_neg N] at *;omega)⟩
 intro ar;have br:=dT (Ae ar);have aY:(decide (c=([45]:List UInt8)))=true:=(Ae ar);refine X8<|Aee<|Aee<|A1p<|Ca<|Ca<|?_
 have hE:∀ y,U0 s y→y.mZ=xs:=fun y A=>MkI.dash A.1.2.2.2.2 (by rw [← (show c=[45] by assumption)];exact hM y A);obtain ⟨az,a1,a4,a7,S,ax,U,M⟩:=M.fZ Au (k:=1) rfl Em tD;clear ax a4 a7;intro a F;rw [az] at M U;change Mem w0 a1 (rB ae [iU ((E:Nat):Int),iB ((D:Nat):Int),qT ((xC ((xC ((xC ((xC s [(32:UInt8)]).2.1) [(32:UInt8)]).2.1) [(32:UInt8)]).2.1) [(10:UInt8)]).1),vS am ((xs).length) (cm)] 26::rB b1 [iU 0,iB 0,qT [],sN] 26::L) _ at M;have I:((⟨E,D,(xC ((xC ((xC ((xC s [(32:UInt8)]).2.1) [(32:UInt8)]).2.1) [(32:UInt8)]).2.1) [(10:UInt8)]).1,xs⟩:ItemD).key < 18446744073709551616∧(⟨E,D,(xC ((xC ((xC ((xC s [(32:UInt8)]).2.1) [(32:UInt8)]).2.1) [(32:UInt8)]).2.1) [(10:UInt8)]).1,xs⟩:ItemD).typ < 256∧(⟨E,D,(xC ((xC ((xC ((xC s [(32:UInt8)]).2.1) [(32:UInt8)]).2.1) [(32:UInt8)]).2.1) [(10:UInt8)]).1,xs⟩:ItemD).text.length≤9223372036854775807):=⟨by show E < _;omega,by show D < _;omega,by show ((xC ((xC ((xC ((xC s [(32:UInt8)]).2.1) [(32:UInt8)]).2.1) [(32:UInt8)]).2.1) [(10:UInt8)]).1).length≤_;omega⟩;revert a;refine Hg<|Vw Bc M 0 rfl rfl rfl rfl<|?_
 refine A2 Apo rfl rfl (H9 (x:=(⟨E,D,(xC ((xC ((xC ((xC s [(32:UInt8)]).2.1) [(32:UInt8)]).2.1) [(32:UInt8)]).2.1) [(10:UInt8)]).1,xs⟩:ItemD)) (t:=8) M I U)<|?_;clear M;rintro _ w M rfl
 refine wk ?_
 rcases bE (decide (0 < Hi 8 ((⟨E,D,(xC ((xC ((xC ((xC s [(32:UInt8)]).2.1) [(32:UInt8)]).2.1) [(32:UInt8)]).2.1) [(10:UInt8)]).1,xs⟩:ItemD)))) with aD | aE
 ·skip
  have bt:=dT aD;refine wk ?_;refine Ak (fun a F=>Am (cs:=[iU 0,iB 0,qT [],sN]) Bc.k rfl Bc (F.evp rfl) rfl) rfl<|fun a F=>?_
  refine Bf F M Bc 1<|sZ ?_;clear F M a;intro w M;refine wk ?_;refine fun a F=>B1 F M (k:=1) rfl rfl Bc rfl rfl rfl rfl ?_;refine ⟨_,S,M.wn dS2,(⟨0,0,[],[]⟩:ItemD),none,0,false,rfl,⟨tD,tD,tD⟩,Aj.nil,fun N=>(by cases N),fun _ y A=>?_⟩;obtain ⟨q1,q2,q3,q4,q5,V⟩:=hB y A;have q7:(⟨E,D,(xC ((xC ((xC ((xC s [(32:UInt8)]).2.1) [(32:UInt8)]).2.1) [(32:UInt8)]).2.1) [(10:UInt8)]).1,xs⟩:ItemD)=y:=Ml q3 q4 (by show _=_;rw [V]) (hE y A).symm
  first | exact absurd (q7 ▸ A.1:ItemOk 8 (⟨E,D,(xC ((xC ((xC ((xC s [(32:UInt8)]).2.1) [(32:UInt8)]).2.1) [(32:UInt8)]).2.1) [(10:UInt8)]).1,xs⟩:ItemD)) (R7 tA) | exact absurd (show Cx (⟨E,D,(xC ((xC ((xC ((xC s [(32:UInt8)]).2.1) [(32:UInt8)]).2.1) [(32:UInt8)]).2.1) [(10:UInt8)]).1,xs⟩:ItemD)++[10]=s by rw [q7];exact A.2.2) tA
 have bu:=dF aE;refine wk ?_;refine A2 A0g rfl rfl (Qn (x:=(⟨E,D,(xC ((xC ((xC ((xC s [(32:UInt8)]).2.1) [(32:UInt8)]).2.1) [(32:UInt8)]).2.1) [(10:UInt8)]).1,xs⟩:ItemD)) M I U (J6 tA))<|?_;clear M;rintro _ w M rfl
 have aL:=Kr (x:=(⟨E,D,(xC ((xC ((xC ((xC s [(32:UInt8)]).2.1) [(32:UInt8)]).2.1) [(32:UInt8)]).2.1) [(10:UInt8)]).1,xs⟩:ItemD)) (J6 tA) I.1 I.2.1;refine wk ?_;refine Ag rfl ?_ ?_
 ·intro au;have bv:=dF (Ad au);have aZ:(decide ((Cx ((⟨E,D,(xC ((xC ((xC ((xC s [(32:UInt8)]).2.1) [(32:UInt8)]).2.1) [(32:UInt8)]).2.1) [(10:UInt8)]).1,xs⟩:ItemD))++[10])=s))=false:=(Ad au);refine Bt<|?_
  refine Ak (fun a F=>Am (cs:=[iU 0,iB 0,qT [],sN]) Bc.k rfl Bc (F.evp rfl) rfl) rfl<|fun a F=>?_
  refine Bf F M Bc 1<|sZ ?_;clear F M a;intro w M;refine wk ?_;refine fun a F=>B1 F M (k:=1) rfl rfl Bc rfl rfl rfl rfl ?_;refine ⟨_,S,M.wn dS2,(⟨0,0,[],[]⟩:ItemD),none,0,false,rfl,⟨tD,tD,tD⟩,Aj.nil,fun N=>(by cases N),fun _ y A=>?_⟩;obtain ⟨q1,q2,q3,q4,q5,V⟩:=hB y A;have q7:(⟨E,D,(xC ((xC ((xC ((xC s [(32:UInt8)]).2.1) [(32:UInt8)]).2.1) [(32:UInt8)]).2.1) [(10:UInt8)]).1,xs⟩:ItemD)=y:=Ml q3 q4 (by show _=_;rw [V]) (hE y A).symm
  first | exact absurd (q7 ▸ A.1:ItemOk 8 (⟨E,D,(xC ((xC ((xC ((xC s [(32:UInt8)]).2.1) [(32:UInt8)]).2.1) [(32:UInt8)]).2.1) [(10:UInt8)]).1,xs⟩:ItemD)) (R7 tA) | exact absurd (show Cx (⟨E,D,(xC ((xC ((xC ((xC s [(32:UInt8)]).2.1) [(32:UInt8)]).2.1) [(32:UInt8)]).2.1) [(10:UInt8)]).1,xs⟩:ItemD)++[10]=s by rw [q7];exact A.2.2) tA
 intro av;have bw:=dT (Ae av);have ba:(decide ((Cx ((⟨E,D,(xC ((xC ((xC ((xC s [(32:UInt8)]).2.1) [(32:UInt8)]).2.1) [(32:UInt8)]).2.1) [(10:UInt8)]).1,xs⟩:ItemD))++[10])=s))=true:=(Ae av);refine wk ?_;intro a F;refine Bf F M Bc 1<|sZ ?_;clear F M a;intro w M;refine wk ?_;refine fun a F=>B1 F M (k:=1) rfl rfl Bc rfl rfl rfl rfl ?_
 exact ⟨_,S,M.wn dS2,(⟨E,D,(xC ((xC ((xC ((xC s [(32:UInt8)]).2.1) [(32:UInt8)]).2.1) [(32:UInt8)]).2.1) [(10:UInt8)]).1,xs⟩:ItemD),am,cm,true,rfl,I,U,fun _=>⟨J6 tA,I.1,tA⟩,fun N=>(by cases N)⟩
end Go.Proofs.YtmmhmcplegpenaaGreatDoor
namespace Go.Y
open Go
section
variable {P:Program} {ops:Array Oper} {Q:Exit→Act→World→Prop} {w0 w:World} {G:Av} {L:List Res} {n d:Nat} {a:Act} {e:Env} {t:TypeId} {p:String} {af:Array Edge} {r:List Oper}
theorem Yz (w:World) (dT sT ty D:TypeId) (g A I:Nat) (a:Addr) (E T sz:Nat) (H:Array Value) (t:TypeId) (cs:List Value)
  (hu:P.underlying dT=some (.slice D)) (U:(P.info? D).map (·.size)=some sz)
  (Y:w.heap[g]?=some (.cells H t (0,0))) (hn:cs.length=Nat.min E A * sz)
  (O:∀ j v,cs[j]?=some v→w.cell? (a.add j)=some v) (N:cs.length≤H.size) (V:∀ v∈cs,v.oneCell' = true) :
  (Builtin.copy_ #[dT,sT] ty #[vS (some ⟨g,0,none⟩) A I,vS (some a) E T]).run P w =
   .ok (goInt (Nat.min E A:Nat)) (w.setRow g (cs++H.toList.drop cs.length).toArray):=by
 have hl:=run_loadCells_list (P:=P) w a cs O;have S:=run_storeCells_at P g 0 t cs 0 H w Y (by simpa using N) V
 cases hq:P.info? D with
 | none=>simp [hq] at U
 | some i =>
  have hi:i.size=sz:=by simpa [hq] using U
  simp only [Nat.zero_add,List.take_zero,List.nil_append] at S
  simp [Builtin.copy_,run_underlying hu,Builtin.lenOf,Builtin.firstCells,sizeOf,typeInfo,hq,hi,← hn,hl,S]
theorem Wg {α:Type} {rd:Rd α} {sz:Nat} {dT sT et:TypeId} {i:TI} {x y:Operand} {k m c O b:Nat} {ad:Option Addr} {ah:List Value} {xs:List α} (F:Fits n a e) (M:Mem w0 G L w)
  (hk:L[k]?=some (rR (vS (some ⟨b,0,none⟩) m c) m ah et sz)) (ht:tk P dT=.slice et) (hi:TOK P et i) (ab:i.size=sz) (hx:ev e x=some (vS (some ⟨b,0,none⟩) m c)) (hy:ev e y=some (vS ad m O))
  (S:Aj rd sz G (vS ad m O) xs) (Y:0 < m) (hd:Nat.ble (d+1) n=true)
  (kk:∀ cs w' N,Els rd sz G cs xs→Mem w0 G (L.set k (rR (vS (some ⟨b,0,none⟩) m c) m cs et sz)) w'→Fits n N ((d,iI (m:Nat))::e)→rl P ops Q r N w') :
  rl P ops Q (⟨some d,.call ⟨.builtin .copy,#[x,y],#[dT,sT]⟩,t,p,af,none⟩::r) a w:=by
 subst ab;obtain ⟨rfl,_,_,news,hE,E,T⟩:=S.cells;have hnl:news.length=xs.length * i.size:=hE.length
 rcases T with ⟨rfl,rfl⟩ | ⟨sb,so,rfl,T⟩
 ·simp at Y
 obtain ⟨⟨hl,hr⟩,aj⟩:=M.row_at hk
 rcases hr with ⟨h,_⟩ | ⟨g,ai,D,hv,_,hg,I,U,H,ac⟩
 ·cases h
 simp only [Value.slice.injEq,Option.some.injEq,Addr.mk.injEq,and_true,true_and] at hv;obtain ⟨rfl,rfl⟩:=hv;obtain ⟨z,ae,ag,_⟩:=hi.info;have V:xs.length * i.size≤c * i.size:=Nat.mul_le_mul_right _ I;have A:=Yz (P:=P) w dT sT t et b xs.length c ⟨sb,so,none⟩ xs.length O i.size D et news (Df ht) (by rw [ae];simp [ag]) hg (by rw [hnl];simp [Nat.min_def])
  (fun j v hj=>by rw [Fv];exact M.cell (T j v hj)) (by rw [hnl,H];exact V) E
 rw [show Nat.min xs.length xs.length=xs.length from Nat.min_self _] at A;refine Bo F (w':=_) (v:=_) (by simp only [execOp,resolve,Sem.run_bind,Sem.run_pure,Result.andThen_ok,invoke,builtin,List.map_toArray,List.map_cons,List.map_nil,F.ev hx,F.ev hy,A];rfl) hd fun N F'=>kk news _ N hE ?_ F';rw [← Array.length_toList] at H;refine M.grow_at hk (fun z hz=>Or.inl hz) ⟨⟨hnl,Or.inr ⟨b,c,_,rfl,Nat.zero_le _,setRow_heap w b D _ et (0,0) hg,I,U,?_,?_⟩⟩,E⟩ rfl rfl rfl (by simp [World.setRow]) (fun z hz aa=>setRow_other w b z _ (fun h=>aa (by rw [h];rfl)))
 ·simp only [List.size_toArray,lA,lD];omega
 show List.take (xs.length * i.size) (news++D.toList.drop news.length)=news
 rw [← hnl,List.take_left]
theorem Sq {t k e:Nat} (h:tk P t=.map k e):P.underlying t=some (.map k e):=by
 unfold tk at h
 split at h <;> simp_all
def Jz (es:Array MapEntry) (ks:List Nat):Prop:=(∀ x∈es.toList,∃ k:Nat,x.key=iU (k:Int)∧x.val=vB true∧k∈ks)∧∀ k∈ks,∃ x∈es.toList,x.key=iU ((k:Nat):Int)
theorem Jz.nil:Jz #[] []:=⟨fun x D=>by simp at D,fun k A=>by simp at A⟩
theorem Wb {H kt et:TypeId} (F:Fits n a e) (M:Mem w0 G L w) (E:Nat.ble (d+1) n=true)
  (k:∀ b w' A,Mem w0 G (.obj b (.map #[] 0)::L) w'→Fits n A ((d,.map (some b))::e)→rl P ops Q r A w'):rl P ops Q (⟨some d,.makeMap H none,t,p,af,none⟩::r) a w:=by
 refine Bo F (w':=_) (v:=_) (by simp only [execOp,Instr.makeMap,Option.map_none,Sem.run_bind,newObj,Sem.run,Result.andThen_ok];rfl) E fun A D=>k w.heap.size _ A (M.new (.map #[] 0)) D
theorem We {mt kt et:TypeId} {ei:TI} {x y:Operand} {k b z:Nat} {I:Array MapEntry} {cl:Nat} {ks:List Nat} (F:Fits n a e) (M:Mem w0 G L w) (hk:L[k]?=some (.obj b (.map I cl))) (V:Jz I ks)
  (O:tk P mt=.map kt et) (aa:tk P kt=.int .u64) (hz:TOK P et ei) (ac:ei.zero=vB false) (H:ev e x=some (.map (some b))) (hy:ev e y=some (iU (z:Int))) (hd:Nat.ble (d+1) n=true)
  (kk:∀ E,Fits n E ((d,vB (decide (z∈ks)))::e)→rl P ops Q r E w):rl P ops Q (⟨some d,.lookup mt x y false,t,p,af,none⟩::r) a w:=by
 have hb:w.heap[b]?=some (.map I cl):=M.own _ (mG hk);have D:=Be aa;have A:MapKept.IsKey (.int .u64) (iU (z:Int)):=rfl;have Y:∀ x∈I.toList,MapKept.IsKey (.int .u64) x.key:=fun x H=>by obtain ⟨q,N,_⟩:=V.1 x H;rw [N];rfl
 rcases MapKept.findNow_spec A I.toList 0 Y with ⟨N,U⟩ | ⟨j,T,N,U,h3⟩
 ·have hn:¬ z∈ks:=fun O=>by obtain ⟨x,H,ab⟩:=V.2 z O;exact U x H ab
  refine Bo F (v:=vB false) (w':=w) ?_ hd fun E S=>kk E (by rw [decide_eq_false hn];exact S);simp only [execOp,Instr.lookup,F.ev H,F.ev hy,Sem.run_bind,B9 (Sq O),MapKept.run_getObj_map hb,Result.andThen_ok,Sem.run_pure,MapKept.run_checkKey D A,MapKept.run_findKey D N,hz.zeroValue,ac]
  rfl
 obtain ⟨q,h4,h5,h6⟩:=V.1 T (mG U);rw [h4] at h3;simp only [Value.int.injEq,true_and] at h3;have hq:q=z:=by omega
 subst hq;refine Bo F (v:=vB true) (w':=w) ?_ hd fun E S=>kk E (by rw [decide_eq_true h6];exact S);simp only [execOp,Instr.lookup,F.ev H,F.ev hy,Sem.run_bind,B9 (Sq O),MapKept.run_getObj_map hb,Result.andThen_ok,Sem.run_pure,MapKept.run_checkKey D A,MapKept.run_findKey D N,h5]
 rfl
theorem S8 {mt kt et:TypeId} {x y v:Operand} {k b z:Nat} {D:Array MapEntry} {A:Nat} {ks:List Nat} (F:Fits n a e) (M:Mem w0 G L w) (hk:L[k]?=some (.obj b (.map D A))) (U:Jz D ks)
  (hm:tk P mt=.map kt et) (ab:tk P kt=.int .u64) (H:ev e x=some (.map (some b))) (hy:ev e y=some (iU (z:Int))) (hv:ev e v=some (vB true)) (hn:¬ z∈ks)
  (kk:∀ I V w' S,Jz I (z::ks)→Mem w0 G (L.set k (.obj b (.map I V))) w'→Fits n S e→rl P ops Q r S w'):rl P ops Q (⟨none,.mapUpdate mt x y v,t,p,af,none⟩::r) a w:=by
 have hb:w.heap[b]?=some (.map D A):=M.own _ (mG hk);have O:=Be ab;have E:MapKept.IsKey (.int .u64) (iU (z:Int)):=rfl;have aa:∀ x∈D.toList,MapKept.IsKey (.int .u64) x.key:=fun x H=>by obtain ⟨q,T,_⟩:=U.1 x H;rw [T];rfl
 rcases MapKept.findNow_spec E D.toList 0 aa with ⟨T,h2⟩ | ⟨j,Y,T,h2,h3⟩
 ·have hh:=MapKept.heap_set (o':=.map (D.push { key:=iU (z:Int),val:=vB true,born:=A }) (A+1)) hb;refine Pe F (w':={ w with heap:=w.heap.setIfInBounds b (.map (D.push { key:=iU (z:Int),val:=vB true,born:=A }) (A+1)) }) ?_ fun S F'=>kk (D.push { key:=iU (z:Int),val:=vB true,born:=A }) (A+1) _ S ?_ ?_ F'
  ·simp only [execOp,Instr.mapUpdate,F.ev H,F.ev hy,F.ev hv,Sem.run_bind,B9 (Sq hm),MapKept.run_getObj_map hb,Result.andThen_ok,Sem.run_pure,MapKept.run_checkKey O E,MapKept.run_findKey O T,MapKept.run_setObj_map _ hb]
  ·refine ⟨fun x H=>?_,fun q hq=>?_⟩
   ·simp only [Array.toList_push,List.mem_append,List.mem_singleton] at H
    rcases H with H | rfl
    ·obtain ⟨q,N,h5,h6⟩:=U.1 x H;exact ⟨q,N,h5,List.mem_cons_of_mem _ h6⟩
    exact ⟨z,rfl,rfl,by simp⟩
   rcases List.mem_cons.1 hq with rfl | hq
   ·exact ⟨_,by simp only [Array.toList_push,List.mem_append,List.mem_singleton];exact Or.inr rfl,rfl⟩
   obtain ⟨x,N,h5⟩:=U.2 q hq;exact ⟨x,by simp only [Array.toList_push,List.mem_append];exact Or.inl N,h5⟩
  exact M.swap_at hk (y:=.obj b (.map (D.push { key:=iU (z:Int),val:=vB true,born:=A }) (A+1))) rfl hh.1 rfl rfl rfl (by simp) (fun b' ac=>hh.2 b' (fun e=>ac (by rw [e];rfl)))
 obtain ⟨q,N,_,h6⟩:=U.1 Y (mG h2);rw [N] at h3;simp only [Value.int.injEq,true_and] at h3
 exact absurd (show z∈ks by rw [show z=q by omega];exact h6) hn
end
end Go.Y
namespace Go.Proofs.YtmmhmcplegpenaaGreatDoor
open Go Go.Y Go.Proofs
variable {w0 w:World} {G:Av} {L:List Res}
theorem Vs {α:Type} {l:List α} {i:Nat} {x:α} (h:l[i]?=some x):l.set i x=l:=by
 apply List.ext_getElem?
 intro j;rw [List.getElem?_set]
 split
 ·rename_i e;subst e;rw [if_pos (A3 h),h]
 rfl
theorem Api (M:Mem w0 G L w) {D:Option Addr} {E:Nat} {xs:List (List UInt8)} (S:Aj Cr 1 G (vS D xs.length E) xs) (hN:xs.length≤1000000) :
  Calls pG 55 #[vS D xs.length E] w (L4 w0 G fun O v=>∃ (a:Option Addr) (cs:List Value),v=vS a xs.length xs.length∧O = (rR (vS a xs.length xs.length) xs.length cs 9 1::L)∧Els Cr 1 G cs xs):=by
 refine Ap (vs:=[_]) Tryz.func55 rfl (n:=14) rfl rfl<|wk ?_;refine qD rfl ?_ ?_
 ·intro V;refine wk ?_;refine Af rfl rfl<|?_
  have U:=List.eq_nil_of_length_eq_zero (show xs.length=0 by omega);subst U
  exact ⟨_,M.nilrow 9 1,none,[],rfl,rfl,rfl⟩
 intro Y;refine wk ?_;intro a F;refine Rq (rd:=Cr) (Z:=([]:List UInt8)) F M Dx.k Dg rfl tD rfl rfl (l:=xs.length) tM rfl tM (by show 16 * _≤_;omega) tM (by simp [ti9,Value.cells,Value.oneCell']) (⟨rfl,tD⟩) rfl ?_;clear F M a;intro T I w a M N F;revert a;refine wk ?_;intro a F;refine Wg F M (k:=0) rfl Dx.k Dg rfl rfl rfl S tM rfl ?_;clear F M a;intro H w a A M F;revert a;refine wk ?_;refine Af rfl rfl<|?_
 replace M:=z_M M
 exact ⟨_,M,_,_,rfl,rfl,A⟩
theorem A0a (M:Mem w0 G L w) {D:Option Addr} {H:Nat} {xs:List (List UInt8)} (S:Aj Cr 1 G (vS D xs.length H) xs) (U:xs.length≤1000000) :
  Calls pG 55 #[vS D xs.length H] w (Ret w0 G L fun A v=>∃ a:Option Addr,v=vS a xs.length xs.length∧Aj Cr 1 A (vS a xs.length xs.length) xs):=by
 refine (Api M S U).mono ?_;rintro e w' h
 cases e with
 | returned v =>
  obtain ⟨V,I,a,cs,rfl,rfl,E⟩:=h;obtain ⟨_,A,_,_,T,_,O,N⟩:=I.fZ Au (k:=0) rfl E tD
  exact ⟨A,T,N,a,rfl,O⟩
 | panicked c=>exact h.elim
 | outgrown=>exact h.elim
theorem Apj (M:Mem w0 G L w) {D:Option Addr} {E:Nat} {xs:List (ItemD)} (S:Aj Bp 4 G (vS D xs.length E) xs) (hN:xs.length≤1000000) :
  Calls pG 54 #[vS D xs.length E] w (L4 w0 G fun O v=>∃ (a:Option Addr) (cs:List Value),v=vS a xs.length xs.length∧O = (rR (vS a xs.length xs.length) xs.length cs 26 4::L)∧Els Bp 4 G cs xs):=by
 refine Ap (vs:=[_]) Tryz.func54 rfl (n:=14) rfl rfl<|wk ?_;refine qD rfl ?_ ?_
 ·intro V;refine wk ?_;refine Af rfl rfl<|?_
  have U:=List.eq_nil_of_length_eq_zero (show xs.length=0 by omega);subst U
  exact ⟨_,M.nilrow 26 4,none,[],rfl,rfl,rfl⟩
 intro Y;refine wk ?_;intro a F;refine Rq (rd:=Bp) (Z:=(⟨0,0,[],[]⟩:ItemD)) F M Ci.k Bc rfl tD rfl rfl (l:=xs.length) tM rfl tM (by show 56 * _≤_;omega) tM (by simp [ti26,Value.cells,Value.oneCell']) (⟨none,0,rfl,tD,tD,tD,tD,Aj.nil⟩) rfl ?_;clear F M a;intro T I w a M N F;revert a;refine wk ?_;intro a F;refine Wg F M (k:=0) rfl Ci.k Bc rfl rfl rfl S tM rfl ?_;clear F M a;intro H w a A M F;revert a;refine wk ?_;refine Af rfl rfl<|?_
 replace M:=z_M M
 exact ⟨_,M,_,_,rfl,rfl,A⟩
theorem Aaz (M:Mem w0 G L w) {a1:Option Addr} {c1:Nat} {xs:List ItemD} (S:Aj Bp 4 G (vS a1 xs.length c1) xs) (hN:xs.length≤1000000) (hM:∀ x∈xs,x.mZ.length≤1000000) :
  Calls pG 15 #[vS a1 xs.length c1] w (Ret w0 G L fun G' v=>∃ a:Option Addr,v=vS a xs.length xs.length∧Aj Bp 4 G' (vS a xs.length xs.length) xs):=by
 refine Ap (vs:=[_]) Tryz.func15 rfl (n:=24) rfl rfl<|wk ?_;refine Sy ent54 rfl rfl (Apj (xs:=xs) M S tM)<|?_;clear M;rintro _ _ w M ⟨H,O,rfl,rfl,ak⟩
 refine wk ?_;refine fun a F=>Bd (fun m a' w'=>∃ (i:Nat),∃ (I:List Value),m=xs.length - i∧∃ G2,Gle G G2∧Fits 24 a' [(3,vS H xs.length xs.length),(7,vS H xs.length xs.length),(8,iI ((xs.length:Nat):Int)),(9,iI ((i:Nat):Int))]∧Mem w0 G2 (rR (vS H xs.length xs.length) (xs.length) (I) 26 4::L) w'∧(i≤xs.length)∧(Els Bp 4 G2 I xs)) _ ⟨0,O,rfl,G,Gle.refl _,fU,M,Nat.zero_le _,ak⟩ ?_;clear F M;rintro m a w ⟨i,I,rfl,G2,N,F,M,hi,Eo⟩;revert a;refine wk ?_;refine qD rfl ?_ ?_
 ·intro h3;refine wk ?_;obtain ⟨A,D⟩:=Aq (xs:=xs) (i:=i) tM;obtain ⟨aB,_,aA,az,_,aj,V⟩:=M.atRow (k:=0) rfl tD Eo D;obtain ⟨a5,a7,rfl,ab,ae,ah,a2,SMe4⟩:=V;have ax:(A.key < 18446744073709551616∧A.typ < 256∧A.text.length≤9223372036854775807):=⟨ab,ae,ah⟩;refine wk ?_;refine Afi Dx aj 3 rfl rfl rfl rfl<|C3 ent55 rfl rfl (A0a (xs:=A.mZ) M SMe4 (hM A (mG D)))<|?_;clear M;rintro _ am w E M ⟨ar,rfl,ap⟩
  replace Eo:=Eo.mono Ac E;obtain ⟨aC,_,ao,a0,_,a9,Y⟩:=M.atRow (k:=0) rfl tD Eo D;obtain ⟨a6,a8,rfl,ac,ag,ai,a3,aw⟩:=Y;have ay:(A.key < 18446744073709551616∧A.typ < 256∧A.text.length≤9223372036854775807):=⟨ac,ag,ai⟩;refine wk ?_;intro a F;refine Jn F M Dx rfl (k:=0) rfl Eo ao D (f:=3) tD rfl rfl rfl rfl (X':=A) (fun ch _ h=>by obtain ⟨a_,c_,rfl,h1,h2,h3,h4,_⟩:=h;exact ⟨ar,A.mZ.length,rfl,h1,h2,h3,h4,ap⟩) ?_;clear F M a;intro T w a M al F;revert a;refine wk ?_;intro a F
  exact ⟨_,tM,i+1,T,rfl,am,(N.trans E),fU,M,tM,by have h_:=al;rwa [Vs D] at h_⟩
 intro h8;refine wk ?_;refine Af rfl rfl<|?_
 obtain ⟨a4,an,au,av,U,aa,aq,M⟩:=M.fZ Ac (k:=0) rfl Eo tD;clear aa au av
 exact ⟨an,(N.trans U),M.wn (sR _),_,rfl,aq⟩
def TwR (xs:List ItemD) (i:Nat) (b:Bool):Prop :=
 (b=false∧i=0∧∀ (m:Nat) (y:ItemD),xs[m]?=some y→∀ (k:Nat) (z:ItemD),k < m→xs[k]?=some z→z.key≠y.key) ∨
 (b=true∧(∃ x,xs[i]?=some x∧∃ k z,k < i∧xs[k]?=some z∧z.key=x.key)∧∀ (m:Nat) (y:ItemD),m < i→xs[m]?=some y→∀ (k:Nat) (z:ItemD),k < m→xs[k]?=some z→z.key≠y.key)
def Upto (xs:List ItemD) (i:Nat):Prop:=∀ (m:Nat) (y:ItemD),m < i→xs[m]?=some y→∀ (k:Nat) (z:ItemD),k < m→xs[k]?=some z→z.key≠y.key
theorem Upto.step {xs:List ItemD} {i:Nat} {x:ItemD} (h:Upto xs i) (N:xs[i]?=some x) (I:∀ (k:Nat) (z:ItemD),k < i→xs[k]?=some z→z.key≠x.key):Upto xs (i+1):=by
 intro m y O A k z E H
 rcases Nat.lt_or_ge m i with D | D
 ·exact h m y D A k z E H
 have:m=i:=by omega
 subst this;rw [N] at A;simp only [Option.some.injEq] at A;subst A;exact I k z E H
theorem TwR.uniq {xs:List ItemD} {i j:Nat} {b c:Bool} (h:TwR xs i b) (A:TwR xs j c):i=j∧b=c:=by
 rcases h with ⟨rfl,rfl,h⟩ | ⟨rfl,⟨x,S,k,z,O,T,e⟩,h⟩ <;> rcases A with ⟨rfl,rfl,A⟩ | ⟨rfl,⟨U,H,k',V,E,I,N⟩,A⟩
 ·exact ⟨rfl,rfl⟩
 ·exact absurd N (h j U H k' V E I)
 ·exact absurd e (A i x S k z O T)
 rcases Nat.lt_trichotomy i j with D | D | D
 ·exact absurd e (A i x D S k z O T)
 ·exact ⟨D,rfl⟩
 exact absurd N (h j U D H k' V E I)
end Go.Proofs.YtmmhmcplegpenaaGreatDoor
