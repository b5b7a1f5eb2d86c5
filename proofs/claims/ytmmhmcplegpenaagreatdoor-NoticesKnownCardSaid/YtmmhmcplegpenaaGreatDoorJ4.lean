/- Own lemmas and walks. -/
import Derived.Test.YtmmhmcplegpenaaGreatDoorJ3
set_option linter.unusedSimpArgs false
set_option linter.unusedVariables false
set_option maxRecDepth 10000
set_option maxHeartbeats 1600000
open Go.Value renaming slice→vS,string→vT,int→vI,bool→vB,pointer→vP
open Go.IntKind renaming i64→kI,u64→kU
open Go.Lib renaming cut→xC
open Go.Proofs.Tryz renaming prog→pG
open Go.Y.Res renaming blk→rB,row→rR
open Go.Y (pP qT iI iB iU sN)
open List renaming length_append→lA,length_cons→lC,length_nil→lN,length_take→lT,length_drop→lD,mem_of_getElem?→mG,mem_cons→mC,length_map→lM
namespace Go.Proofs.YtmmhmcplegpenaaGreatDoor.T
open Go Go.Y Go.Proofs
variable {w0 w:World} {G:Av} {L:List Res}
def Y0:Nat→Rd NT
 | 0=>fun _ _ _=>False
 | d+1=>fun G cs x=>∃ a1 a2,cs=[iB x.kind,qT x.tag,qT x.key,vS a1 x.as.length x.as.length,qT x.text,vS a2 x.kids.length x.kids.length] ∧
   Al .u8 x.kind∧(x.tag.length≤9223372036854775807∧x.key.length≤9223372036854775807∧x.text.length≤9223372036854775807) ∧
   Aj Fa 2 G (vS a1 x.as.length x.as.length) x.as∧Aj (Y0 d) 6 G (vS a2 x.kids.length x.kids.length) x.kids
def K3:Rd NT:=fun G cs x=>∃ d,Y0 d G cs x
theorem Ams:∀ {d:Nat} {G:Av} {cs:List Value} {x:NT},Y0 d G cs x→Y0 (d+1) G cs x
 | 0,_,_,_,h=>h.elim
 | d+1,G,cs,x,⟨a1,a2,h1,h2,h3,h4,h5⟩=>⟨a1,a2,h1,h2,h3,h4,h5.imp fun _ _ h=>Ams h⟩
theorem Amt {d e:Nat} {G:Av} {cs:List Value} {x:NT} (h:Y0 d G cs x) (A:d≤e):Y0 e G cs x:=by
 induction A with
 | refl=>exact h
 | step _ ih=>exact Ams ih
theorem Aaa:∀ d:Nat,Hx (Y0 d)
 | 0=>fun _ _ _ _ _ h=>h
 | d+1=>fun G G' cs x hg ⟨a1,a2,h1,h2,h3,h4,h5⟩=>⟨a1,a2,h1,h2,h3,h4.mono Dy hg,h5.mono (Aaa d) hg⟩
theorem Hu:Hx (K3):=fun G A cs x D ⟨d,h⟩=>⟨d,Aaa d G A cs x D h⟩
theorem Arh {G : Av} {cs : List Value} {x : NT} (h : K3 G cs x) : ∃ A D, cs = [iB x.kind, qT x.tag, qT x.key, vS A x.as.length x.as.length, qT x.text, vS D x.kids.length x.kids.length] ∧
      Al .u8 x.kind∧(x.tag.length≤9223372036854775807∧x.key.length≤9223372036854775807∧x.text.length≤9223372036854775807) ∧
      Aj Fa 2 G (vS A x.as.length x.as.length) x.as∧Aj (K3) 6 G (vS D x.kids.length x.kids.length) x.kids:=by
  obtain ⟨d,h⟩:=h
  cases d with
  | zero=>exact h.elim
  | succ d =>
    obtain ⟨A,D,E,H,I,N,O⟩:=h
    exact ⟨A,D,E,H,I,N,O.imp fun _ _ h=>⟨d,h⟩⟩
theorem Akg {G:Av} {v:Value} {xs:List NT} (S:Aj (K3) 6 G v xs):∃ d,Aj (Y0 d) 6 G v xs:=by
 obtain ⟨a,c,N,O,T,I⟩:=S
 rcases I with I | ⟨b,o,U,V⟩
 ·exact ⟨0,a,c,N,O,T,Or.inl I⟩
 ·have key:∀ n,∃ d,∀ i x,i < n→xs[i]?=some x→∃ cs:List Value,cs.length=6∧(∀ u∈cs,u.oneCell' = true)∧At G b (o+i * 6) cs∧Y0 d G cs x:=by
   intro n
   induction n with
   | zero=>exact ⟨0,fun i x h=>by omega⟩
   | succ n ih =>
    obtain ⟨d,E⟩:=ih
    cases D:xs[n]? with
    | none =>
     refine ⟨d,fun i x Y A=>?_⟩
     rcases Nat.lt_or_ge i n with h | h
     ·exact E i x h A
     ·have:i=n:=by omega
      subst this;rw [D] at A;cases A
    | some y =>
     obtain ⟨cs,q1,q2,q3,e,q4⟩:=V n y D;refine ⟨max d e,fun i x Y A=>?_⟩
     rcases Nat.lt_or_ge i n with h | h
     ·obtain ⟨H,r1,r2,r3,r4⟩:=E i x h A
      exact ⟨H,r1,r2,r3,Amt r4 tM⟩
     ·have:i=n:=by omega
      subst this;rw [D] at A;simp only [Option.some.injEq] at A;subst A
      exact ⟨cs,q1,q2,q3,Amt q4 tM⟩
  obtain ⟨d,E⟩:=key xs.length;refine ⟨d,a,c,N,O,T,Or.inr ⟨b,o,U,fun i x D=>E i x ?_ D⟩⟩
  rcases Nat.lt_or_ge i xs.length with h | h
  ·exact h
  ·rw [List.getElem?_eq_none h] at D;cases D
theorem Jd {G:Av} {A D:Option Addr} {x:NT} (H:Al .u8 x.kind) (I:x.tag.length≤9223372036854775807∧x.key.length≤9223372036854775807∧x.text.length≤9223372036854775807)
  (N:Aj Fa 2 G (vS A x.as.length x.as.length) x.as) (E:Aj (K3) 6 G (vS D x.kids.length x.kids.length) x.kids) :
  K3 G [iB x.kind,qT x.tag,qT x.key,vS A x.as.length x.as.length,qT x.text,vS D x.kids.length x.kids.length] x:=by
 obtain ⟨d,E⟩:=Akg E
 exact ⟨d+1,A,D,rfl,H,I,N,E⟩
theorem Zy:∀ {d:Nat} {G:Av} {cs:List Value} {x:NT},Y0 d G cs x→Y1 Fa 2 d G cs x
 | 0,_,_,_,h=>h.elim
 | d+1,_,_,_,⟨a1,a2,h1,h2,h3,h4,h5⟩=>⟨a1,_,a2,_,h1,h2,h3,h4,h5.imp fun _ _ h=>Zy h⟩
theorem weakN {G:Av} {v:Value} {xs:List NT} (h:Aj K3 6 G v xs):Aj rdN 6 G v xs:=h.imp fun _ _ ⟨d,h⟩=>⟨d,Zy h⟩
theorem Ahb (M:Mem w0 G L w) {x:ItemD} {ma:Option Addr} {mc:Nat} (ht:x.text.length≤9223372036854775807) (SM:Aj Cr 1 G (vS ma x.mZ.length mc) x.mZ) (aj:Al .u64 x.key) {ad:Option Addr} {cd:Nat} {xs:List SlotD} (S:Aj rdSlot 3 G (vS ad xs.length cd) xs) (a5:xs.length≤8) (ak:∀ s∈xs,s.src≤3):Calls pG 230 #[.agg #[iU x.key,iB x.typ,qT x.text,vS ma x.mZ.length mc],vS ad xs.length cd] w (Ret w0 G L fun G' v=>∃ a',v=vS a' ((xs).map (Cc x)).length ((xs).map (Cc x)).length∧Aj Fa 2 G' (vS a' ((xs).map (Cc x)).length ((xs).map (Cc x)).length) ((xs).map (Cc x))):=by
 refine Ap (vs:=[_,_]) Tryz.func230 rfl (n:=45) rfl rfl<|?_
 refine Bt<|?_
 refine Ch M rfl rfl rfl<|?_;clear M;intro b1 w M
 refine wk ?_;intro a F;refine Rq (rd:=Fa) (Z:=⟨[],[]⟩) F M Abu.k Ki rfl tD rfl rfl (l:=xs.length) tM rfl tM (by show 32 * _≤_;omega) tM (by simp [Awb,Value.cells,Value.oneCell']) (⟨rfl,Nat.zero_le _,Nat.zero_le _⟩) rfl ?_;clear F M a;intro ae ah w a M am F;revert a;refine wk ?_;have bM:=SM.bound;have aw:0≤x.key∧x.key≤18446744073709551615:=aj;refine wk ?_;refine fun a F=>Bd (fun m a' w'=>∃ (i:Nat),∃ (I:List Value),∃ (ys:List AttrD),m=xs.length - i∧Fits 45 a' [(1,vS ad xs.length cd),(2,pP b1),(5,vS (some ⟨ae,0,none⟩) (xs.length) (xs.length)),(11,vS ad xs.length cd),(12,iI ((xs.length:Nat):Int)),(13,iI ((i:Nat):Int))]∧Mem w0 G (rR (vS (some ⟨ae,0,none⟩) (xs.length) (xs.length)) (xs.length) (I) 282 2::rB b1 [iU x.key,iB x.typ,qT x.text,vS ma x.mZ.length mc] 262::L) w'∧(i≤xs.length)∧(ys=(xs.take i).map (Cc x)++List.replicate (xs.length - i) ⟨[],[]⟩)∧(Els Fa 2 G I ys)) _ ⟨0,ah,_,rfl,fU,M,Nat.zero_le _,by simp,am⟩ ?_;clear F M;rintro m a w ⟨i,I,ys,rfl,F,M,hi,E,Eo⟩;revert a;refine wk ?_;refine qD rfl ?_ ?_
 ·intro h3;refine wk ?_;obtain ⟨A,D⟩:=Aq (xs:=xs) (i:=i) tM;obtain ⟨a2,a7,_,a0,_,ay,⟨rfl,U,T,Y⟩⟩:=S.at D;refine wk ?_;refine B0 M F1 rfl rfl<|?_;clear M;intro b5 w M
  refine Dq rfl<|?_
  intro a F;refine Bf F M F1 0 ?_;clear F M a;intro w a M F;revert a;refine Ao<|Gd<|?_
  have a6:ys.length=xs.length:=by rw [E];simp;omega
  intro a F;refine D5 [(.free,0),(.free,1),(.free,2),(.pure,3),(.free,4),(.pure,5),(.free,6),(.free,7),(.pure,8),(.free,9),(.free,10),(.pure,11),(.free,13),(.free,14),(.pure,15),(.pure,16),(.free,17),(.free,20),(.pure,21),(.keep,12),(.keep,18),(.free,19),(.free,22),(.free,23),(.free,24),(.keep,25)] [] (Keep G [rB b5 [qT A.n,iB A.src,qT A.v] 189,rB b1 [iU x.key,iB x.typ,qT x.text,vS ma x.mZ.length mc] 262]) rfl kR kF (Aw (M.drew _)) ?_;replace M:=M.drew (w.drawn+1);revert a;refine wk ?_;refine k_f (fun a F w _=>Bb Gh.k ⟨_,by rw [Be Cj.k]⟩ (F.ev rfl) (Gn tM tM)) rfl<|wk ?_;refine k_k rfl<|?_
  have au:(x.key:Int)=(((x.key).toNat:Nat):Int):=by omega
  intro a F;rw [au] at F;revert a;refine A2 Alm rfl rfl (Tz (u:=(x.key).toNat) M tM)<|?_;clear M;rintro _ w M rfl
  refine Ao<|?_
  refine eQ (Aw M)<|k_k rfl<|A2 Alm rfl rfl (Tz (u:=x.mZ.length) M tM)<|?_;clear M;rintro _ w M rfl
  refine Ao<|?_
  refine eQ (Aw M)<|k_f (fun a F w _=>C9 F (cs:=[qT A.v,qT x.text,qT (Lib.decDigits ((x.key).toNat)),qT (Lib.decDigits x.mZ.length)]) Abr.k Abr Dg rfl rfl) rfl<|?_
  have aq:=ak A (mG D);have ar:=Ly T;refine k_f (fun a F w _=>V2 (j:=A.src.toNat) (v:=qT (I0 x A)) Abr.k Dg rfl rfl (F.ev rfl) (F.ev rfl) tM tM (pick4 ar.1 aq)) rfl<|k_f (fun a F w _=>Am (cs:=[qT A.n,qT (I0 x A)]) Ki.k rfl Ki (F.evp rfl) rfl) rfl<|?_
  obtain ⟨a1,H⟩:=Aq (xs:=ys) (i:=i) tM;obtain ⟨a3,_,an,ax,_,az,⟨rfl,ap,av⟩⟩:=M.atRow (k:=1) rfl tD Eo H;refine wk ?_;refine k_k rfl<|fun a F=>?_
  refine M7 F M Ki (k:=1) rfl rfl Eo an (A3 H) rfl rfl (us:=[qT A.n,qT (I0 x A)]) rfl rfl tS (X':=Cc x A) (⟨rfl,U,Abd ht aj (by have:=SM.bound;omega) A Y⟩) ?_;clear F M a;intro ag w a M al F;revert a;refine Ao<|?_
  refine eQ (Aw M)<|wk ?_;intro a F
  exact ⟨_,tM,i+1,ag,_,rfl,fU,(M.wn tW),tM,by rw [E];exact Aly D,al⟩
 intro a4;refine wk ?_;refine Af rfl rfl<|?_
 rw [List.take_of_length_le tM,show xs.length - i=0 by omega,List.replicate_zero,List.append_nil] at E;rw [E] at Eo;obtain ⟨V,aa,ac,ai,N,O,ab,M⟩:=M.fZ Dy (k:=0) rfl Eo tD;clear O ac ai;have ao:((xs).map (Cc x)).length=xs.length:=by simp
 exact ⟨aa,N,M.wn dS1,_,by rw [ao],by have h_:=ab;rw [V] at h_;exact h_⟩
theorem Lh (M:Mem w0 G L w) {s:List UInt8}:Calls pG 218 #[qT s] w (B5 w0 G L fun v=>v=.agg #[iB 2,qT [],qT [],sN,qT s,sN]):=by
 refine Ap (vs:=[_]) Tryz.func218 rfl (n:=5) rfl rfl<|?_
 refine Bt<|?_
 refine B0 M A1 rfl rfl<|?_;clear M;intro A w M
 refine wk ?_;refine Ak (fun a F=>Am (cs:=[iB 2,qT [],qT [],sN,qT s,sN]) A1.k rfl A1 (F.evp rfl) rfl) rfl<|fun a F=>?_
 refine Bf F M A1 0<|sZ ?_;clear F M a;intro w M;refine wk ?_;refine fun a F=>Hf F M (k:=0) rfl rfl A1 rfl rfl rfl ?_
 exact ⟨M.wn dS1,rfl⟩
theorem Alt (M:Mem w0 G L w) {A:Option Addr} {D:Nat} {ks:List NT} (S:Aj K3 6 G (vS A ks.length D) ks):Calls pG 231 #[vS A ks.length D] w (B5 w0 G L fun v=>v=vS A ks.length ks.length):=by
 have I:=S.bound;refine Ap (vs:=[_]) Tryz.func231 rfl (n:=9) rfl rfl<|wk ?_;have E:=S.bound;refine Ak (fun a F=>V0 (h:=ks.length) (q:=ks.length) D6.k A1 (F.ev rfl) (F.ev rfl) tM (F.ev rfl) tM tM tM) rfl<|?_
 have H:=S.clip;refine wk ?_;refine Af rfl rfl<|?_
 exact ⟨M,rfl⟩
theorem Xb (M : Mem w0 G L w) {x : ItemD} {Y : Option Addr} {mc : Nat} (ht : x.text.length ≤ 9223372036854775807) (SM : Aj Cr 1 G (vS Y x.mZ.length mc) x.mZ) (ab : Al .u64 x.key) {p : PT} {I : Option Addr} {N : Nat} {E : Option Addr} {H : Nat} (ae : Al .u8 p.kind) (ag : (p.tag.length ≤ 9223372036854775807 ∧ p.key.length ≤ 9223372036854775807 ∧ p.text.length ≤ 9223372036854775807)) (SAp : Aj rdSlot 3 G (vS I p.as.length N) p.as) (SKp : Aj rdP 6 G (vS E p.kids.length H) p.kids) (U : H3 p.as) {kk : List UInt8} {D : Option Addr} {V : Nat} {ks : List NT} (S : Aj K3 6 G (vS D ks.length V) ks) : Calls pG 217 #[.agg #[iU x.key, iB x.typ, qT x.text, vS Y x.mZ.length mc], .agg #[iB p.kind, qT p.tag, qT p.key, vS I p.as.length N, qT p.text, vS E p.kids.length H], qT kk, vS D ks.length V] w (Ret w0 G L fun G' v => ∃ a', v = .agg #[iB 1, qT p.tag, qT kk, vS a' (p.as.map (Cc x)).length (p.as.map (Cc x)).length, qT [], vS D ks.length ks.length] ∧
      Aj Fa 2 G' (vS a' (p.as.map (Cc x)).length (p.as.map (Cc x)).length) (p.as.map (Cc x))∧Aj K3 6 G' (vS D ks.length ks.length) ks):=by
  refine Ap (vs:=[_,_,_,_]) Tryz.func217 rfl (n:=19) rfl rfl<|?_
  refine Bt<|?_
  refine Ch M rfl rfl rfl<|?_;clear M;intro b1 w M
  refine Ch M rfl rfl rfl<|?_;clear M;intro b2 w M
  refine B0 M A1 rfl rfl<|?_;clear M;intro b3 w M
  refine wk ?_;refine fun a F=>D5 [(.free,0),(.pure,1),(.free,2),(.pure,3),(.free,4),(.pure,5),(.free,7),(.keep,6),(.keep,8),(.free,9),(.keep,10)] [] (Keep G [rB b2 [iB p.kind,qT p.tag,qT p.key,vS I p.as.length N,qT p.text,vS E p.kids.length H] 79,rB b1 [iU x.key,iB x.typ,qT x.text,vS Y x.mZ.length mc] 262]) rfl kR kF (Aw (M.drew _)) ?_;replace M:=M.drew (w.drawn+1);revert a;refine wk ?_;refine k_k rfl<|C3 ent230 rfl rfl (Ahb (x:=x) (xs:=p.as) M ht SM ab SAp U.1 (fun s_ ac=>Aqk U ac))<|?_;clear M;rintro _ O w A M ⟨T,rfl,aa⟩
  replace S:=S.mono Hu A;refine Ao<|?_
  refine eK (C':=Keep O [rB b2 [iB p.kind,qT p.tag,qT p.key,vS I p.as.length N,qT p.text,vS E p.kids.length H] 79,rB b1 [iU x.key,iB x.typ,qT x.text,vS Y x.mZ.length mc] 262]) (Aw M) (fun w h=>h.mono A (by simp))<|k_k rfl<|A2 ent231 rfl rfl (Alt (ks:=ks) M S)<|?_;clear M;rintro _ w M rfl
  have S6:=S.clip;refine Ao<|?_
  refine eK (C':=Keep O [rB b2 [iB p.kind,qT p.tag,qT p.key,vS I p.as.length N,qT p.text,vS E p.kids.length H] 79,rB b1 [iU x.key,iB x.typ,qT x.text,vS Y x.mZ.length mc] 262]) (Aw M) (fun w h=>h.mono (Gle.refl _) (by simp))<|k_f (fun a F w _=>Am (cs:=[iB 1,qT p.tag,qT kk,vS T ((p.as.map (Cc x)).length) ((p.as.map (Cc x)).length),qT [],vS D ks.length ks.length]) A1.k rfl A1 (F.evp rfl) rfl) rfl<|k_k rfl<|fun a F=>?_
  refine Bf F M A1 0<|sZ ?_;clear F M a;intro w M;refine Ao<|?_
  refine eQ (Aw M)<|wk ?_;refine fun a F=>Hf F M (k:=0) rfl rfl A1 rfl rfl rfl ?_
  exact ⟨_,A,M.wn dS3,_,rfl,aa,S6⟩
def A2h (x:ItemD) (ps:List PT):Prop:=∀ (w0 w:World) (G:Av) (L:List Res) (ma pa:Option Addr) (mc pc:Nat),Mem w0 G L w→Aj Cr 1 G (vS ma x.mZ.length mc) x.mZ→Aj rdP 6 G (vS pa ps.length pc) ps→ps.length≤16→(∀ p∈ps,∃ n,Tr.Ok Bm n p) →
  Calls pG 192 #[.agg #[iU x.key,iB x.typ,qT x.text,vS ma x.mZ.length mc],vS pa ps.length pc] w (Ret w0 G L fun G' v=>∃ a' c',v=vS a' (madesF x ps).length c'∧Aj K3 6 G' (vS a' (madesF x ps).length c') (madesF x ps))
theorem Xa {x:ItemD} (a2:Al .u64 x.key) (aU:ItemOk x) (ht:x.text.length≤9223372036854775807) {ps:List PT} (ih:∀ p∈ps,A2h x p.kids) {w0 w:World} {G:Av} {L:List Res} (M:Mem w0 G L w) {ma pa:Option Addr} {mc pc:Nat} (SM:Aj Cr 1 G (vS ma x.mZ.length mc) x.mZ) (S:Aj rdP 6 G (vS pa ps.length pc) ps) (ct:ps.length≤16) (bL:∀ p∈ps,∃ n,Tr.Ok Bm n p) :
  Calls pG 192 #[.agg #[iU x.key,iB x.typ,qT x.text,vS ma x.mZ.length mc],vS pa ps.length pc] w (Ret w0 G L fun G' v=>∃ a' c',v=vS a' (madesF x ps).length c'∧Aj K3 6 G' (vS a' (madesF x ps).length c') (madesF x ps)):=by
 refine Ap (vs:=[_,_]) Tryz.func192 rfl (n:=82) rfl rfl<|?_
 refine Bt<|?_
 refine Ch M rfl rfl rfl<|?_;clear M;intro b1 w M
 refine wk ?_;have bM:=SM.bound;have ca:=aU.2.2.1;have bZ:0≤x.key∧x.key≤18446744073709551615:=a2;refine wk ?_;have M:=M.nilrow 193 6;intro a F;refine Bd (fun m a' w'=>∃ (i:Nat),∃ (ay:Option Addr),∃ (ny:Nat),∃ (cy:Nat),∃ (ac:List Value),m=ps.length - i∧∃ G2,Gle G G2∧Fits 82 a' [(2,pP b1),(10,vS pa ps.length pc),(11,iI ((ps.length:Nat):Int)),(5,vS ay ny cy),(12,iI ((i:Nat):Int))]∧Mem w0 G2 (rR (vS ay ny cy) (ny) (ac) 193 6::rB b1 [iU x.key,iB x.typ,qT x.text,vS ma x.mZ.length mc] 262::L) w'∧(i≤ps.length)∧(ny=(madesF x (ps.take i)).length)∧(Els K3 6 G2 ac (madesF x (ps.take i)))) _ ⟨0,(none),(0),(0),([]),rfl,G,Gle.refl _,fU,M,Nat.zero_le _,rfl,Els.nil⟩ ?_;clear F M;rintro m a w ⟨i,ay,ny,cy,ac,rfl,G2,ae,F,M,hi,ag,Ey⟩;replace SM:=SM.mono Au ae;replace S:=S.mono mono_rdP ae;revert a;refine wk ?_;refine qD rfl ?_ ?_
 ·intro h3;refine wk ?_;have bJ:=Pk aU.2.2.1 (ps.take i);intro a F;rw [lT] at bJ;revert a;refine wk ?_;obtain ⟨A,E⟩:=Aq (xs:=ps) (i:=i) tM;obtain ⟨ce,cu,_,cd,_,Ae4,aT⟩:=S.at E;obtain ⟨Y,aa,U,V,rfl,aq,N,SAe4,SKe4⟩:=D7 aT;refine wk ?_;refine B0 M E6 rfl rfl<|?_;clear M;intro b5 w M
  intro a F;refine Bf F M E6 0 ?_;clear F M a;intro w a M F;revert a;refine Ca<|?_
  obtain ⟨nk,ao⟩:=bL A (mG E);refine Hg<|Io E6.k rfl rfl<|Ns Cp M 0 rfl rfl rfl rfl<|H2<|Bt<|s_eq rfl rfl<|Dq rfl<|Ao<|Gd<|?_
  refine qD rfl ?_ ?_
  ·intro h7;intro a F;refine D5 [(.free,0),(.pure,1),(.pure,2),(.free,3),(.pure,4),(.pure,5),(.free,6),(.pure,7),(.keep,8),(.keep,9),(.keep,10),(.keep,11),(.free,12)] [] (Keep G2 [rB b5 [iB A.kind,qT A.tag,qT A.key,vS Y A.as.length aa,qT A.text,vS U A.kids.length V] 79,rB b1 [iU x.key,iB x.typ,qT x.text,vS ma x.mZ.length mc] 262]) rfl kR kF (Aw (M.drew _)) ?_;replace M:=M.drew (w.drawn+1);revert a;refine wk ?_;refine k_k rfl<|C3 A0s rfl rfl (ih A (mG E) _ _ _ _ _ _ _ _ M SM SKe4 (Aod ao) (Wv ao))<|?_;clear M;rintro _ b6 w T M ⟨av,ck8,rfl,Sk8⟩
   replace SM:=SM.mono Au T;replace Ey:=Ey.mono Hu T;replace Ae4:=Ae4.mono T;replace SAe4:=SAe4.mono mono_rdSlot T;replace SKe4:=SKe4.mono mono_rdP T;refine Ao<|?_
   refine eK (C':=Keep b6 [rB b5 [iB A.kind,qT A.tag,qT A.key,vS Y A.as.length aa,qT A.text,vS U A.kids.length V] 79,rB b1 [iU x.key,iB x.typ,qT x.text,vS ma x.mZ.length mc] 262]) (Aw M) (fun w h=>h.mono T (by simp))<|k_k rfl<|C3 A0p rfl rfl (Xb (x:=x) (p:=A) (kk:=A.key) (ks:=madesF x A.kids) M ht SM a2 aq N SAe4 SKe4 (Kd ao tM) Sk8)<|?_;clear M;rintro _ an w O M ⟨aw,rfl,aB,aC⟩
   replace SM:=SM.mono Au O;replace Ey:=Ey.mono Hu O;replace Ae4:=Ae4.mono O;replace SAe4:=SAe4.mono mono_rdSlot O;replace SKe4:=SKe4.mono mono_rdP O;refine Ao<|?_
   refine eK (C':=Keep an [rB b5 [iB A.kind,qT A.tag,qT A.key,vS Y A.as.length aa,qT A.text,vS U A.kids.length V] 79,rB b1 [iU x.key,iB x.typ,qT x.text,vS ma x.mZ.length mc] 262]) (Aw M) (fun w h=>h.mono O (by simp))<|k_k rfl<|fun a F=>?_
   refine Ar F M D6.k A1 rfl rfl (cs:=[iB 1,qT A.tag,qT A.key,vS aw ((A.as.map (Cc x)).length) ((A.as.map (Cc x)).length),qT [],vS av ((madesF x A.kids).length) ((madesF x A.kids).length)]) rfl rfl tS tD rfl ?_;clear F M a;intro cv w a M F;obtain ⟨bO,bU,rfl,bj,aW,b7⟩:=M.rS (k:=0) rfl;revert a;refine Ao<|?_
   refine eK (C':=Keep an [rB b5 [iB A.kind,qT A.tag,qT A.key,vS Y A.as.length aa,qT A.text,vS U A.kids.length V] 79,rB b1 [iU x.key,iB x.typ,qT x.text,vS ma x.mZ.length mc] 262]) (Aw M) (fun w h=>h.mono (Gle.refl _) (by simp))<|?_
   have bw:Els K3 6 an [iB 1,qT A.tag,qT A.key,vS aw ((A.as.map (Cc x)).length) ((A.as.map (Cc x)).length),qT [],vS av ((madesF x A.kids).length) ((madesF x A.kids).length)] [(.mk 1 A.tag A.key (A.as.map (Cc x)) [] (madesF x A.kids):NT)]:=Els.one (Jd (x:=(.mk 1 A.tag A.key (A.as.map (Cc x)) [] (madesF x A.kids):NT)) Aqh ⟨N.1,(by first | assumption | exact N.2.1),Nat.zero_le _⟩ aB aC) rfl;refine k_k rfl<|fun a F=>?_
   refine A4 F M (k:=2) (k2:=0) rfl rfl D6.k A1 rfl rfl tD rfl rfl tX tO rfl ?_;clear F M a;intro cw w a M F;have a4:=Els.append Ey bw;obtain ⟨aE,aL,rfl,bk,aX,b8⟩:=M.rS (k:=2) rfl;revert a;refine Ao<|?_
   refine eQ (Aw M)<|wk ?_;intro a F
   exact ⟨_,tM,i+1,(aE),(ny+1),(aL),(ac++([iB 1,qT A.tag,qT A.key,vS aw ((A.as.map (Cc x)).length) ((A.as.map (Cc x)).length),qT [],vS av ((madesF x A.kids).length) ((madesF x A.kids).length)])),rfl,an,((ae.trans T).trans O),fU,(M.wn tW),tM,by rw [Dr E,Un tA,lA,← ag];rfl,by rw [Dr E,Un tA];exact a4⟩
  intro cf;refine wk ?_;refine qD rfl ?_ ?_
  ·intro cg;refine wk ?_;refine A2 Ady rfl rfl (Lh (s:=A.text) M)<|?_;clear M;rintro _ w M rfl
   intro a F;refine Ar F M D6.k A1 rfl rfl (cs:=[iB 2,qT [],qT [],sN,qT A.text,sN]) rfl rfl tS tD rfl ?_;clear F M a;intro cx w a M F;obtain ⟨bP,bV,rfl,bl,aY,b9⟩:=M.rS (k:=0) rfl;have bx:Els K3 6 G2 [iB 2,qT [],qT [],sN,qT A.text,sN] [(Bn A.text)]:=Els.one (Jd (x:=(Bn A.text)) Abp ⟨Nat.zero_le _,Nat.zero_le _,(by first | assumption | exact N.2.2 | (have h_:=C7 x.key.toNat tM;show (Lib.decDigits x.key.toNat).length≤_;omega))⟩ Aj.nil Aj.nil) rfl;refine A4 F M (k:=2) (k2:=0) rfl rfl D6.k A1 rfl rfl tD rfl rfl tX tO rfl ?_;clear F M a;intro c0 w a M F;have a5:=Els.append Ey bx;obtain ⟨aF,aM,rfl,bm,aZ,bA⟩:=M.rS (k:=2) rfl;revert a;refine wk ?_;intro a F
   exact ⟨_,tM,i+1,(aF),(ny+1),(aM),(ac++([iB 2,qT [],qT [],sN,qT A.text,sN])),rfl,G2,ae,fU,(M.wn tW),tM,by rw [Dr E,Aor tA,lA,← ag];rfl,by rw [Dr E,Aor tA];exact a5⟩
  intro ci;refine wk ?_;refine qD rfl ?_ ?_
  ·intro cj;refine wk ?_;refine A2 Ady rfl rfl (Lh (s:=x.text) M)<|?_;clear M;rintro _ w M rfl
   intro a F;refine Ar F M D6.k A1 rfl rfl (cs:=[iB 2,qT [],qT [],sN,qT x.text,sN]) rfl rfl tS tD rfl ?_;clear F M a;intro c1 w a M F;obtain ⟨bQ,bW,rfl,bn,ba,bB⟩:=M.rS (k:=0) rfl;have bz:Els K3 6 G2 [iB 2,qT [],qT [],sN,qT x.text,sN] [(Bn x.text)]:=Els.one (Jd (x:=(Bn x.text)) Abp ⟨Nat.zero_le _,Nat.zero_le _,(by first | assumption | exact N.2.2 | (have h_:=C7 x.key.toNat tM;show (Lib.decDigits x.key.toNat).length≤_;omega))⟩ Aj.nil Aj.nil) rfl;refine A4 F M (k:=2) (k2:=0) rfl rfl D6.k A1 rfl rfl tD rfl rfl tX tO rfl ?_;clear F M a;intro c2 w a M F;have a6:=Els.append Ey bz;obtain ⟨aG,aN,rfl,bo,bb,bC⟩:=M.rS (k:=2) rfl;revert a;refine wk ?_;intro a F
   exact ⟨_,tM,i+1,(aG),(ny+1),(aN),(ac++([iB 2,qT [],qT [],sN,qT x.text,sN])),rfl,G2,ae,fU,(M.wn tW),tM,by rw [Dr E,Aoq tA,lA,← ag];rfl,by rw [Dr E,Aoq tA];exact a6⟩
  intro ck;refine wk ?_;refine qD rfl ?_ ?_
  ·intro cl;refine wk ?_;have aV:(x.key:Int)=(((x.key).toNat:Nat):Int):=by omega
   intro a F;rw [aV] at F;revert a;refine A2 Alm rfl rfl (Tz (u:=(x.key).toNat) M tM)<|?_;clear M;rintro _ w M rfl
   refine A2 Ady rfl rfl (Lh (s:=Lib.decDigits ((x.key).toNat)) M)<|?_;clear M;rintro _ w M rfl
   intro a F;refine Ar F M D6.k A1 rfl rfl (cs:=[iB 2,qT [],qT [],sN,qT (Lib.decDigits ((x.key).toNat)),sN]) rfl rfl tS tD rfl ?_;clear F M a;intro c4 w a M F;obtain ⟨bR,bX,rfl,bp,be,bD⟩:=M.rS (k:=0) rfl;have b0:Els K3 6 G2 [iB 2,qT [],qT [],sN,qT (Lib.decDigits ((x.key).toNat)),sN] [(Bn (Lib.decDigits ((x.key).toNat)))]:=Els.one (Jd (x:=(Bn (Lib.decDigits ((x.key).toNat)))) Abp ⟨Nat.zero_le _,Nat.zero_le _,(by first | assumption | exact N.2.2 | (have h_:=C7 x.key.toNat tM;show (Lib.decDigits x.key.toNat).length≤_;omega))⟩ Aj.nil Aj.nil) rfl;refine A4 F M (k:=2) (k2:=0) rfl rfl D6.k A1 rfl rfl tD rfl rfl tX tO rfl ?_;clear F M a;intro c5 w a M F;have a7:=Els.append Ey b0;obtain ⟨aH,aO,rfl,bq,bf,bF⟩:=M.rS (k:=2) rfl;revert a;refine wk ?_;intro a F
   exact ⟨_,tM,i+1,(aH),(ny+1),(aO),(ac++([iB 2,qT [],qT [],sN,qT (Lib.decDigits ((x.key).toNat)),sN])),rfl,G2,ae,fU,(M.wn tW),tM,by rw [Dr E,Aop tA,lA,← ag];rfl,by rw [Dr E,Aop tA];exact a7⟩
  intro cm;refine wk ?_;refine qD rfl ?_ ?_
  ·intro cn;refine wk ?_;refine fun a F=>Bd (fun m a' w'=>∃ (j:Nat),∃ (az:Option Addr),∃ (nz:Nat),∃ (cz:Nat),∃ (am:List Value),m=x.mZ.length - j∧∃ ah,Gle G2 ah∧Fits 82 a' [(2,pP b1),(7,pP b5),(10,vS pa ps.length pc),(11,iI ((ps.length:Nat):Int)),(12,iI ((i:Nat):Int)),(63,vS ma x.mZ.length mc),(64,iI ((x.mZ.length:Nat):Int)),(5,vS az nz cz),(65,iI ((j:Nat):Int))]∧Mem w0 ah (rB b5 [iB A.kind,qT A.tag,qT A.key,vS Y A.as.length aa,qT A.text,vS U A.kids.length V] 79::rR (vS az nz cz) (nz) (am) 193 6::rB b1 [iU x.key,iB x.typ,qT x.text,vS ma x.mZ.length mc] 262::L) w'∧(j≤x.mZ.length)∧(nz=(madesF x (ps.take i)++(x.mZ.take j).map (Aaw x A.tag A.as)).length)∧(Els K3 6 ah am (madesF x (ps.take i)++(x.mZ.take j).map (Aaw x A.tag A.as)))) _ ⟨0,(ay),(ny),(cy),(ac),rfl,G2,Gle.refl _,fU,M,Nat.zero_le _,by simp [← ag],by simpa using Ey⟩ ?_;clear F M;rintro m a w ⟨j,az,nz,cz,am,rfl,ah,ab,F,M,hj,ap,Ez⟩;replace SM:=SM.mono Au ab;replace Ae4:=Ae4.mono ab;replace SAe4:=SAe4.mono mono_rdSlot ab;replace SKe4:=SKe4.mono mono_rdP ab;revert a;refine wk ?_;refine qD rfl ?_ ?_
   ·intro co;refine wk ?_;have cb:nz≤200:=by rw [ap,lA,lM,lT];omega
    refine wk ?_;obtain ⟨D,ai⟩:=Aq (xs:=x.mZ) (i:=j) tM;obtain ⟨bT,cc,_,bN,_,Ae33,⟨rfl,bv⟩⟩:=SM.at ai;refine wk ?_;refine fun a F=>D5 [(.free,0),(.pure,1),(.pure,2),(.free,3),(.free,4),(.keep,5),(.keep,6),(.keep,7),(.keep,8),(.keep,9),(.free,10)] [] (Keep ah [rB b5 [iB A.kind,qT A.tag,qT A.key,vS Y A.as.length aa,qT A.text,vS U A.kids.length V] 79,rB b1 [iU x.key,iB x.typ,qT x.text,vS ma x.mZ.length mc] 262]) rfl kR kF (Aw (M.drew _)) ?_;replace M:=M.drew (w.drawn+1);revert a;refine wk ?_;refine k_k rfl<|A2 Ady rfl rfl (Lh (s:=D) M)<|?_;clear M;rintro _ w M rfl
    refine Ao<|?_
    refine eQ (Aw M)<|k_k rfl<|fun a F=>?_
    refine Ar F M D6.k A1 rfl rfl (cs:=[iB 2,qT [],qT [],sN,qT D,sN]) rfl rfl tS tD rfl ?_;clear F M a;intro c6 w a M F;obtain ⟨ak,aP,rfl,br,bg,bG⟩:=M.rS (k:=0) rfl;revert a;refine Ao<|?_
    refine eQ (Aw M)<|?_
    have b3:Els K3 6 ah [iB 2,qT [],qT [],sN,qT D,sN] [(Bn D)]:=Els.one (Jd (x:=(Bn D)) Abp ⟨Nat.zero_le _,Nat.zero_le _,(by first | assumption | exact N.2.2 | (have h_:=C7 x.key.toNat tM;show (Lib.decDigits x.key.toNat).length≤_;omega))⟩ Aj.nil Aj.nil) rfl;obtain ⟨a3,a9,aJ,aR,I,a0,Sz36,M⟩:=M.fZ Hu (k:=0) rfl b3 tD;clear a0 aJ aR;replace SM:=SM.mono Au I;replace Ae4:=Ae4.mono I;replace SAe4:=SAe4.mono mono_rdSlot I;replace SKe4:=SKe4.mono mono_rdP I;replace Ez:=Ez.mono Hu I;replace Ae33:=Ae33.mono I;clear a3;replace Sz36:Aj K3 6 a9 (vS ak ([(Bn D)]).length (aP)) ([(Bn D)]):=Sz36;refine k_k rfl<|C3 A0p rfl rfl (Xb (x:=x) (p:=A) (kk:=D) (ks:=[(Bn D)]) M ht SM a2 aq N SAe4 SKe4 (Kd ao tM) Sz36)<|?_;clear M;rintro _ aj w H M ⟨al,rfl,ar,au⟩
    replace Ae4:=Ae4.mono H;replace Ez:=Ez.mono Hu H;replace Ae33:=Ae33.mono H;refine Ao<|?_
    refine eK (C':=Keep aj [rB b5 [iB A.kind,qT A.tag,qT A.key,vS Y A.as.length aa,qT A.text,vS U A.kids.length V] 79,rB b1 [iU x.key,iB x.typ,qT x.text,vS ma x.mZ.length mc] 262]) (Aw M) (fun w h=>h.mono (I.trans H) (by simp))<|k_k rfl<|fun a F=>?_
    refine Ar F M D6.k A1 rfl rfl (cs:=[iB 1,qT A.tag,qT D,vS al ((A.as.map (Cc x)).length) ((A.as.map (Cc x)).length),qT [],vS ak (([(Bn D)]).length) (([(Bn D)]).length)]) rfl rfl tS tD rfl ?_;clear F M a;intro c7 w a M F;obtain ⟨bS,bY,rfl,bt,bh,bH⟩:=M.rS (k:=0) rfl;revert a;refine Ao<|?_
    refine eK (C':=Keep aj [rB b5 [iB A.kind,qT A.tag,qT A.key,vS Y A.as.length aa,qT A.text,vS U A.kids.length V] 79,rB b1 [iU x.key,iB x.typ,qT x.text,vS ma x.mZ.length mc] 262]) (Aw M) (fun w h=>h.mono (Gle.refl _) (by simp))<|?_
    have b4:Els K3 6 aj [iB 1,qT A.tag,qT D,vS al ((A.as.map (Cc x)).length) ((A.as.map (Cc x)).length),qT [],vS ak (([(Bn D)]).length) (([(Bn D)]).length)] [(.mk 1 A.tag D (A.as.map (Cc x)) [] ([(Bn D)]):NT)]:=Els.one (Jd (x:=(.mk 1 A.tag D (A.as.map (Cc x)) [] ([(Bn D)]):NT)) Aqh ⟨N.1,(by first | assumption | exact N.2.1),Nat.zero_le _⟩ ar au) rfl;refine k_k rfl<|fun a F=>?_
    refine A4 F M (k:=2) (k2:=0) rfl rfl D6.k A1 rfl rfl tD rfl rfl tX tO rfl ?_;clear F M a;intro c8 w a M F;have a8:=Els.append Ez b4;obtain ⟨aI,aQ,rfl,bu,bi,bI⟩:=M.rS (k:=2) rfl;revert a;refine Ao<|?_
    refine eQ (Aw M)<|wk ?_;intro a F
    exact ⟨_,tM,j+1,(aI),(nz+1),(aQ),(am++([iB 1,qT A.tag,qT D,vS al ((A.as.map (Cc x)).length) ((A.as.map (Cc x)).length),qT [],vS ak (([(Bn D)]).length) (([(Bn D)]).length)])),rfl,aj,((ab.trans I).trans H),fU,(M.wn tW),tM,by rw [Kg ai,← List.append_assoc,lA,← ap];rfl,by rw [Kg ai,← List.append_assoc];exact a8⟩
   intro cp;refine wk ?_;intro a F
   exact ⟨_,tM,i+1,(az),(nz),(cz),(am),rfl,ah,(ae.trans ab),fU,(M.wn tW),tM,by rw [Dr E,Aoo tA];rw [List.take_of_length_le (l:=x.mZ) tM] at ap;exact ap,by rw [Dr E,Aoo tA];rw [List.take_of_length_le (l:=x.mZ) tM] at Ez;exact Ez⟩
  intro cq;refine wk ?_;intro a F
  exact ⟨_,tM,i+1,(ay),(ny),(cy),(ac),rfl,G2,ae,fU,(M.wn tW),tM,by rw [Dr E,made0 tA tA tA tA tA,List.append_nil];exact ag,by rw [Dr E,made0 tA tA tA tA tA,List.append_nil];exact Ey⟩
 intro cr;refine wk ?_;refine Af rfl rfl<|?_
 rw [List.take_of_length_le tM] at ag Ey;obtain ⟨bK,aA,aK,aS,ax,a1,aD,M⟩:=M.fZ Hu (k:=0) rfl Ey tD;clear a1 aK aS
 exact ⟨aA,(ae.trans ax),M.wn dS1,_,_,by rw [ag],by have h_:=aD;rw [ag] at h_;exact h_⟩
theorem Aub {x:ItemD} (E:Al .u64 x.key) (H:ItemOk x) (O:x.text.length≤9223372036854775807) (ps:List PT):A2h x ps:=by
 suffices h:∀ n (ps:List PT),Tr.sizes ps≤n→A2h x ps from h _ ps (Nat.le_refl _)
 intro n
 induction n with
 | zero=>intro ps T w0 w G L U Y V pc M I S D A;exact Xa E H O (fun p N=>by have:=P8 N;omega) M I S D A
 | succ n ih=>intro ps T w0 w G L U Y V pc M I S D A;exact Xa E H O (fun p N=>ih _ (by have:=P8 N;omega)) M I S D A
theorem trender_spec {w0 w:World} {G:Av} {L:List Res} (M:Mem w0 G L w) {p:PT} {V:Option Addr} {Y:Nat} {T:Option Addr} {U:Nat} (au:Al .u8 p.kind) (av:(p.tag.length≤9223372036854775807∧p.key.length≤9223372036854775807∧p.text.length≤9223372036854775807)) (SAp:Aj rdSlot 3 G (vS V p.as.length Y) p.as) (SKp:Aj rdP 6 G (vS T p.kids.length U) p.kids) {x:ItemD} {ma:Option Addr} {mc:Nat} (ht:x.text.length≤9223372036854775807) (SM:Aj Cr 1 G (vS ma x.mZ.length mc) x.mZ) (a5:Al .u64 x.key) {most:Int}:Calls pG 157 #[.agg #[iB p.kind,qT p.tag,qT p.key,vS V p.as.length Y,qT p.text,vS T p.kids.length U],.agg #[iU x.key,iB x.typ,qT x.text,vS ma x.mZ.length mc],iI most] w (Ret w0 G L fun G' v=>∃ a1 a2,v=.tuple #[.agg #[iB (D3 p x most).kind,qT (D3 p x most).tag,qT (D3 p x most).key,vS a1 (D3 p x most).as.length (D3 p x most).as.length,qT (D3 p x most).text,vS a2 (D3 p x most).kids.length (D3 p x most).kids.length],iI (rendE p x most)]∧Aj Fa 2 G' (vS a1 (D3 p x most).as.length (D3 p x most).as.length) (D3 p x most).as∧Aj K3 6 G' (vS a2 (D3 p x most).kids.length (D3 p x most).kids.length) (D3 p x most).kids):=by
 refine Ap (vs:=[_,_,_]) Tryz.func157 rfl (n:=49) rfl rfl<|?_
 refine Bt<|?_
 refine Ch M rfl rfl rfl<|?_;clear M;intro b1 w M
 refine Ch M rfl rfl rfl<|?_;clear M;intro b2 w M
 refine B0 M A1 rfl rfl<|?_;clear M;intro b3 w M
 refine wk ?_
 rcases bE (decide (most < 1)) with az | a0
 ·skip
  have h5:=dT az;refine wk ?_;refine Ak (fun a F=>Am (cs:=[iB 0,qT [],qT [],sN,qT [],sN]) A1.k rfl A1 (F.evp rfl) rfl) rfl<|fun a F=>?_
  refine Bf F M A1 0<|sZ ?_;clear F M a;intro w M;refine wk ?_;refine fun a F=>B1 F M (k:=0) rfl rfl A1 rfl rfl rfl rfl ?_;have H:rendE p x most=1:=Rr tM;have E:D3 p x most=K6:=Gx (by rw [H];(first | decide | omega))
  exact ⟨_,(Gle.refl _),(M.wn tW),none,none,by rw [H,E];rfl,by rw [E];exact Aj.nil,by rw [E];exact Aj.nil⟩
 have h6:=dF a0;refine wk ?_;refine qD rfl ?_ ?_
 ·intro h7;refine Bt<|?_
  refine Ak (fun a F=>Am (cs:=[iB 0,qT [],qT [],sN,qT [],sN]) A1.k rfl A1 (F.evp rfl) rfl) rfl<|fun a F=>?_
  refine Bf F M A1 0<|sZ ?_;clear F M a;intro w M;refine wk ?_;refine fun a F=>B1 F M (k:=0) rfl rfl A1 rfl rfl rfl rfl ?_;have H:rendE p x most=1:=Rr tM;have E:D3 p x most=K6:=Gx (by rw [H];(first | decide | omega))
  exact ⟨_,(Gle.refl _),(M.wn tW),none,none,by rw [H,E];rfl,by rw [E];exact Aj.nil,by rw [E];exact Aj.nil⟩
 intro h8;refine wk ?_;refine A2 A0x rfl rfl (tcheck_spec (x:=p) M au av SAp SKp)<|?_;clear M;rintro _ w M rfl
 refine wk ?_;refine Ag rfl ?_ ?_
 ·intro a3;have h9:=dF (Ad a3);have S:¬ ValidP p:=fun h_=>by have:=chkP_zero.2 h_;omega
  refine Bt<|?_
  refine Ak (fun a F=>Am (cs:=[iB 0,qT [],qT [],sN,qT [],sN]) A1.k rfl A1 (F.evp rfl) rfl) rfl<|?_
  refine Cd rfl<|?_
  intro a F;refine Bf F M A1 0<|sZ ?_;clear F M a;intro w M;refine wk ?_;refine fun a F=>B1 F M (k:=0) rfl rfl A1 rfl rfl rfl rfl ?_;have H:rendE p x most=Y8 p:=by rw [Vh S];exact Zu tM S
  have E:D3 p x most=K6:=Gx (by rw [H];(first | decide | omega))
  exact ⟨_,(Gle.refl _),(M.wn tW),none,none,by rw [H,E];rfl,by rw [E];exact Aj.nil,by rw [E];exact Aj.nil⟩
 intro an;have aH:=dT (Ae an);have S:ValidP p:=chkP_zero.1 tM;refine wk ?_;refine A2 ent191 rfl rfl (Yf (x:=x) M ht SM)<|?_;clear M;rintro _ w M rfl
 refine wk ?_;refine Ag rfl ?_ ?_
 ·intro ao;have aI:=dF (Ad ao);have I:¬ ItemOk x:=fun h_=>by have:=De.2 h_;omega
  refine Bt<|?_
  refine Ak (fun a F=>Am (cs:=[iB 0,qT [],qT [],sN,qT [],sN]) A1.k rfl A1 (F.evp rfl) rfl) rfl<|?_
  refine Cd rfl<|?_
  intro a F;refine Bf F M A1 0<|sZ ?_;clear F M a;intro w M;refine wk ?_;refine fun a F=>B1 F M (k:=0) rfl rfl A1 rfl rfl rfl rfl ?_;have H:rendE p x most=Hi x:=by rw [E1 I];exact Zv tM S I
  have E:D3 p x most=K6:=Gx (by rw [H];(first | decide | omega))
  exact ⟨_,(Gle.refl _),(M.wn tW),none,none,by rw [H,E];rfl,by rw [E];exact Aj.nil,by rw [E];exact Aj.nil⟩
 intro ap;have aJ:=dT (Ae ap);have I:ItemOk x:=De.1 tM;refine wk ?_;refine Ak (fun a F=>Am (cs:=[iU x.key,iB x.typ,qT x.text,vS ma x.mZ.length mc]) Ajc.k rfl Ajc (F.evp rfl) rfl) rfl<|wk ?_;intro a F;refine Ar F M T8.k E6 rfl rfl (cs:=[iB p.kind,qT p.tag,qT p.key,vS V p.as.length Y,qT p.text,vS T p.kids.length U]) rfl rfl tS tD rfl ?_;clear F M a;intro aO w a M F;obtain ⟨aj,al,rfl,ax,aw,a6⟩:=M.rS (k:=0) rfl;have ay:Els rdP 6 G [iB p.kind,qT p.tag,qT p.key,vS V p.as.length Y,qT p.text,vS T p.kids.length U] [p]:=Els.one (F5 (x:=p) au av SAp SKp) rfl;obtain ⟨ag,ah,ak,am,D,ab,Sz15,M⟩:=M.fZ mono_rdP (k:=0) rfl ay tD;clear ab ak am;replace SM:=SM.mono Au D;clear ag;replace Sz15:Aj rdP 6 ah (vS aj ([p]).length (al)) ([p]):=Sz15;revert a;refine C3 A0s rfl rfl (Aub a5 I ht [p] _ _ _ _ _ _ _ _ M SM Sz15 (by simp) (fun q hq=>by rw [List.mem_singleton] at hq;subst hq;exact T5 S))<|?_;clear M;rintro _ aA w A M ⟨aC,aE,rfl,ai⟩
 have a4:(madesF x [p])[0]?=some (node1 x p):=by rw [Aue S.1];rfl
 obtain ⟨aD,aF,_,aB,_,a9,aa⟩:=ai.at a4;obtain ⟨a8,a7,rfl,ac,ae,N,O⟩:=Arh aa;refine wk ?_;refine B0 M A1 rfl rfl<|?_;clear M;intro aG w M
 intro a F;refine Bf F M A1 0<|sZ ?_;clear F M a;intro w M;refine wk ?_;refine A2 A0r rfl rfl (Ul (x:=(node1 x p)) M ac ae N (weakN O))<|?_;clear M;rintro _ w M rfl
 refine wk ?_
 rcases bE (decide (((cntF (node1 x p):Nat):Int)=0)) with aq | ar
 ·skip
  have aK:=dT aq;refine wk ?_;refine Ak (fun a F=>Am (cs:=[iB 0,qT [],qT [],sN,qT [],sN]) A1.k rfl A1 (F.evp rfl) rfl) rfl<|fun a F=>?_
  refine Bf F M A1 1<|sZ ?_;clear F M a;intro w M;refine wk ?_;refine fun a F=>B1 F M (k:=1) rfl rfl A1 rfl rfl rfl rfl ?_;have H:rendE p x most=14:=rend_many tM S I tM;have E:D3 p x most=K6:=Gx (by rw [H];(first | decide | omega))
  exact ⟨_,(D.trans A),(M.wn tW),none,none,by rw [H,E];rfl,by rw [E];exact Aj.nil,by rw [E];exact Aj.nil⟩
 have aL:=dF ar;refine wk ?_;refine qD rfl ?_ ?_
 ·intro aM;refine Bt<|?_
  refine Ak (fun a F=>Am (cs:=[iB 0,qT [],qT [],sN,qT [],sN]) A1.k rfl A1 (F.evp rfl) rfl) rfl<|fun a F=>?_
  refine Bf F M A1 1<|sZ ?_;clear F M a;intro w M;refine wk ?_;refine fun a F=>B1 F M (k:=1) rfl rfl A1 rfl rfl rfl rfl ?_;have H:rendE p x most=14:=rend_many tM S I tM;have E:D3 p x most=K6:=Gx (by rw [H];(first | decide | omega))
  exact ⟨_,(D.trans A),(M.wn tW),none,none,by rw [H,E];rfl,by rw [E];exact Aj.nil,by rw [E];exact Aj.nil⟩
 intro aN;refine wk ?_;intro a F;refine Bf F M A1 1 ?_;clear F M a;intro w a M F;revert a;refine Dq rfl<|Fl<|?_
 refine fun a F=>B1 F M (k:=1) rfl rfl A1 rfl rfl rfl rfl ?_;have H:rendE p x most=0:=rend_ok tM S I tM;have E:=Afw H
 exact ⟨_,(D.trans A),(M.wn tW),_,_,by rw [H,E],by rw [E];exact N,by rw [E];exact O⟩
end Go.Proofs.YtmmhmcplegpenaaGreatDoor.T
