/- The walks, part LX. · What is valid can be decided, and the examples of chapter 14. · Notices: the examples of the chapter. · Notices: the examples of the chapter, texts. · The walks, part LY. · The walks, part LZ. · The walks, part LAA. · Notices: text and parsing are inverse. · The types and functions that the last walks name. · The walks, part LAB. -/
import Derived.Test.YtmmhmcplegpenaaGreatDoorJ12
import Derived.Test.YtmmhmcplegpenaaGreatDoorJ3
import Derived.Test.YtmmhmcplegpenaaGreatDoorJ9
namespace Go.Proofs.YtmmhmcplegpenaaGreatDoor
open Go Go.Y Go.Proofs
variable {w0 w:World} {G:A4} {L:List Res}
set_option linter.unusedSimpArgs false
set_option linter.unusedVariables false
theorem Aao (M:Mem w0 G L w) {n c:Nat} {ad:Option Addr} (h:n≤c) (hc:c≤9223372036854775807):Calls Tryz.prog 87 #[.slice ad n c] w (Ci w0 G L fun v=>v=.slice ad n n):=by
 refine A0 (vs:=[_]) Tryz.func87 rfl (n:=9) rfl rfl<|Ab<|Ac<|Af rfl<|Aa<|Ad<|Ab<|Ac<|Ae rfl<|Ae rfl<|B8 Dd.k rfl<|Ae rfl<|B8 Dd.k rfl<|Ar (fun a F=>Q4 (h:=n) (q:=n) Dd.k Bd (F.ev rfl) (F.ev rfl) (by omega) (F.ev rfl) (by omega) (by omega) (by omega)) rfl<|Af rfl<|Aa<|Ad<|Ak<|Aj rfl rfl<|?_
 exact ⟨M,rfl⟩
theorem Yc (M:Mem w0 G L w) {an:Option Addr} {cn:Nat} {ns:List NotD} (SN:Az Ff 5 G (.slice an ns.length cn) ns) (hlen:ns.length≤1000000) :
  Calls Tryz.prog 88 #[.slice an ns.length cn] w (Jr w0 G fun L' v=>∃ a' n' c' cs',v=.slice a' n' c'∧L' = (.row (.slice a' n' c') n' cs' 65 5::L)∧n' = ns.length∧Els Ff 5 G cs' ns):=by
 refine A0 (vs:=[_]) Tryz.func88 rfl (n:=8) rfl rfl<|Ab<|Ac<|Af rfl<|Aa<|Ad<|Ab<|Ab<|Ac<|Ae rfl<|Ar (fun a F=>Aab Dd.k (F.ev rfl) (F.ev rfl)) rfl<|Aa<|Ad<|Ax rfl ?_ ?_
 ·intro h1b
  have h1:((an).isNone)=true:=h1b
  refine Ab<|Ac<|Af rfl<|Aa<|Ad<|Ak<|Au<|Aj rfl rfl<|?_
  have h0:=SN.nilz (by assumption)
  exact ⟨_,M.nilrow 65 5,none,0,0,[],rfl,rfl,by rw [h0];rfl,by rw [h0];exact Els.nil⟩
 ·intro h2b
  have h2:((an).isNone)=false:=h2b
  refine Aq<|Ad<|Ab<|Ac<|fun a F=>?_
  refine Ri F M Dd.k Bd rfl ?_;clear F M a;intro v3 w a M F
  obtain ⟨av3,cv3,rfl,hlev3,hcmv3,hlv3⟩:=M.row_shape (k:=0) rfl
  revert a
  refine Ae rfl<|fun a F=>?_
  refine Lw F M (k:=0) rfl Dd.k Bd rfl rfl (by decide) rfl SN rfl (by show _ * 56≤_;(try simp only [List.length_drop,List.length_take,List.length_append,List.length_cons,List.length_nil]);omega) (by (try simp only [List.length_drop,List.length_take,List.length_append,List.length_cons,List.length_nil]);omega) rfl ?_;clear F M a;intro v4 csv4 w a M Ev4 F
  have Ev4:=Els.append Els.nil Ev4
  obtain ⟨av4,cv4,rfl,hlev4,hcmv4,hlv4⟩:=M.row_shape (k:=0) rfl
  revert a
  refine Af rfl<|Aa<|Ad<|Ak<|Aj rfl rfl<|?_
  change Mem w0 G (_::L) _ at M
  simp only [Nat.zero_add,List.nil_append] at M ⊢
  exact ⟨_,M,_,_,_,_,rfl,rfl,rfl,by have h:=Ev4;simp only [List.nil_append] at h;exact h⟩
def PF (s:List UInt8) (r:List NotD × Nat × Int):Prop:=(1048576 < s.length∧r=([],0,3))∨(s.length≤1048576∧PR [] s r)
theorem PF.uniq {s:List UInt8} {a b:List NotD × Nat × Int} (h1:PF s a) (h2:PF s b):a=b:=by
 rcases h1 with ⟨h1,rfl⟩ | ⟨h1,h3⟩ <;> rcases h2 with ⟨h2,rfl⟩ | ⟨h2,h4⟩
 ·rfl
 ·omega
 ·omega
 ·exact h3.uniq h4
theorem Aim (x:NotD) (sz:Int):1≤(D7 x sz).length:=by unfold D7;simp only [List.length_append,List.length_cons,List.length_nil];omega
theorem Pz (M:Mem w0 G L w) (HG:Globs 0 1 2 3 G) {s:List UInt8} (hs:s.length≤9223372036854775807):Calls Tryz.prog 33 #[.string (str s)] w (Ret w0 G L fun G' v=>∃ (a:Option Addr) (ys:List NotD) (ln:Nat) (e:Int),v=.tuple #[.slice a ys.length ys.length,.int .i64 ((ln:Nat):Int),.int .i64 e]∧Az Ff 5 G' (.slice a ys.length ys.length) ys∧PF s (ys,ln,e)):=by
 refine A0 (vs:=[_]) Tryz.func33 rfl (n:=61) rfl rfl<|Ab<|Ac<|Af rfl<|Af rfl<|Af rfl<|Aa<|Ad<|Ab<|Ab<|Ac<|Ae rfl<|Ar (fun a F=>Cr Bq.k (F.ev rfl)) rfl<|Df rfl rfl<|Aa<|Ad<|Ax rfl ?_ ?_
 ·intro h1b
  have h1:=dT h1b
  refine Ab<|Ac<|Af rfl<|Af rfl<|Af rfl<|Aa<|Ad<|Ak<|Au<|Wr rfl rfl rfl rfl<|?_
  exact ⟨_,(Gle.refl _),M,none,[],0,_,rfl,Az.nil,Or.inl ⟨by omega,rfl⟩⟩
 ·intro h2b
  have h2:=dF h2b
  refine Aq<|Ad<|Ab<|Ac<|Ae rfl<|Ar (fun a F=>Be (cs:=[.string (str s),.int .i64 0]) (ps:=[(0,.string (str s))]) Jp.k rfl Jp (F.evp rfl) rfl) rfl<|C1 M rfl rfl rfl<|?_;clear M;intro b3 w M
  refine Af rfl<|Aa<|Ad<|Ab<|A1<|?_
  have M:=M.nilrow 65 5
  change Mem w0 G (.row (.slice none 0 0) 0 ([]) 65 5::.blk b3 [.string (str s),.int .i64 0] 155::L) _ at M
  intro a F
  refine B2 (fun m a' w'=>∃ (xs:List NotD),∃ (cj:List UInt8),∃ (ar:Option Addr),∃ (nr:Nat),∃ (cr:Nat),∃ (csr:List Value),m=cj.length∧∃ G4,Gle G G4∧Fits 61 a' [(5,.pointer (some ⟨b3,0,none⟩)),(2,.slice ar nr cr)]∧Mem w0 G4 (.row (.slice ar nr cr) (nr) (csr) 65 5::.blk b3 [.string (str cj),.int .i64 ((((nlN xs):Nat):Int))] 155::L) w'∧(∀ r,PR xs cj r→PR [] s r)∧(xs.length≤32)∧(cj.length≤1048576)∧(nlN xs≤1025 * xs.length)∧(Els Ff 5 G4 csr xs)∧(nr=xs.length)) _ ⟨[],s,none,0,0,[],rfl,G,Gle.refl _,F.to ⟨rfl,rfl,trivial⟩,M,fun r h=>h,by decide,by omega,by decide,Els.nil,rfl⟩ ?_
  clear F M
  rintro m a w ⟨xs,cj,ar,nr,cr,csr,rfl,G4,hG4,F,M,hP,hxl,hcj,hnl,Er,hnr⟩
  replace HG:=HG.mono hG4
  revert a
  refine Ab<|Ab<|Ac<|Ae rfl<|Em rfl<|A2 Jp.k rfl rfl<|Bi Bq M 1 rfl rfl rfl rfl<|Jz rfl rfl<|Aa<|Ad<|Ax rfl ?_ ?_
  ·intro h5b
   have h5:=dF (Ah h5b)
   have h5c:(decide (cj=([]:List UInt8)))=false:=(Ah h5b)
   refine Aq<|Ad<|A1<|Ab<|Ac<|Ae rfl<|Em rfl<|A2 Jp.k rfl rfl<|Bi B7 M 1 rfl rfl rfl rfl<|B9 rfl rfl<|Af rfl<|Aa<|Ad<|Ab<|Ac<|Ae rfl<|Ar (fun a F=>Td (F.ev rfl)) rfl<|?_
   replace M:=M.perm (Am _ 1 _ rfl)
   change Mem w0 G4 (_::_::L) _ at M
   intro a F
   refine Dx F ent85 rfl rfl (X7 (c:=cj) (l:=(nlN xs)) M HG (by omega) (by omega)) ?_;clear F M a;rintro _ Gq6 _ w a hGq6 M ⟨kq6,a1q6,b1q6,t1q6,adq6,lnq6,cnq6,okq6,cq6,lq6,rfl,rfl,hlcq6,hllq6,hokq6⟩ F
   replace HG:=HG.mono hGq6
   replace Er:=Er.mono Bn hGq6
   change Mem w0 Gq6 (.blk b3 [.string (str cq6),.int .i64 ((lq6:Nat):Int)] 155::.row (.slice ar nr cr) (nr) (csr) 65 5::L) _ at M
   revert a
   refine Ae rfl<|Dg rfl rfl<|Dg rfl rfl<|C6 M Bd rfl rfl<|?_;clear M;intro b7 w M
   intro a F
   refine Av F M Bd (k:=0) rfl rfl rfl (us:=[.int .u8 ((kq6:Nat):Int),.int .i64 a1q6,.int .i64 b1q6,.int .i64 t1q6,.slice adq6 lnq6 cnq6]) rfl rfl (by simp [Value.oneCell']) (by simp) ?_;clear F M a;intro w a M F
   change Mem w0 Gq6 (.blk b7 [.int .u8 ((kq6:Nat):Int),.int .i64 a1q6,.int .i64 b1q6,.int .i64 t1q6,.slice adq6 lnq6 cnq6] 65::_::_::L) _ at M
   revert a
   refine Af rfl<|Aa<|Ad<|Ab<|A1<|Ab<|fun a F=>Pk (fun a' w'=>∃ (bb:Bool),Fits 61 a' [(2,.slice ar nr cr),(5,.pointer (some ⟨b3,0,none⟩)),(6,.int .i64 (((((nlN xs):Nat):Int))+1)),(7,.pointer (some ⟨b7,0,none⟩)),(8,.bool okq6),(31,.bool bb)]∧Mem w0 Gq6 (.blk b7 [.int .u8 ((kq6:Nat):Int),.int .i64 a1q6,.int .i64 b1q6,.int .i64 t1q6,.slice adq6 lnq6 cnq6] 65::.blk b3 [.string (str cq6),.int .i64 ((lq6:Nat):Int)] 155::.row (.slice ar nr cr) (nr) (csr) 65 5::L) w'∧(bb=true↔xs.length=32∧(okq6=true∨nlN xs+1 < lq6))) ?_ ?_
   ·skip
    revert a
    refine Ac<|Ae rfl<|B8 Dd.k rfl<|Dy rfl rfl<|Ae rfl<|?_
    rcases bE (decide (((nr:Nat):Int)=32)) with h9b | h12b
    ·skip
     have h9:=dT h9b
     refine g_t rfl h9b<|Ae rfl<|g_t rfl h9b<|Ae rfl<|?_
     rcases bE (okq6) with h10b | h11b
     ·skip
      have h10:(okq6)=true:=h10b
      refine g_f rfl h10b<|g_f rfl h10b<|g_f rfl h10b<|g_f rfl h10b<|g_f rfl h10b<|g_f rfl h10b<|g_t rfl h9b<|Bj rfl h10b rfl<|Bj rfl h9b rfl<|Af rfl<|Aa<|fun a F=>?_
      exact ⟨true,F.to ⟨rfl,rfl,rfl,rfl,rfl,rfl,trivial⟩,M,by clear F M;first | (simp only [Bool.true_eq_false,true_iff,false_iff,Bool.false_eq_true,decide_eq_true_eq];first | exact ⟨by omega,Or.inl (by assumption)⟩ | (rintro ⟨h1_,h2_⟩;omega) | grind) | grind⟩
     ·skip
      have h11:(okq6)=false:=h11b
      refine g_t rfl h11b<|Ae rfl<|g_t rfl h11b<|Em rfl<|g_t rfl h11b<|A2 Jp.k rfl rfl<|g_t rfl h11b<|Bi B7 M 1 rfl rfl rfl rfl<|g_t rfl h11b<|Ae rfl<|g_t rfl h11b<|Df rfl rfl<|g_t rfl h9b<|Bh rfl h11b rfl<|Bj rfl h9b rfl<|Af rfl<|Aa<|fun a F=>?_
      exact ⟨(decide (((((nlN xs):Nat):Int))+1 < ((lq6:Nat):Int))),F.to ⟨rfl,rfl,rfl,rfl,rfl,rfl,trivial⟩,M,by clear F M;first | (simp only [Bool.true_eq_false,true_iff,false_iff,Bool.false_eq_true,decide_eq_true_eq];first | exact ⟨by omega,Or.inl (by assumption)⟩ | (rintro ⟨h1_,h2_⟩;omega) | grind) | grind⟩
    ·skip
     have h12:=dF h12b
     refine g_f rfl h12b<|g_f rfl h12b<|g_u rfl<|g_u rfl<|g_u rfl<|g_u rfl<|g_u rfl<|g_u rfl<|g_f rfl h12b<|Bh rfl h12b rfl<|Af rfl<|Aa<|fun a F=>?_
     exact ⟨false,F.to ⟨rfl,rfl,rfl,rfl,rfl,rfl,trivial⟩,M,by clear F M;first | (simp only [Bool.true_eq_false,true_iff,false_iff,Bool.false_eq_true,decide_eq_true_eq];first | exact ⟨by omega,Or.inl (by assumption)⟩ | (rintro ⟨h1_,h2_⟩;omega) | grind) | grind⟩
   ·clear F M
    rintro a w ⟨bb,F,M,hbb⟩
    revert a
    refine Ad<|Ax rfl ?_ ?_
    ·intro h13b
     have h13:(bb)=true:=h13b
     refine Ab<|Ac<|Ae rfl<|Af rfl<|Af rfl<|Af rfl<|Aa<|Ad<|Ak<|Bk<|Au<|Bk<|Au<|Bk<|Au<|Wr rfl rfl rfl rfl<|?_
     exact ⟨_,(hG4.trans hGq6),M.weaken (.cons _ (.cons _ (.cons _ (sR _)))),none,[],((nlN xs)+1),_,rfl,Az.nil,Or.inr ⟨by omega,hP _ (by obtain ⟨h1_,h2_⟩:=hbb.1 (by assumption);rcases hokq6 with ⟨_,x,sz,ys,hh,_,_,hce,_⟩ | ⟨h3_,⟨_,h4_⟩ | ⟨x,sz,ys,r,hh,_,_,_,hce,_⟩⟩;exact PR.full ⟨x,sz,_,hh,hce⟩ h1_;(exfalso;rcases h2_ with h2_ | h2_;(rw [h3_] at h2_;cases h2_);omega);exact PR.full ⟨x,sz,_,hh,hce⟩ h1_)⟩⟩
    ·intro h14b
     have h14:(bb)=false:=h14b
     refine Ab<|Ac<|Ae rfl<|C5 rfl<|Af rfl<|Aa<|Ad<|Ax rfl ?_ ?_
     ·intro h15b
      have h15:=Ah h15b
      have h15c:(okq6)=false:=(Ah h15b)
      refine Ab<|fun a F=>F4 [(true,0),(true,1),(true,2),(true,3),(true,4),(true,5),(true,6)] (Keep Gq6 [.blk b7 [.int .u8 ((kq6:Nat):Int),.int .i64 a1q6,.int .i64 b1q6,.int .i64 t1q6,.slice adq6 lnq6 cnq6] 65,.blk b3 [.string (str cq6),.int .i64 ((lq6:Nat):Int)] 155]) rfl (by kernel_rfl) (fun c a d v w h=>by cases d <;> exact h) ((M.drew _).keep (Gle.refl _) (by simp)) ?_
      replace M:=M.drew (w.drawn+1)
      revert a
      refine l_r (fun a F w M=>Cg F rfl) rfl<|l_r (fun a F w M=>Dz (F.ev rfl)) rfl<|l_r (fun a F w M=>Cm Jp.k rfl F rfl) rfl<|l_r (fun a F w M=>Ap (agf B7 rfl) (F.ev rfl) (M.cellL (k:=1) rfl rfl)) rfl<|l_r (fun a F w M=>Hg F rfl) rfl<|l_r (fun a F w M=>Hg F rfl) rfl<|l_r (fun a F w M=>Hg F rfl) rfl<|Hl<|?_
      generalize ({ w with drawn:=w.drawn+1 }:World)=w at M ⊢
      refine Ad<|Ak<|Bk<|Au<|Bk<|Au<|Bk<|Au<|Wr rfl rfl rfl rfl<|?_
      exact ⟨_,(hG4.trans hGq6),M.weaken (.cons _ (.cons _ (.cons _ (sR _)))),none,[],lq6,_,rfl,Az.nil,Or.inr ⟨by omega,hP _ (by rcases hokq6 with ⟨h3_,_⟩ | ⟨h3_,⟨h5_,h4_⟩ | ⟨x,sz,ys,r,hh,hoi,hlt,hl,hce,hni⟩⟩;(exfalso;simp_all);(rw [h4_];exact PR.nohead (by assumption) h5_);(rw [hl];exact PR.bad hh (fun h_=>absurd (hbb.2 ⟨h_,Or.inr (by omega)⟩) (by simp_all)) hce hoi hlt hni))⟩⟩
     ·intro h16b
      have h16:=Ai h16b
      have h16c:(okq6)=true:=(Ai h16b)
      refine Aq<|C0<|Ad<|?_
      have hokt:okq6=true:=by first | assumption | simp_all
      rcases hokq6 with ⟨_,x,sz,ys,hh,hoi,hyl,hce,hle,hrd⟩ | ⟨h_,_⟩
      intro a F
      case inr=>rw [hokt] at h_;cases h_
      have hx32:xs.length≠32:=fun h_=>absurd (hbb.2 ⟨h_,Or.inl hokt⟩) (by simp_all)
      have hl9:lq6=nlN (xs++[{ x with items:=ys }]):=by rw [Yb];show _=_+(1+ys.length);omega
      have hyl2:ys.length≤1024:=by have:=hh.rs;omega
      subst hl9
      revert a
      refine Ac<|Ae rfl<|Ar (fun a F=>Ao Bd rfl (F.ev rfl) (cs:=[.int .u8 ((kq6:Nat):Int),.int .i64 a1q6,.int .i64 b1q6,.int .i64 t1q6,.slice adq6 lnq6 cnq6]) rfl (M.cellsL (k:=0) rfl rfl)) rfl<|fun a F=>?_
      refine Cv F M Dd.k Bd rfl rfl (cs:=[.int .u8 ((kq6:Nat):Int),.int .i64 a1q6,.int .i64 b1q6,.int .i64 t1q6,.slice adq6 lnq6 cnq6]) rfl rfl (by simp [Value.oneCell']) (by decide) rfl ?_;clear F M a;intro v17 w a M F
      obtain ⟨av17,cv17,rfl,hlev17,hcmv17,hlv17⟩:=M.row_shape (k:=0) rfl
      have Eb:Els Ff 5 Gq6 [.int .u8 ((kq6:Nat):Int),.int .i64 a1q6,.int .i64 b1q6,.int .i64 t1q6,.slice adq6 lnq6 cnq6] [{ x with items:=ys }]:=⟨[.int .u8 ((kq6:Nat):Int),.int .i64 a1q6,.int .i64 b1q6,.int .i64 t1q6,.slice adq6 lnq6 cnq6],[],rfl,rfl,hrd,rfl⟩
      refine Ep F M (k:=3) (k2:=0) rfl rfl Dd.k Bd rfl rfl (by decide) rfl rfl (by show _ * 56≤_;(try simp only [List.length_drop,List.length_take,List.length_append,List.length_cons,List.length_nil]);omega) (by (try simp only [List.length_drop,List.length_take,List.length_append,List.length_cons,List.length_nil]);omega) rfl ?_;clear F M a;intro v18 w a M F
      have Ev18:=Els.append Er Eb
      obtain ⟨av18,cv18,rfl,hlev18,hcmv18,hlv18⟩:=M.row_shape (k:=3) rfl
      revert a
      refine Af rfl<|Aa<|C0<|Ad<|?_
      replace M:=M.perm (Am _ 2 _ rfl)
      replace M:=M.perm (Am _ 3 _ rfl)
      change Mem w0 Gq6 (_::_::_::.blk b7 [.int .u8 ((kq6:Nat):Int),.int .i64 a1q6,.int .i64 b1q6,.int .i64 t1q6,.slice adq6 lnq6 cnq6] 65::L) _ at M
      intro a F
      exact ⟨_,(by have h9_:=congrArg List.length hce;have h8_:=Aim x sz;simp only [List.length_append] at h9_;omega),(xs++[{ x with items:=ys }]),cq6,(av18),(nr+1),(cv18),csr++([.int .u8 ((kq6:Nat):Int),.int .i64 a1q6,.int .i64 b1q6,.int .i64 t1q6,.slice adq6 lnq6 cnq6]),rfl,Gq6,(hG4.trans hGq6),F.to ⟨rfl,rfl,trivial⟩,(M.weaken (.cons_cons _ (.cons_cons _ (.cons _ (.cons _ (sR _)))))),fun r h=>hP r (PR.step hh (by omega) hce hoi hyl h),by rw [List.length_append];simp only [List.length_cons,List.length_nil];omega,by omega,by rw [Yb,List.length_append];simp only [List.length_cons,List.length_nil];omega,Ev18,by rw [List.length_append,hnr];rfl⟩
  ·intro h19b
   have h19:=dT (Ai h19b)
   have h19c:(decide (cj=([]:List UInt8)))=true:=(Ai h19b)
   refine B5<|B0<|B0<|Dr<|Ad<|Ab<|?_
   obtain ⟨hnz20,Gz20,az20,cz20,hGz20,hez20,Sz20,M⟩:=M.freeze_row Bn (k:=0) rfl Er (by decide)
   clear hez20 az20 cz20
   replace HG:=HG.mono hGz20
   intro a F
   rw [hnz20] at F Sz20
   revert a
   refine Ac<|Ae rfl<|Oj ent88 rfl rfl (Yc (ns:=xs) M Sz20 (by omega))<|?_;clear M;rintro _ _ w M ⟨ak21,nk21,ck21,csk21,rfl,rfl,hnk21,Ek21⟩
   subst hnk21
   have sh22:=M.row_bound (k:=0) rfl
   refine Bw ent87 rfl rfl (Aao M sh22.1 sh22.2)<|?_;clear M;rintro _ w M rfl
   obtain ⟨hnz23,Gz23,az23,cz23,hGz23,hez23,Sz23,M⟩:=M.freeze_row Bn (k:=0) rfl Ek21 (by decide)
   clear hez23 az23 cz23
   replace HG:=HG.mono hGz23
   replace Sz20:=Sz20.mono Bn hGz23
   have S24:Az Ff 5 Gz23 (.slice ak21 ((xs).length) ((xs).length)) (xs):=Sz23.clip
   refine Af rfl<|Af rfl<|Af rfl<|Aa<|Ad<|Ak<|Wr rfl rfl rfl rfl<|?_
   exact ⟨_,((hG4.trans hGz20).trans hGz23),M.weaken (.cons _ (sR _)),ak21,xs,0,0,rfl,S24,Or.inr ⟨by omega,hP _ (by rw [show cj=[] from (by first | assumption | simp_all)];exact PR.done)⟩⟩
end Go.Proofs.YtmmhmcplegpenaaGreatDoor
namespace Go.Proofs.YtmmhmcplegpenaaGreatDoor.T
open Go Go.Y Go.Proofs
set_option linter.unusedSimpArgs false
instance instNameB:DecidablePred Di:=fun c=>by unfold Di;infer_instance
instance instName:DecidablePred Da:=fun s=>by unfold Da;infer_instance
instance instStrB:DecidablePred It:=fun c=>by unfold It;infer_instance
instance instStr:DecidablePred Str:=fun s=>by unfold Str;infer_instance
instance instEqAttr:DecidableEq AttrD:=fun a b=>decidable_of_iff (a.n=b.n∧a.v=b.v) (by cases a;cases b;simp)
instance instEqSlot:DecidableEq SlotD:=fun a b=>decidable_of_iff (a.n=b.n∧a.src=b.src∧a.v=b.v) (by cases a;cases b;simp)
/-- All elements, each with the one before it. -/
def Ng {α:Type} (p:α→Bool) (q:α→α→Bool):List α→Bool
 | []=>true
 | [a]=>p a
 | a::b::l=>p a && q a b && Ng p q (b::l)
theorem Nf {α:Type} {p:α→Bool} {q:α→α→Bool}:∀ l:List α,Ng p q l=true↔∀ (i:Nat) (x:α),l[i]?=some x→p x=true∧∀ y,0 < i→l[i - 1]?=some y→q y x=true
 | []=>by simp [Ng]
 | [a]=>by
  simp only [Ng]
  constructor
  ·intro h i x hx
   match i with
   | 0=>simp only [List.getElem?_cons_zero,Option.some.injEq] at hx;subst hx;exact ⟨h,fun y h0=>by omega⟩
   | i+1=>simp at hx
  ·intro h;exact (h 0 a rfl).1
 | a::b::l=>by
  simp only [Ng,Bool.and_eq_true,Nf (b::l)]
  constructor
  ·rintro ⟨⟨h1,h2⟩,h3⟩ i x hx
   match i with
   | 0=>simp only [List.getElem?_cons_zero,Option.some.injEq] at hx;subst hx;exact ⟨h1,fun y h0=>by omega⟩
   | 1 =>
    simp only [List.getElem?_cons_succ,List.getElem?_cons_zero,Option.some.injEq] at hx;subst hx
    refine ⟨(h3 0 b rfl).1,fun y _ hy=>?_⟩
    simp only [Nat.sub_self,List.getElem?_cons_zero,Option.some.injEq] at hy;subst hy;exact h2
   | i+2 =>
    simp only [List.getElem?_cons_succ] at hx
    obtain ⟨h4,h5⟩:=h3 (i+1) x (by simpa using hx)
    exact ⟨h4,fun y _ hy=>h5 y (by omega) (by simpa using hy)⟩
  ·intro h
   refine ⟨⟨(h 0 a rfl).1,(h 1 b rfl).2 a (by decide) rfl⟩,fun i x hx=>?_⟩
   obtain ⟨h4,h5⟩:=h (i+1) x (by simpa using hx)
   exact ⟨h4,fun y h0 hy=>h5 y (by omega) (by
    obtain ⟨i',rfl⟩:∃ i',i=i' + 1:=⟨i - 1,by omega⟩
    simpa using hy)⟩
instance instAttrsOk:DecidablePred Hr:=fun l=>decidable_of_iff (Ng (fun x=>decide (Da x.n∧Str x.v)) (fun y x=>Op.bytesLess y.n x.n) l=true) (by
 rw [Nf];unfold Hr;simp only [decide_eq_true_eq])
instance instSlotAt:DecidablePred Gt:=fun x=>by unfold Gt;infer_instance
instance instSlotsOk:DecidablePred Hp:=fun l=>decidable_of_iff (l.length≤8∧Ng (fun x=>decide (Gt x)) (fun y x=>Op.bytesLess y.n x.n) l=true) (by
 rw [Nf];unfold Hp Ho;simp only [decide_eq_true_eq]
 exact ⟨fun h=>⟨h.1,fun m x _ hx=>h.2 m x hx⟩,fun h=>⟨h.1,fun m x hx=>h.2 m x (Bl hx) hx⟩⟩)
instance instKeysOk:DecidablePred Ni:=fun l=>decidable_of_iff (l.Pairwise fun a b=>b.key≠[]→a.key≠b.key) (by
 rw [List.pairwise_iff_getElem];unfold Ni
 constructor
 ·intro h i j a b hij ha hb
  obtain ⟨h1,rfl⟩:=List.getElem?_eq_some_iff.1 ha
  obtain ⟨h2,rfl⟩:=List.getElem?_eq_some_iff.1 hb
  exact h i j h1 h2 hij
 ·intro h i j h1 h2 hij
  exact h i j _ _ hij (List.getElem?_eq_getElem h1) (List.getElem?_eq_getElem h2))
instance instAlone:DecidablePred Hs:=fun x=>by unfold Hs;infer_instance
instance instAloneP:DecidablePred Cq:=fun x=>by unfold Cq;infer_instance
def decOk {β:Type} (A:Tr β→Prop) [DecidablePred A]:(n:Nat)→(x:Tr β)→Decidable (Tr.Ok A n x)
 | 0,_=>isFalse id
 | n+1,x=>by
  have:∀ c,Decidable (Tr.Ok A n c):=decOk A n
  exact inferInstanceAs (Decidable (A x∧∀ c∈x.kids,Tr.Ok A n c))
instance instOk {β:Type} (A:Tr β→Prop) [DecidablePred A] (n:Nat):DecidablePred (Tr.Ok A n):=decOk A n
instance instValid:DecidablePred Hn:=fun x=>by unfold Hn;infer_instance
instance instValidP:DecidablePred ValidP:=fun x=>by unfold ValidP;infer_instance
instance instItemOk:DecidablePred ItemOk:=fun x=>by unfold ItemOk;infer_instance
end Go.Proofs.YtmmhmcplegpenaaGreatDoor.T
namespace Go.Proofs.YtmmhmcplegpenaaGreatDoor
open Go Go.Y Go.RowKit
set_option linter.unusedSimpArgs false
set_option linter.unusedVariables false
def Vv:T.PT:=.mk 1 [114,111,119] [] [] [] []
def c3:RulesD:=⟨[⟨Vv,10,false,0⟩],1⟩
def it3 (k:Nat):ItemD:=⟨k,0,[],[]⟩
def en3 (k:Nat):EntD:=⟨it3 k,10,false⟩
def l3:List EntD:=[en3 1,en3 2,en3 3]
theorem T6:T.ValidP Vv:=⟨rfl,by decide,by decide⟩
theorem Ze:E3 c3:=⟨⟨by decide,by decide⟩,fun k hk=>by rw [show k=⟨Vv,10,false,0⟩ by simpa [c3] using hk];exact ⟨by decide,T6⟩⟩
theorem row_one {x:T.ItemD}:T.cntF (T.node1 x Vv)=1:=by
 have h:T.node1 x Vv=.mk 1 [114,111,119] [] [] [] []:=by simp [T.node1,Vv,T.madesF,Tr.kids,Tr.as,Tr.tag,Tr.key]
 rw [h]
 unfold T.cntF
 rw [if_pos (by decide)];rfl
theorem Akx {x:ItemD} (h:ItemOk 1 x):Ib c3 x=0:=by
 have ht:=h.2.1
 have h0:x.typ=0:=by omega
 rw [Aag (k:=⟨Vv,10,false,0⟩) (by rw [h0];rfl)]
 exact T.rend_ok (by decide) T6 (tI_ok h) (by rw [row_one];decide)
theorem Adi {x:ItemD} (h:ItemOk 1 x):Nh c3 x=10:=by
 have ht:=h.2.1
 have h0:x.typ=0:=by omega
 rw [Jm (k:=⟨Vv,10,false,0⟩) (by rw [h0];rfl)]
theorem Oc {k:Nat} (h:ItemOk 1 (it3 k)):C4 c3 (it3 k)=en3 k:=by unfold C4;rw [Adi h];rfl
theorem Aky {l:List EntD} {xs:List ItemD} (h1:∀ x∈xs,ItemOk 1 x) (h2:∀ i x,xs[i]?=some x→¬ (Dq l x.key∨Lg (xs.take i) x.key)):Sf c3 l xs=0:=by
 refine E2.2 fun i hi=>?_
 obtain ⟨x,hx⟩:=Bc hi
 rw [Aau hx]
 exact Qm (h1 x (List.mem_of_getElem? hx)) (h2 i x hx) (Akx (h1 x (List.mem_of_getElem? hx)))
theorem ok3 {k:Nat} (h:¬ k=0):ItemOk 1 (it3 k):=by
 have h1:Str ([]:List UInt8):=by decide
 have h2:∀ s∈([]:List (List UInt8)),Da s:=fun s hs=>by cases hs
 exact ⟨h,(show ((0:Nat):Int) < 1 by decide),h1,Nat.zero_le _,h2⟩
theorem res3:Eg c3 [] 0 [it3 1,it3 2,it3 3]=(l3,0):=by
 have h1:∀ x∈[it3 1,it3 2,it3 3],ItemOk 1 x:=by
  intro x hx
  simp only [List.mem_cons,List.not_mem_nil,or_false] at hx
  rcases hx with rfl | rfl | rfl <;> exact ok3 (by decide)
 have h2:[it3 1,it3 2,it3 3].map (C4 c3)=l3:=by
  simp only [List.map_cons,List.map_nil,Oc (ok3 (show ¬ 1=0 by decide)),Oc (ok3 (show ¬ 2=0 by decide)),Oc (ok3 (show ¬ 3=0 by decide))];rfl
 rw [Ack (by decide) (by decide) (Aky h1 ?_) (by rw [h2];decide),h2]
 ·rfl
 ·intro i x hx
  rcases i with _ | _ | _ | i <;> simp only [List.getElem?_cons_zero,List.getElem?_cons_succ,List.getElem?_nil,Option.some.injEq,reduceCtorEq] at hx
  ·subst hx;simp [Dq,Lg]
  ·subst hx;simp [Dq,Lg,it3]
  ·subst hx;simp [Dq,Lg,it3]
theorem ins9:Eg c3 [en3 2,en3 3] 2 [it3 9]=([en3 2,en3 3,en3 9],0):=by
 have h1:∀ x∈[it3 9],ItemOk 1 x:=by intro x hx;rw [List.mem_singleton.1 hx];exact ok3 (by decide)
 have h2:[it3 9].map (C4 c3)=[en3 9]:=by simp only [List.map_cons,List.map_nil,Oc (ok3 (show ¬ 9=0 by decide))]
 rw [Ack (by decide) (by decide) (Aky h1 ?_) (by rw [h2];decide),h2]
 ·rfl
 ·intro i x hx
  rcases i with _ | i <;> simp only [List.getElem?_cons_zero,List.getElem?_cons_succ,List.getElem?_nil,Option.some.injEq,reduceCtorEq] at hx
  subst hx;simp [Dq,Lg,it3,en3]
def Pr:List NotD:=[⟨2,0,1,0,[]⟩,⟨1,2,0,0,[it3 9]⟩,⟨3,0,1,2,[]⟩]
def Ug:List NotD:=[⟨2,0,1,0,[]⟩,⟨2,2,1,0,[]⟩]
theorem Akv:Bv c3 l3=0:=by
 refine Gp.2 ⟨Ze,by decide,?_,by decide,by decide⟩
 intro x hx
 have hb:∀ k:Nat,¬ k=0→S8 c3 (en3 k):=fun k hk=>⟨⟨ok3 hk,Akx (ok3 hk)⟩,by unfold Il;rw [show Nh c3 (en3 k).item=10 from Adi (ok3 hk)];exact ⟨⟨by show (1:Int)≤10;decide,by show (10:Int)≤_;decide⟩,Or.inr rfl⟩⟩
 simp only [l3,List.mem_cons,List.not_mem_nil,or_false] at hx
 rcases hx with rfl | rfl | rfl <;> exact hb _ (by decide)
theorem run1 {ns:List NotD} (h:ns[0]?=some ⟨2,0,1,0,[]⟩):C3 c3 l3 ns 1=([en3 2,en3 3],0):=by
 rw [H9 rfl h,Adj (by decide) rfl];rfl
theorem all3:Ph c3 l3 Pr=([en3 3,en3 9,en3 2],3,0):=by
 have h1:=run1 (ns:=Pr) rfl
 have h2:C3 c3 l3 Pr 2=([en3 2,en3 3,en3 9],0):=by
  rw [H9 (by rw [h1]) (show Pr[1]?=some ⟨1,2,0,0,[it3 9]⟩ from rfl),Alb (by decide) rfl,h1];exact ins9
 have h3:C3 c3 l3 Pr 3=([en3 3,en3 9,en3 2],0):=by
  rw [H9 (by rw [h2]) (show Pr[2]?=some ⟨3,0,1,2,[]⟩ from rfl),Ala (by decide) rfl,h2];rfl
 rw [Oe Akv,all_0 (i:=3) (by decide) (by rw [h3]) rfl,h3];rfl
theorem all3b:Ph c3 l3 Ug=([],1,4):=by
 have h1:=run1 (ns:=Ug) rfl
 have h2:C3 c3 l3 Ug 2=([],4):=by
  rw [H9 (by rw [h1]) (show Ug[1]?=some ⟨2,2,1,0,[]⟩ from rfl),Adj (by decide) rfl,h1];rfl
 rw [Oe Akv,all_x (i:=1) (by decide) (by rw [h1]) (by decide) (by rw [h2];decide),h2]
open Go Go.Y Go.RowKit
set_option linter.unusedSimpArgs false
set_option linter.unusedVariables false
theorem ia0:Lib.itoa 0=[48]:=by rw [show (0:Int)=((0:Nat):Int) from rfl,Lib.itoa_nonneg,Lib.decDigits,dif_pos (by decide)];rfl
theorem ia1:Lib.itoa 1=[49]:=by rw [show (1:Int)=((1:Nat):Int) from rfl,Lib.itoa_nonneg,Lib.decDigits,dif_pos (by decide)];rfl
theorem ia2:Lib.itoa 2=[50]:=by rw [show (2:Int)=((2:Nat):Int) from rfl,Lib.itoa_nonneg,Lib.decDigits,dif_pos (by decide)];rfl
theorem dd9:Lib.decDigits 9=[57]:=by rw [Lib.decDigits,dif_pos (by decide)];rfl
theorem dd0:Lib.decDigits 0=[48]:=by rw [Lib.decDigits,dif_pos (by decide)];rfl
theorem wn2 {a b:Int}:Bz [a,b]=32::Lib.itoa a++(32::Lib.itoa b):=by simp [Bz]
theorem wn1 {a:Int}:Bz [a]=32::Lib.itoa a:=by simp [Bz]
theorem Aik:D7 ⟨1,0,0,0,[]⟩ 1=[105,110,115,101,114,116,32,48,32,49,10]:=by
 unfold D7
 rw [show fm (nuK ⟨1,0,0,0,[]⟩ 1)=[0,1] from rfl,wn2,ia0,ia1];rfl
theorem Aij:D7 ⟨1,2,0,0,[⟨9,0,[120],[]⟩]⟩ 1=[105,110,115,101,114,116,32,50,32,49,10]:=by
 unfold D7
 rw [show fm (nuK ⟨1,2,0,0,[⟨9,0,[120],[]⟩]⟩ 1)=[2,1] from rfl,wn2,ia2,ia1];rfl
theorem Aii:D7 ⟨2,0,1,0,[]⟩ 0=[114,101,109,111,118,101,32,48,32,49,10]:=by
 unfold D7
 rw [show fm (nuK ⟨2,0,1,0,[]⟩ 0)=[0,1] from rfl,wn2,ia0,ia1];rfl
theorem ln_res0:D7 ⟨5,0,0,0,[]⟩ 0=[114,101,115,101,116,32,48,10]:=by
 unfold D7
 rw [show fm (nuK ⟨5,0,0,0,[]⟩ 0)=[0] from rfl,wn1,ia0];rfl
def K2:List NotD:=[⟨1,2,0,0,[⟨9,0,[120],[]⟩]⟩,⟨2,0,1,0,[]⟩]
theorem Abq:Ct K2=[105,110,115,101,114,116,32,50,32,49,10,57,32,48,32,45,32,120,10,114,101,109,111,118,101,32,48,32,49,10]:=by
 have h1:P0 ⟨1,2,0,0,[⟨9,0,[120],[]⟩]⟩=D7 ⟨1,2,0,0,[⟨9,0,[120],[]⟩]⟩ 1++Cx [⟨9,0,[120],[]⟩]:=rfl
 have h2:P0 ⟨2,0,1,0,[]⟩=D7 ⟨2,0,1,0,[]⟩ 0++Cx []:=rfl
 have h3:Cx [⟨9,0,[120],[]⟩]=[57,32,48,32,45,32,120,10]:=by
  simp only [Cx,List.map_cons,List.map_nil,Dj,dd9,dd0];rfl
 unfold Ct K2
 simp only [List.flatMap_cons,List.flatMap_nil]
 rw [h1,h2,h3,Aij,Aii];rfl
theorem W9:Fv K2=0∧Ge K2=[105,110,115,101,114,116,32,50,32,49,10,57,32,48,32,45,32,120,10,114,101,109,111,118,101,32,48,32,49,10]:=by
 have h:=Aht (l:=K2) (i:=2) (by decide) (by decide) rfl (by rw [show K2.take 2=K2 from rfl,Abq];decide)
 rw [show K2.take 2=K2 from rfl,Abq] at h
 exact h
def Agf:List (List UInt8):=[[105,110,115,101,114,116,32,48,32,49,10],[114,101,109,111,118,101,32,48,10],[114,101,115,101,116,32,48,10,102,111,111,10]]
theorem no_item:¬ S7 []:=by
 rintro ⟨y,r,_,h⟩
 have:=congrArg List.length h
 simp at this
theorem hd_ins:Head ⟨1,0,0,0,[]⟩ 1:=⟨by decide,Or.inr rfl,Or.inr rfl,Or.inr rfl,Or.inl (by decide),rfl,Cu (n:=0) (by decide) (by decide),Cu (n:=0) (by decide) (by decide),Cu (n:=0) (by decide) (by decide),by decide⟩
theorem hd_res:Head ⟨5,0,0,0,[]⟩ 0:=⟨by decide,Or.inr rfl,Or.inr rfl,Or.inr rfl,Or.inr rfl,rfl,Cu (n:=0) (by decide) (by decide),Cu (n:=0) (by decide) (by decide),Cu (n:=0) (by decide) (by decide),by decide⟩
theorem badN1:PR [] [105,110,115,101,114,116,32,48,32,49,10] ([],2,5) :=
 PR.bad (ys:=[]) (r:=[]) hd_ins (by decide) (by rw [Aik];rfl) (fun y hy=>by cases hy) (by decide) no_item
theorem badN2:PR [] [114,101,109,111,118,101,32,48,10] ([],1,5) :=
 PR.nohead (by decide) (Ya (k:=2) (b:=0) (b2:=1) (W:=[114,101,109,111,118,101]) (wr:=[[48]]) (by decide) (by decide) (by decide) (by decide))
theorem badN3:PR [] [114,101,115,101,116,32,48,10,102,111,111,10] ([],2,5) :=
 PR.step (ys:=[]) (r:=[102,111,111,10]) hd_res (by decide) (by rw [ln_res0];rfl) (fun y hy=>by cases hy) rfl
  (PR.nohead (by decide) (Ry (z:=-1) (W:=[102,111,111]) (wr:=[]) (by decide) (Or.inl ⟨rfl,by decide⟩) (Or.inr (by decide))))
def lnN:List Nat:=[2,1,2]
theorem Akz {i:Nat} {s:List UInt8} (h:Agf[i]?=some s):∃ n,lnN[i]?=some n∧PF s ([],n,5):=by
 rcases i with _ | _ | _ | i <;> simp only [Agf,List.getElem?_cons_zero,List.getElem?_cons_succ,List.getElem?_nil,Option.some.injEq,reduceCtorEq] at h
 ·subst h;exact ⟨2,rfl,Or.inr ⟨by decide,badN1⟩⟩
 ·subst h;exact ⟨1,rfl,Or.inr ⟨by decide,badN2⟩⟩
 ·subst h;exact ⟨2,rfl,Or.inr ⟨by decide,badN3⟩⟩
open Go Go.Y Go.Proofs
variable {w0 w:World} {G:A4} {L:List Res}
set_option linter.unusedSimpArgs false
set_option linter.unusedVariables false
theorem fin_aa {P:Program} {fn:Func} {n:Nat} {a:Act} {e:Env} {w0 w:World} {G:A4} {L:List Res} (F:Fits n a e) {t u ty1 ty2 k1 k2 b1 b2:Nat} {i1 i2:TI} {cs1 cs2:List Value} {R:Ending→World→Prop} (M:Mem w0 G L w)
  (hk1:L[k1]?=some (.blk b1 cs1 ty1)) (hk2:L[k2]?=some (.blk b2 cs2 ty2)) (hf:fn.results = #[.cell t ty1,.cell u ty2]) (ht1:TOK P ty1 i1) (ht2:TOK P ty2 i2) (ha1:i1.k.agg=some true) (ha2:i2.k.agg=some true)
  (hl1:cs1.length=i1.size) (hl2:cs2.length=i2.size) (hv1:Y.look e t=some (.pointer (some ⟨b1,0,none⟩))) (hv2:Y.look e u=some (.pointer (some ⟨b2,0,none⟩))) (h:R (.returned (.tuple #[.agg cs1.toArray,.agg cs2.toArray])) w):bodyPost P fn R .ret a w:=by
 refine Ko F (v:=.tuple #[.agg cs1.toArray,.agg cs2.toArray]) ?_ h
 have h1:(loadVar ty1 ⟨b1,0,none⟩).run P w=.ok (.agg cs1.toArray) w:=Gj ht1 ha1 hl1 (M.cellsL hk1 (by rw [List.drop_zero,← hl1,List.take_length]))
 have h2:(loadVar ty2 ⟨b2,0,none⟩).run P w=.ok (.agg cs2.toArray) w:=Gj ht2 ha2 hl2 (M.cellsL hk2 (by rw [List.drop_zero,← hl2,List.take_length]))
 simp [results,hf,F.slot _ _ hv1,F.slot _ _ hv2,asAddr,h1,h2]
theorem lreset3 (M:Mem w0 G L w) {ka:Option Addr} {kc:Nat} (SC:Az Dv 9 G (.slice ka c3.kinds.length kc) c3.kinds) {ta:Option Addr} {tc:Nat} (T:Az Co 4 G (.slice ta 3 tc) [it3 1,it3 2,it3 3]) :
  Calls Tryz.prog 92 #[.agg #[.slice ka c3.kinds.length kc,.int .i64 1],.agg #[.slice none 0 0],.slice ta 3 tc] w (H4 w0 G (Jc L (l3,0))):=by
 rw [← res3]
 exact P3 (c:=c3) (l:=[]) M SC Az.nil (U8 Ze) T (by decide)
theorem Zv (M:Mem w0 G L w):Calls Tryz.prog 36 #[] w (Ret w0 G L fun G' v=>∃ (ka:Option Addr) (kc:Nat) (la:Option Addr) (lc:Nat),v=.tuple #[.agg #[.slice ka c3.kinds.length kc,.int .i64 1],.agg #[.slice la l3.length lc]]∧Az Dv 9 G' (.slice ka c3.kinds.length kc) c3.kinds∧Az Cy 6 G' (.slice la l3.length lc) l3):=by
 refine A0 (vs:=[]) Tryz.func36 rfl (n:=21) rfl rfl<|Ab<|Ac<|C6 M Dw rfl rfl<|?_;clear M;intro b1 w M
 refine C6 M Ba rfl rfl<|?_;clear M;intro b3 w M
 refine Aa<|Ad<|Ab<|Ac<|Ar (fun a F=>Be (cs:=[.int .u8 1,.string (str ([114,111,119]:List UInt8)),.string (str ([]:List UInt8)),.slice none 0 0,.string (str ([]:List UInt8)),.slice none 0 0]) (ps:=[(0,.int .u8 1),(1,.string (str ([114,111,119]:List UInt8)))]) Cd.k rfl Cd (F.evp rfl) rfl) rfl<|Ar (fun a F=>Be (cs:=[.int .u8 1,.string (str ([114,111,119]:List UInt8)),.string (str ([]:List UInt8)),.slice none 0 0,.string (str ([]:List UInt8)),.slice none 0 0,.int .i64 10,.bool false,.int .i64 0]) (ps:=[(0,.agg #[.int .u8 1,.string (str ([114,111,119]:List UInt8)),.string (str ([]:List UInt8)),.slice none 0 0,.string (str ([]:List UInt8)),.slice none 0 0]),(1,.int .i64 10)]) Ju.k rfl Ju (F.evp rfl) rfl) rfl<|fun a F=>?_
 refine Cv F M Hu.k Ju rfl rfl (cs:=[.int .u8 1,.string (str ([114,111,119]:List UInt8)),.string (str ([]:List UInt8)),.slice none 0 0,.string (str ([]:List UInt8)),.slice none 0 0,.int .i64 10,.bool false,.int .i64 0]) rfl rfl (by simp [Value.oneCell']) (by decide) rfl ?_;clear F M a;intro v5 w a M F
 obtain ⟨av5,cv5,rfl,hlev5,hcmv5,hlv5⟩:=M.row_shape (k:=0) rfl
 have Ek:Els Dv 9 G [.int .u8 1,.string (str ([114,111,119]:List UInt8)),.string (str ([]:List UInt8)),.slice none 0 0,.string (str ([]:List UInt8)),.slice none 0 0,.int .i64 10,.bool false,.int .i64 0] c3.kinds:=Els.one ⟨[.int .u8 1,.string (str ([114,111,119]:List UInt8)),.string (str ([]:List UInt8)),.slice none 0 0,.string (str ([]:List UInt8)),.slice none 0 0],rfl,T8 (x:=Vv) ⟨by decide,by decide⟩ ⟨by decide,by decide,by decide⟩ Az.nil Az.nil,⟨by decide,by decide⟩⟩ rfl
 obtain ⟨hnz6,Gz6,az6,cz6,hGz6,hez6,Sz6,M⟩:=M.freeze_row Bg (k:=0) rfl Ek (by decide)
 clear hez6 az6 cz6
 revert a
 refine Ar (fun a F=>Be (cs:=[.slice av5 1 (cv5),.int .i64 1]) (ps:=[(0,.slice av5 1 (cv5)),(1,.int .i64 1)]) Dw.k rfl Dw (F.evp rfl) rfl) rfl<|C6 M Dw rfl rfl<|?_;clear M;intro b7 w M
 intro a F
 refine Av F M Dw (k:=0) rfl rfl rfl (us:=[.slice av5 1 (cv5),.int .i64 1]) rfl rfl (by simp [Value.oneCell']) (by simp) ?_;clear F M a;intro w a M F
 change Mem w0 Gz6 (.blk b7 [.slice av5 1 (cv5),.int .i64 1] 51::_::_::L) _ at M
 revert a
 refine Aa<|Ad<|Ab<|Ac<|Ar (fun a F=>Ao Dw rfl (F.ev rfl) (cs:=[.slice av5 1 (cv5),.int .i64 1]) rfl (M.cellsL (k:=0) rfl rfl)) rfl<|Ar (fun a F=>Be (cs:=[.slice none 0 0]) (ps:=[]) Ba.k rfl Ba (F.evp rfl) rfl) rfl<|Ar (fun a F=>Be (cs:=[.int .u64 1,.int .u8 0,.string (str ([]:List UInt8)),.slice none 0 0]) (ps:=[(0,.int .u64 1)]) Bf.k rfl Bf (F.evp rfl) rfl) rfl<|Ar (fun a F=>Be (cs:=[.int .u64 2,.int .u8 0,.string (str ([]:List UInt8)),.slice none 0 0]) (ps:=[(0,.int .u64 2)]) Bf.k rfl Bf (F.evp rfl) rfl) rfl<|Ar (fun a F=>Be (cs:=[.int .u64 3,.int .u8 0,.string (str ([]:List UInt8)),.slice none 0 0]) (ps:=[(0,.int .u64 3)]) Bf.k rfl Bf (F.evp rfl) rfl) rfl<|fun a F=>?_
 refine Ef F M Bp.k Bf (ps:=[(0,.agg #[.int .u64 1,.int .u8 0,.string (str ([]:List UInt8)),.slice none 0 0]),(1,.agg #[.int .u64 2,.int .u8 0,.string (str ([]:List UInt8)),.slice none 0 0]),(2,.agg #[.int .u64 3,.int .u8 0,.string (str ([]:List UInt8)),.slice none 0 0])]) (cs:=[[.int .u64 1,.int .u8 0,.string (str ([]:List UInt8)),.slice none 0 0],[.int .u64 2,.int .u8 0,.string (str ([]:List UInt8)),.slice none 0 0],[.int .u64 3,.int .u8 0,.string (str ([]:List UInt8)),.slice none 0 0]]) (fl:=[.int .u64 1,.int .u8 0,.string (str ([]:List UInt8)),.slice none 0 0,.int .u64 2,.int .u8 0,.string (str ([]:List UInt8)),.slice none 0 0,.int .u64 3,.int .u8 0,.string (str ([]:List UInt8)),.slice none 0 0]) rfl rfl (by simp [Kw,Value.cells]) (by simp [ti26]) rfl (by simp [Value.oneCell']) (by decide) (by decide) rfl ?_;clear F M a;intro v9 w a M F
 obtain ⟨av9,cv9,rfl,hlev9,hcmv9,hlv9⟩:=M.row_shape (k:=0) rfl
 have Ei:Els Co 4 Gz6 [.int .u64 1,.int .u8 0,.string (str ([]:List UInt8)),.slice none 0 0,.int .u64 2,.int .u8 0,.string (str ([]:List UInt8)),.slice none 0 0,.int .u64 3,.int .u8 0,.string (str ([]:List UInt8)),.slice none 0 0] [it3 1,it3 2,it3 3]:=⟨[.int .u64 1,.int .u8 0,.string (str []),.slice none 0 0],_,rfl,rfl,⟨none,0,rfl,by decide,by decide,by decide,by decide,Az.nil⟩,⟨[.int .u64 2,.int .u8 0,.string (str []),.slice none 0 0],_,rfl,rfl,⟨none,0,rfl,by decide,by decide,by decide,by decide,Az.nil⟩,⟨[.int .u64 3,.int .u8 0,.string (str []),.slice none 0 0],_,rfl,rfl,⟨none,0,rfl,by decide,by decide,by decide,by decide,Az.nil⟩,rfl⟩⟩⟩
 obtain ⟨hnz10,Gz10,az10,cz10,hGz10,hez10,Sz10,M⟩:=M.freeze_row A3 (k:=0) rfl Ei (by decide)
 clear hez10 az10 cz10
 replace Sz6:=Sz6.mono Bg hGz10
 refine Dx F ent92 rfl rfl (lreset3 M Sz6 Sz10) ?_;clear F M a;rintro _ Gq11 _ w a hGq11 M ⟨aoq11,csq11,Loq11,rfl,rfl,Eoq11⟩ F
 replace Sz6:=Sz6.mono Bg hGq11
 replace Sz10:=Sz10.mono A3 hGq11
 have M:=M.perm (Ch (Cs aoq11 ((l3,(0:Int))).1.length csq11::Loq11) [.blk b7 [.slice av5 1 (cv5),.int .i64 1] 51,.blk b3 [.slice none 0 0] 54,.blk b1 [.slice none 0 0,.int .i64 0] 51] L)
 change Mem w0 Gq11 (.blk b7 [.slice av5 1 (cv5),.int .i64 1] 51::.blk b3 [.slice none 0 0] 54::.blk b1 [.slice none 0 0,.int .i64 0] 51::((Cs aoq11 ((l3,(0:Int))).1.length csq11::Loq11)++L)) _ at M
 revert a
 refine Ae rfl<|Dg rfl rfl<|Dg rfl rfl<|C6 M Ba rfl rfl<|?_;clear M;intro b12 w M
 intro a F
 refine Av F M Ba (k:=0) rfl rfl rfl (us:=[.slice aoq11 (((l3,(0:Int))).1.length) (((l3,(0:Int))).1.length)]) rfl rfl (by simp [Value.oneCell']) (by simp) ?_;clear F M a;intro w a M F
 change Mem w0 Gq11 (.blk b12 [.slice aoq11 (((l3,(0:Int))).1.length) (((l3,(0:Int))).1.length)] 54::.blk b7 [.slice av5 1 (cv5),.int .i64 1] 51::_::_::((Cs aoq11 ((l3,(0:Int))).1.length csq11::Loq11)++L)) _ at M
 revert a
 refine Af rfl<|Aa<|Ad<|Ab<|?_
 obtain ⟨Ggq11,hGgq11,M,Sgq11⟩:=Nw (M.perm (Ch [.blk b12 [.slice aoq11 (((l3,(0:Int))).1.length) (((l3,(0:Int))).1.length)] 54,.blk b7 [.slice av5 1 (cv5),.int .i64 1] 51,.blk b3 [.slice none 0 0] 54,.blk b1 [.slice none 0 0,.int .i64 0] 51] (Cs aoq11 ((l3,(0:Int))).1.length csq11::Loq11) L)) Eoq11
 replace Sz6:=Sz6.mono Bg hGgq11
 replace Sz10:=Sz10.mono A3 hGgq11
 change Mem w0 Ggq11 (.blk b12 [.slice aoq11 ((l3,(0:Int)).1.length) ((l3,(0:Int)).1.length)] 54::.blk b7 [.slice av5 1 (cv5),.int .i64 1] 51::.blk b3 [.slice none 0 0] 54::.blk b1 [.slice none 0 0,.int .i64 0] 51::L) _ at M
 intro a F
 refine F4 [(true,0),(true,1),(false,2),(false,3)] (Keep Ggq11 [.blk b12 [.slice aoq11 ((l3,(0:Int)).1.length) ((l3,(0:Int)).1.length)] 54,.blk b7 [.slice av5 1 (cv5),.int .i64 1] 51]) rfl (by kernel_rfl) (fun c a d v w h=>by cases d <;> exact h) ((M.drew _).keep (Gle.refl _) (by simp)) ?_
 replace M:=M.drew (w.drawn+1)
 revert a
 refine l_r (fun a F w M=>Ao Dw rfl (F.ev rfl) (cs:=[.slice av5 1 (cv5),.int .i64 1]) rfl (M.cellsL (k:=1) rfl rfl)) rfl<|l_r (fun a F w M=>Ao Ba rfl (F.ev rfl) (cs:=[.slice aoq11 ((l3,(0:Int)).1.length) ((l3,(0:Int)).1.length)]) rfl (M.cellsL (k:=0) rfl rfl)) rfl<|l_a rfl<|fun a F=>?_
 refine Av F M Dw (k:=3) rfl rfl rfl (us:=[.slice av5 1 (cv5),.int .i64 1]) rfl rfl (by simp [Value.oneCell']) (by simp) ?_;clear F M a;intro w a M F
 change Mem w0 Ggq11 (_::.blk b7 [.slice av5 1 (cv5),.int .i64 1] 51::_::.blk b1 [.slice av5 1 (cv5),.int .i64 1] 51::L) _ at M
 revert a
 refine Aa<|eK (C':=Keep Ggq11 [.blk b12 [.slice aoq11 ((l3,(0:Int)).1.length) ((l3,(0:Int)).1.length)] 54,.blk b7 [.slice av5 1 (cv5),.int .i64 1] 51]) (M.keep (Gle.refl _) (by simp)) (fun w h=>h.mono (Gle.refl _) (by simp))<|l_a rfl<|fun a F=>?_
 refine Av F M Ba (k:=2) rfl rfl rfl (us:=[.slice aoq11 ((l3,(0:Int)).1.length) ((l3,(0:Int)).1.length)]) rfl rfl (by simp [Value.oneCell']) (by simp) ?_;clear F M a;intro w a M F
 change Mem w0 Ggq11 (_::.blk b7 [.slice av5 1 (cv5),.int .i64 1] 51::.blk b3 [.slice aoq11 ((l3,(0:Int)).1.length) ((l3,(0:Int)).1.length)] 54::.blk b1 [.slice av5 1 (cv5),.int .i64 1] 51::L) _ at M
 revert a
 refine Aa<|eK (C':=Keep Ggq11 [.blk b12 [.slice aoq11 ((l3,(0:Int)).1.length) ((l3,(0:Int)).1.length)] 54,.blk b7 [.slice av5 1 (cv5),.int .i64 1] 51]) (M.keep (Gle.refl _) (by simp)) (fun w h=>h.mono (Gle.refl _) (by simp))<|Hl<|Ad<|Ak<|fun a F=>fin_aa F M (k1:=3) (k2:=2) rfl rfl rfl Dw Ba rfl rfl rfl rfl rfl rfl ?_
 exact ⟨_,(((hGz6.trans hGz10).trans hGq11).trans hGgq11),M.weaken (.cons _ (.cons _ (.cons _ (.cons _ (sR _))))),_,_,_,_,rfl,Sz6,Sgq11⟩
open Go Go.Y Go.Proofs
variable {w0 w:World} {G:A4} {L:List Res}
set_option linter.unusedSimpArgs false
set_option linter.unusedVariables false
theorem Acd (M:Mem w0 G L w) {ns:List NotD} {R:List EntD × Nat × Int} (hR:Ph c3 l3 ns=R) {ka la an:Option Addr} {kc lc cn:Nat} (SC:Az Dv 9 G (.slice ka c3.kinds.length kc) c3.kinds) (SL:Az Cy 6 G (.slice la l3.length lc) l3) (SN:Az Ff 5 G (.slice an ns.length cn) ns) (hNX:∀ x∈ns,x.items.length≤900000) :
  Calls Tryz.prog 25 #[.agg #[.slice ka c3.kinds.length kc,.int .i64 1],.agg #[.slice la l3.length lc],.slice an ns.length cn] w (H4 w0 G (fun G' L' v=>∃ (a:Option Addr) (cs:List Value) (Ls:List Res),v=.tuple #[.agg #[.slice a (R).1.length (R).1.length],.int .i64 (((R).2.1:Nat):Int),.int .i64 R.2.2]∧L' = (Cs a (R).1.length cs::(Ls++L))∧Els (Mv Ls) 6 G' cs (R).1)):=by
 rw [← hR]
 exact Aeu (c:=c3) M SC SL SN hNX
theorem hnl {k:Nat} {a b t:Int} {l:List ItemD} (h:k < 256∧(0≤a∧a≤9)∧(0≤b∧b≤9)∧(0≤t∧t≤9)∧l.length≤9):(⟨k,a,b,t,l⟩:NotD).kind < 256∧Aw .i64 (⟨k,a,b,t,l⟩:NotD).at_∧Aw .i64 (⟨k,a,b,t,l⟩:NotD).count∧Aw .i64 (⟨k,a,b,t,l⟩:NotD).to∧(⟨k,a,b,t,l⟩:NotD).items.length≤9223372036854775807 :=
 ⟨h.1,Cu (by show _≤a;omega) (by show a≤_;omega),Cu (by show _≤b;omega) (by show b≤_;omega),Cu (by show _≤t;omega) (by show t≤_;omega),(by have:=h.2.2.2.2;show l.length≤_;omega)⟩
theorem rdn {G:A4} {k:Nat} {a b t:Int} {l:List ItemD} {ad:Option Addr} {c n:Nat} (h:k < 256∧(0≤a∧a≤9)∧(0≤b∧b≤9)∧(0≤t∧t≤9)∧l.length≤9) (hn:n=l.length) (S:Az Co 4 G (.slice ad n c) l) :
  Ff G [.int .u8 ((k:Nat):Int),.int .i64 a,.int .i64 b,.int .i64 t,.slice ad n c] ⟨k,a,b,t,l⟩:=by
 subst hn
 obtain ⟨h1,h2,h3,h4,h5⟩:=hnl h
 exact ⟨ad,c,rfl,h1,h2,h3,h4,h5,S⟩
theorem Ox (M:Mem w0 G L w) {k:Nat} {a b t z:Int} (h:k < 256∧(0≤a∧a≤9)∧(0≤b∧b≤9)∧(0≤t∧t≤9)∧([]:List ItemD).length≤9) (hz:D6 ⟨k,a,b,t,[]⟩=z) :
  Calls Tryz.prog 37 #[.agg #[.int .u8 ((k:Nat):Int),.int .i64 a,.int .i64 b,.int .i64 t,.slice none 0 0]] w (Ci w0 G L fun v=>v=.int .i64 z):=by
 rw [← hz]
 exact Ha (x:=⟨k,a,b,t,[]⟩) M (hnl h) Az.nil
theorem ln_cell {i n:Nat} (h:lnN[i]?=some n):(#[.int .i64 2,.int .i64 1,.int .i64 2]:Array Value)[i]?=some (.int .i64 ((n:Nat):Int)):=by
 rcases i with _ | _ | _ | i <;> simp only [lnN,List.getElem?_cons_zero,List.getElem?_cons_succ,List.getElem?_nil,Option.some.injEq,reduceCtorEq] at h
 ·subst h;rfl
 ·subst h;rfl
 ·subst h;rfl
theorem Ki (M:Mem w0 G L w) (HG:Globs 0 1 2 3 G):Calls Tryz.prog 22 #[] w (Ret w0 G L fun G' v=>v=.bool true):=by
 refine A0 (vs:=[]) Tryz.func22 rfl (n:=148) rfl rfl<|Ab<|Ac<|Af rfl<|Aa<|Ad<|Ab<|Ac<|Hx ent36 rfl rfl (Zv M)<|?_;clear M;rintro _ Gq1 w hGq1 M ⟨kaq1,kcq1,laq1,lcq1,rfl,SCq1,SLq1⟩
 replace HG:=HG.mono hGq1
 refine Ae rfl<|Dg rfl rfl<|Dg rfl rfl<|C6 M Dw rfl rfl<|?_;clear M;intro b2 w M
 refine C6 M Ba rfl rfl<|?_;clear M;intro b4 w M
 intro a F
 refine Av F M Dw (k:=1) rfl rfl rfl (us:=[.slice kaq1 c3.kinds.length kcq1,.int .i64 1]) rfl rfl (by simp [Value.oneCell']) (by simp) ?_;clear F M a;intro w a M F
 change Mem w0 Gq1 (_::.blk b2 [.slice kaq1 c3.kinds.length kcq1,.int .i64 1] 51::L) _ at M
 refine Av F M Ba (k:=0) rfl rfl rfl (us:=[.slice laq1 l3.length lcq1]) rfl rfl (by simp [Value.oneCell']) (by simp) ?_;clear F M a;intro w a M F
 change Mem w0 Gq1 (.blk b4 [.slice laq1 l3.length lcq1] 54::.blk b2 [.slice kaq1 c3.kinds.length kcq1,.int .i64 1] 51::L) _ at M
 revert a
 refine Aa<|Ad<|Ab<|Ac<|Ar (fun a F=>Be (cs:=[.int .u8 2,.int .i64 0,.int .i64 1,.int .i64 0,.slice none 0 0]) (ps:=[(0,.int .u8 2),(2,.int .i64 1)]) Bd.k rfl Bd (F.evp rfl) rfl) rfl<|Ar (fun a F=>Be (cs:=[.int .u64 9,.int .u8 0,.string (str ([]:List UInt8)),.slice none 0 0]) (ps:=[(0,.int .u64 9)]) Bf.k rfl Bf (F.evp rfl) rfl) rfl<|fun a F=>?_
 refine Cv F M Bp.k Bf rfl rfl (cs:=[.int .u64 9,.int .u8 0,.string (str ([]:List UInt8)),.slice none 0 0]) rfl rfl (by simp [Value.oneCell']) (by decide) rfl ?_;clear F M a;intro v6 w a M F
 obtain ⟨av6,cv6,rfl,hlev6,hcmv6,hlv6⟩:=M.row_shape (k:=0) rfl
 have Ei7:Els Co 4 Gq1 [.int .u64 9,.int .u8 0,.string (str ([]:List UInt8)),.slice none 0 0] [it3 9]:=⟨[.int .u64 9,.int .u8 0,.string (str []),.slice none 0 0],_,rfl,rfl,⟨none,0,rfl,by decide,by decide,by decide,by decide,Az.nil⟩,rfl⟩
 obtain ⟨hnz8,Gz8,az8,cz8,hGz8,hez8,Sz8,M⟩:=M.freeze_row A3 (k:=0) rfl Ei7 (by decide)
 clear hez8 az8 cz8
 replace HG:=HG.mono hGz8
 replace SCq1:=SCq1.mono Bg hGz8
 replace SLq1:=SLq1.mono Ay hGz8
 revert a
 refine Ar (fun a F=>Be (cs:=[.int .u8 1,.int .i64 2,.int .i64 0,.int .i64 0,.slice av6 1 (cv6)]) (ps:=[(0,.int .u8 1),(1,.int .i64 2),(4,.slice av6 1 (cv6))]) Bd.k rfl Bd (F.evp rfl) rfl) rfl<|Ar (fun a F=>Be (cs:=[.int .u8 3,.int .i64 0,.int .i64 1,.int .i64 2,.slice none 0 0]) (ps:=[(0,.int .u8 3),(2,.int .i64 1),(3,.int .i64 2)]) Bd.k rfl Bd (F.evp rfl) rfl) rfl<|fun a F=>?_
 refine Ef F M Dd.k Bd (ps:=[(0,.agg #[.int .u8 2,.int .i64 0,.int .i64 1,.int .i64 0,.slice none 0 0]),(1,.agg #[.int .u8 1,.int .i64 2,.int .i64 0,.int .i64 0,.slice av6 1 (cv6)]),(2,.agg #[.int .u8 3,.int .i64 0,.int .i64 1,.int .i64 2,.slice none 0 0])]) (cs:=[[.int .u8 2,.int .i64 0,.int .i64 1,.int .i64 0,.slice none 0 0],[.int .u8 1,.int .i64 2,.int .i64 0,.int .i64 0,.slice av6 1 (cv6)],[.int .u8 3,.int .i64 0,.int .i64 1,.int .i64 2,.slice none 0 0]]) (fl:=[.int .u8 2,.int .i64 0,.int .i64 1,.int .i64 0,.slice none 0 0,.int .u8 1,.int .i64 2,.int .i64 0,.int .i64 0,.slice av6 1 (cv6),.int .u8 3,.int .i64 0,.int .i64 1,.int .i64 2,.slice none 0 0]) rfl rfl (by simp [Kw,Value.cells]) (by simp [ti65]) rfl (by simp [Value.oneCell']) (by decide) (by decide) rfl ?_;clear F M a;intro v9 w a M F
 obtain ⟨av9,cv9,rfl,hlev9,hcmv9,hlv9⟩:=M.row_shape (k:=0) rfl
 have En10:Els Ff 5 Gz8 [.int .u8 2,.int .i64 0,.int .i64 1,.int .i64 0,.slice none 0 0,.int .u8 1,.int .i64 2,.int .i64 0,.int .i64 0,.slice av6 1 (cv6),.int .u8 3,.int .i64 0,.int .i64 1,.int .i64 2,.slice none 0 0] Pr:=⟨_,_,rfl,rfl,rdn (by decide) rfl Az.nil,⟨_,_,rfl,rfl,rdn (by decide) rfl Sz8,⟨_,_,rfl,rfl,rdn (by decide) rfl Az.nil,rfl⟩⟩⟩
 obtain ⟨hnz11,Gz11,az11,cz11,hGz11,hez11,Sz11,M⟩:=M.freeze_row Bn (k:=0) rfl En10 (by decide)
 clear hez11 az11 cz11
 replace HG:=HG.mono hGz11
 replace SCq1:=SCq1.mono Bg hGz11
 replace SLq1:=SLq1.mono Ay hGz11
 replace Sz8:=Sz8.mono A3 hGz11
 revert a
 refine Af rfl<|Aa<|Ad<|Ab<|Ac<|Ar (fun a F=>Ao Dw rfl (F.ev rfl) (cs:=[.slice kaq1 c3.kinds.length kcq1,.int .i64 1]) rfl (M.cellsL (k:=1) rfl rfl)) rfl<|Ar (fun a F=>Ao Ba rfl (F.ev rfl) (cs:=[.slice laq1 l3.length lcq1]) rfl (M.cellsL (k:=0) rfl rfl)) rfl<|Ae rfl<|fun a F=>?_
 refine Dx F ent25 rfl rfl (Acd (ns:=Pr) M all3 SCq1 SLq1 Sz11 (by decide)) ?_;clear F M a;rintro _ Gq12 _ w a hGq12 M ⟨aoq12,csq12,Loq12,rfl,rfl,Eoq12⟩ F
 replace HG:=HG.mono hGq12
 replace SCq1:=SCq1.mono Bg hGq12
 replace SLq1:=SLq1.mono Ay hGq12
 replace Sz8:=Sz8.mono A3 hGq12
 replace Sz11:=Sz11.mono Bn hGq12
 have M:=M.perm (Ch (Cs aoq12 (([en3 3,en3 9,en3 2]:List EntD),(3:Nat),(0:Int)).1.length csq12::Loq12) [.blk b4 [.slice laq1 l3.length lcq1] 54,.blk b2 [.slice kaq1 c3.kinds.length kcq1,.int .i64 1] 51] L)
 obtain ⟨Ggq12,hGgq12,M,Sgq12⟩:=Nw (M.perm (Ch [.blk b4 [.slice laq1 l3.length lcq1] 54,.blk b2 [.slice kaq1 c3.kinds.length kcq1,.int .i64 1] 51] (Cs aoq12 (([en3 3,en3 9,en3 2]:List EntD),(3:Nat),(0:Int)).1.length csq12::Loq12) L)) Eoq12
 replace HG:=HG.mono hGgq12
 replace SCq1:=SCq1.mono Bg hGgq12
 replace SLq1:=SLq1.mono Ay hGgq12
 replace Sz8:=Sz8.mono A3 hGgq12
 replace Sz11:=Sz11.mono Bn hGgq12
 change Mem w0 Ggq12 (.blk b4 [.slice laq1 l3.length lcq1] 54::.blk b2 [.slice kaq1 c3.kinds.length kcq1,.int .i64 1] 51::L) _ at M
 revert a
 refine Ae rfl<|Dg rfl rfl<|Dg rfl rfl<|Dg rfl rfl<|C6 M Ba rfl rfl<|?_;clear M;intro b13 w M
 intro a F
 refine Av F M Ba (k:=0) rfl rfl rfl (us:=[.slice aoq12 ((([en3 3,en3 9,en3 2]:List EntD),(3:Nat),(0:Int)).1.length) ((([en3 3,en3 9,en3 2]:List EntD),(3:Nat),(0:Int)).1.length)]) rfl rfl (by simp [Value.oneCell']) (by simp) ?_;clear F M a;intro w a M F
 change Mem w0 Ggq12 (.blk b13 [.slice aoq12 ((([en3 3,en3 9,en3 2]:List EntD),(3:Nat),(0:Int)).1.length) ((([en3 3,en3 9,en3 2]:List EntD),(3:Nat),(0:Int)).1.length)] 54::.blk b4 [.slice laq1 l3.length lcq1] 54::.blk b2 [.slice kaq1 c3.kinds.length kcq1,.int .i64 1] 51::L) _ at M
 revert a
 refine Af rfl<|Af rfl<|Aa<|Ad<|Ab<|Ac<|Ar (fun a F=>Ao Dw rfl (F.ev rfl) (cs:=[.slice kaq1 c3.kinds.length kcq1,.int .i64 1]) rfl (M.cellsL (k:=2) rfl rfl)) rfl<|Ar (fun a F=>Ao Ba rfl (F.ev rfl) (cs:=[.slice laq1 l3.length lcq1]) rfl (M.cellsL (k:=1) rfl rfl)) rfl<|Ar (fun a F=>Be (cs:=[.int .u8 2,.int .i64 0,.int .i64 1,.int .i64 0,.slice none 0 0]) (ps:=[(0,.int .u8 2),(2,.int .i64 1)]) Bd.k rfl Bd (F.evp rfl) rfl) rfl<|Ar (fun a F=>Be (cs:=[.int .u8 2,.int .i64 2,.int .i64 1,.int .i64 0,.slice none 0 0]) (ps:=[(0,.int .u8 2),(1,.int .i64 2),(2,.int .i64 1)]) Bd.k rfl Bd (F.evp rfl) rfl) rfl<|fun a F=>?_
 refine Ef F M Dd.k Bd (ps:=[(0,.agg #[.int .u8 2,.int .i64 0,.int .i64 1,.int .i64 0,.slice none 0 0]),(1,.agg #[.int .u8 2,.int .i64 2,.int .i64 1,.int .i64 0,.slice none 0 0])]) (cs:=[[.int .u8 2,.int .i64 0,.int .i64 1,.int .i64 0,.slice none 0 0],[.int .u8 2,.int .i64 2,.int .i64 1,.int .i64 0,.slice none 0 0]]) (fl:=[.int .u8 2,.int .i64 0,.int .i64 1,.int .i64 0,.slice none 0 0,.int .u8 2,.int .i64 2,.int .i64 1,.int .i64 0,.slice none 0 0]) rfl rfl (by simp [Kw,Value.cells]) (by simp [ti65]) rfl (by simp [Value.oneCell']) (by decide) (by decide) rfl ?_;clear F M a;intro v15 w a M F
 obtain ⟨av15,cv15,rfl,hlev15,hcmv15,hlv15⟩:=M.row_shape (k:=0) rfl
 have En16:Els Ff 5 Ggq12 [.int .u8 2,.int .i64 0,.int .i64 1,.int .i64 0,.slice none 0 0,.int .u8 2,.int .i64 2,.int .i64 1,.int .i64 0,.slice none 0 0] Ug:=⟨_,_,rfl,rfl,rdn (by decide) rfl Az.nil,⟨_,_,rfl,rfl,rdn (by decide) rfl Az.nil,rfl⟩⟩
 obtain ⟨hnz17,Gz17,az17,cz17,hGz17,hez17,Sz17,M⟩:=M.freeze_row Bn (k:=0) rfl En16 (by decide)
 clear hez17 az17 cz17
 replace HG:=HG.mono hGz17
 replace SCq1:=SCq1.mono Bg hGz17
 replace SLq1:=SLq1.mono Ay hGz17
 replace Sz8:=Sz8.mono A3 hGz17
 replace Sz11:=Sz11.mono Bn hGz17
 replace Sgq12:=Sgq12.mono Ay hGz17
 refine Dx F ent25 rfl rfl (Acd (ns:=Ug) M all3b SCq1 SLq1 Sz17 (by decide)) ?_;clear F M a;rintro _ Gq18 _ w a hGq18 M ⟨aoq18,csq18,Loq18,rfl,rfl,Eoq18⟩ F
 replace HG:=HG.mono hGq18
 replace SCq1:=SCq1.mono Bg hGq18
 replace SLq1:=SLq1.mono Ay hGq18
 replace Sz8:=Sz8.mono A3 hGq18
 replace Sz11:=Sz11.mono Bn hGq18
 replace Sgq12:=Sgq12.mono Ay hGq18
 replace Sz17:=Sz17.mono Bn hGq18
 have M:=M.perm (Ch (Cs aoq18 (([]:List EntD),(1:Nat),(4:Int)).1.length csq18::Loq18) [.blk b13 [.slice aoq12 ((([en3 3,en3 9,en3 2]:List EntD),(3:Nat),(0:Int)).1.length) ((([en3 3,en3 9,en3 2]:List EntD),(3:Nat),(0:Int)).1.length)] 54,.blk b4 [.slice laq1 l3.length lcq1] 54,.blk b2 [.slice kaq1 c3.kinds.length kcq1,.int .i64 1] 51] L)
 obtain ⟨Ggq18,hGgq18,M,Sgq18⟩:=Nw (M.perm (Ch [.blk b13 [.slice aoq12 ((([en3 3,en3 9,en3 2]:List EntD),(3:Nat),(0:Int)).1.length) ((([en3 3,en3 9,en3 2]:List EntD),(3:Nat),(0:Int)).1.length)] 54,.blk b4 [.slice laq1 l3.length lcq1] 54,.blk b2 [.slice kaq1 c3.kinds.length kcq1,.int .i64 1] 51] (Cs aoq18 (([]:List EntD),(1:Nat),(4:Int)).1.length csq18::Loq18) L)) Eoq18
 replace HG:=HG.mono hGgq18
 replace SCq1:=SCq1.mono Bg hGgq18
 replace SLq1:=SLq1.mono Ay hGgq18
 replace Sz8:=Sz8.mono A3 hGgq18
 replace Sz11:=Sz11.mono Bn hGgq18
 replace Sgq12:=Sgq12.mono Ay hGgq18
 replace Sz17:=Sz17.mono Bn hGgq18
 change Mem w0 Ggq18 (.blk b13 [.slice aoq12 ((([en3 3,en3 9,en3 2]:List EntD),(3:Nat),(0:Int)).1.length) ((([en3 3,en3 9,en3 2]:List EntD),(3:Nat),(0:Int)).1.length)] 54::.blk b4 [.slice laq1 l3.length lcq1] 54::.blk b2 [.slice kaq1 c3.kinds.length kcq1,.int .i64 1] 51::L) _ at M
 revert a
 refine Ae rfl<|Dg rfl rfl<|Dg rfl rfl<|Dg rfl rfl<|C6 M Ba rfl rfl<|?_;clear M;intro b19 w M
 intro a F
 refine Av F M Ba (k:=0) rfl rfl rfl (us:=[.slice aoq18 ((([]:List EntD),(1:Nat),(4:Int)).1.length) ((([]:List EntD),(1:Nat),(4:Int)).1.length)]) rfl rfl (by simp [Value.oneCell']) (by simp) ?_;clear F M a;intro w a M F
 change Mem w0 Ggq18 (.blk b19 [.slice aoq18 ((([]:List EntD),(1:Nat),(4:Int)).1.length) ((([]:List EntD),(1:Nat),(4:Int)).1.length)] 54::.blk b13 [.slice aoq12 ((([en3 3,en3 9,en3 2]:List EntD),(3:Nat),(0:Int)).1.length) ((([en3 3,en3 9,en3 2]:List EntD),(3:Nat),(0:Int)).1.length)] 54::.blk b4 [.slice laq1 l3.length lcq1] 54::.blk b2 [.slice kaq1 c3.kinds.length kcq1,.int .i64 1] 51::L) _ at M
 revert a
 refine Af rfl<|Af rfl<|Aa<|Ad<|Ab<|Ab<|Ac<|Ar (fun a F=>Be (cs:=[.int .u8 2,.int .i64 0,.int .i64 0,.int .i64 1,.slice none 0 0]) (ps:=[(0,.int .u8 2),(3,.int .i64 1)]) Bd.k rfl Bd (F.evp rfl) rfl) rfl<|Bw Y0 rfl rfl (Ox (k:=2) (a:=0) (b:=0) (t:=1) (z:=5) M (by decide) (by decide))<|?_;clear M;rintro _ w M rfl
 refine D9 rfl rfl<|Ae rfl<|g_t rfl (Ag (decide_eq_true (by decide)))<|Ar (fun a F=>Be (cs:=[.int .u8 6,.int .i64 0,.int .i64 0,.int .i64 0,.slice none 0 0]) (ps:=[(0,.int .u8 6)]) Bd.k rfl Bd (F.evp rfl) rfl) rfl<|g_t rfl (Ag (decide_eq_true (by decide)))<|Bw Y0 rfl rfl (Ox (k:=6) (a:=0) (b:=0) (t:=0) (z:=1) M (by decide) (by decide))<|?_;clear M;rintro _ w M rfl
 refine g_t rfl (Ag (decide_eq_true (by decide)))<|D9 rfl rfl<|Bh rfl (Ag (decide_eq_true (by decide))) rfl<|Ae rfl<|g_t rfl (Ag (decide_eq_true (by decide)))<|Ar (fun a F=>Be (cs:=[.int .u8 5,.int .i64 0,.int .i64 0,.int .i64 0,.slice none 0 0]) (ps:=[(0,.int .u8 5)]) Bd.k rfl Bd (F.evp rfl) rfl) rfl<|g_t rfl (Ag (decide_eq_true (by decide)))<|Bw Y0 rfl rfl (Ox (k:=5) (a:=0) (b:=0) (t:=0) (z:=0) M (by decide) (by decide))<|?_;clear M;rintro _ w M rfl
 refine g_t rfl (Ag (decide_eq_true (by decide)))<|D9 rfl rfl<|Bh rfl (Ag (decide_eq_true (by decide))) rfl<|Ae rfl<|g_t rfl (Ag (decide_eq_true (by decide)))<|Ae rfl<|g_t rfl (Ag (decide_eq_true (by decide)))<|D9 rfl rfl<|Bh rfl (Ag (decide_eq_true (by decide))) rfl<|Ae rfl<|g_t rfl (Ag (decide_eq_true (by decide)))<|Ae rfl<|g_t rfl (Ag (decide_eq_true (by decide)))<|D9 rfl rfl<|Bh rfl (Ag (decide_eq_true (by decide))) rfl<|Ae rfl<|g_t rfl (Ag (decide_eq_true (by decide)))<|A2 Ba.k rfl rfl<|g_t rfl (Ag (decide_eq_true (by decide)))<|Bi Cz M 1 rfl rfl rfl rfl<|g_t rfl (Ag (decide_eq_true (by decide)))<|B8 Cz.k rfl<|g_t rfl (Ag (decide_eq_true (by decide)))<|D9 rfl rfl<|?_
 refine Bh rfl (Ag (decide_eq_true (by decide))) rfl<|Ae rfl<|?_
 have hg21:(!(decide ((((([en3 3,en3 9,en3 2]:List EntD),(3:Nat),(0:Int)).1.length:Nat):Int)=3)))=false:=(Ag (decide_eq_true (by (first | omega | rfl | decide))))
 refine g_t rfl hg21<|Ae rfl<|g_t rfl hg21<|D9 rfl rfl<|Bh rfl hg21 rfl<|Ae rfl<|g_t rfl (Ag (decide_eq_true (by decide)))<|Ae rfl<|g_t rfl (Ag (decide_eq_true (by decide)))<|D9 rfl rfl<|Bh rfl (Ag (decide_eq_true (by decide))) rfl<|Ae rfl<|g_t rfl (Ag (decide_eq_true (by decide)))<|A2 Ba.k rfl rfl<|g_t rfl (Ag (decide_eq_true (by decide)))<|Bi Cz M 0 rfl rfl rfl rfl<|g_t rfl (Ag (decide_eq_true (by decide)))<|B8 Cz.k rfl<|g_t rfl (Ag (decide_eq_true (by decide)))<|D9 rfl rfl<|Bh rfl (Ag (decide_eq_true (by decide))) rfl<|Aa<|Ad<|El rfl (Ag (decide_eq_true (by decide)))<|?_
 refine Aq<|Ad<|Ab<|Ab<|Ac<|A2 Ba.k rfl rfl<|Bi Cz M 1 rfl rfl rfl rfl<|?_
 obtain ⟨be22,oe22,_,Ie22,_,Ae22,hTe22⟩:=Sgq12.at (show ([en3 3,en3 9,en3 2]:List EntD)[0]?=some (en3 3) from rfl)
 obtain ⟨c1e22,hcse22,hPe22,hBe22⟩:=hTe22
 obtain ⟨mae22,mce22,rfl,hke22,hte22,hxe22,hne22,SMe22⟩:=hPe22
 subst hcse22
 have hIe22:(((en3 3).item).key < 18446744073709551616∧((en3 3).item).typ < 256∧((en3 3).item).text.length≤9223372036854775807):=⟨hke22,hte22,hxe22⟩
 have hQe22:-9223372036854775808≤(en3 3).size∧(en3 3).size≤9223372036854775807:=hBe22
 refine Ds Cz.k C8 Ie22 rfl rfl<|A2 C8.k rfl rfl<|A2 Bf.k rfl rfl<|C2 Ew M Ae22 0 rfl rfl (by omega) rfl<|D9 rfl rfl<|Ae rfl<|?_
 have hg23:(!(decide (((((en3 3).item).key:Nat):Int)=3)))=false:=(Ag (decide_eq_true (by (first | omega | rfl | decide))))
 refine g_t rfl hg23<|A2 Ba.k rfl rfl<|g_t rfl hg23<|Bi Cz M 1 rfl rfl rfl rfl<|g_t rfl hg23<|?_
 obtain ⟨be24,oe24,_,Ie24,_,Ae24,hTe24⟩:=Sgq12.at (show ([en3 3,en3 9,en3 2]:List EntD)[1]?=some (en3 9) from rfl)
 obtain ⟨c1e24,hcse24,hPe24,hBe24⟩:=hTe24
 obtain ⟨mae24,mce24,rfl,hke24,hte24,hxe24,hne24,SMe24⟩:=hPe24
 subst hcse24
 have hIe24:(((en3 9).item).key < 18446744073709551616∧((en3 9).item).typ < 256∧((en3 9).item).text.length≤9223372036854775807):=⟨hke24,hte24,hxe24⟩
 have hQe24:-9223372036854775808≤(en3 9).size∧(en3 9).size≤9223372036854775807:=hBe24
 refine Ds Cz.k C8 Ie24 rfl rfl<|g_t rfl hg23<|A2 C8.k rfl rfl<|g_t rfl hg23<|A2 Bf.k rfl rfl<|g_t rfl hg23<|C2 Ew M Ae24 0 rfl rfl (by omega) rfl<|g_t rfl hg23<|D9 rfl rfl<|Bh rfl hg23 rfl<|Ae rfl<|?_
 have hg25:(!(decide (((((en3 9).item).key:Nat):Int)=9)))=false:=(Ag (decide_eq_true (by (first | omega | rfl | decide))))
 refine g_t rfl hg25<|A2 Ba.k rfl rfl<|g_t rfl hg25<|Bi Cz M 1 rfl rfl rfl rfl<|g_t rfl hg25<|?_
 obtain ⟨be26,oe26,_,Ie26,_,Ae26,hTe26⟩:=Sgq12.at (show ([en3 3,en3 9,en3 2]:List EntD)[2]?=some (en3 2) from rfl)
 obtain ⟨c1e26,hcse26,hPe26,hBe26⟩:=hTe26
 obtain ⟨mae26,mce26,rfl,hke26,hte26,hxe26,hne26,SMe26⟩:=hPe26
 subst hcse26
 have hIe26:(((en3 2).item).key < 18446744073709551616∧((en3 2).item).typ < 256∧((en3 2).item).text.length≤9223372036854775807):=⟨hke26,hte26,hxe26⟩
 have hQe26:-9223372036854775808≤(en3 2).size∧(en3 2).size≤9223372036854775807:=hBe26
 refine Ds Cz.k C8 Ie26 rfl rfl<|g_t rfl hg25<|A2 C8.k rfl rfl<|g_t rfl hg25<|A2 Bf.k rfl rfl<|g_t rfl hg25<|C2 Ew M Ae26 0 rfl rfl (by omega) rfl<|g_t rfl hg25<|D9 rfl rfl<|Bh rfl hg25 rfl<|Aa<|Ad<|El rfl (Ag (decide_eq_true (by decide)))<|Aq<|Ad<|Ab<|Ac<|Ar (fun a F=>Be (cs:=[.int .u64 9,.int .u8 0,.string (str ([120]:List UInt8)),.slice none 0 0]) (ps:=[(0,.int .u64 9),(2,.string (str ([120]:List UInt8)))]) Bf.k rfl Bf (F.evp rfl) rfl) rfl<|fun a F=>?_
 refine Cv F M Bp.k Bf rfl rfl (cs:=[.int .u64 9,.int .u8 0,.string (str ([120]:List UInt8)),.slice none 0 0]) rfl rfl (by simp [Value.oneCell']) (by decide) rfl ?_;clear F M a;intro v27 w a M F
 obtain ⟨av27,cv27,rfl,hlev27,hcmv27,hlv27⟩:=M.row_shape (k:=0) rfl
 have Ei28:Els Co 4 Ggq18 [.int .u64 9,.int .u8 0,.string (str ([120]:List UInt8)),.slice none 0 0] [⟨9,0,[120],[]⟩]:=⟨[.int .u64 9,.int .u8 0,.string (str [120]),.slice none 0 0],_,rfl,rfl,⟨none,0,rfl,by decide,by decide,by decide,by decide,Az.nil⟩,rfl⟩
 obtain ⟨hnz29,Gz29,az29,cz29,hGz29,hez29,Sz29,M⟩:=M.freeze_row A3 (k:=0) rfl Ei28 (by decide)
 clear hez29 az29 cz29
 replace HG:=HG.mono hGz29
 replace SCq1:=SCq1.mono Bg hGz29
 replace SLq1:=SLq1.mono Ay hGz29
 replace Sz8:=Sz8.mono A3 hGz29
 replace Sz11:=Sz11.mono Bn hGz29
 replace Sgq12:=Sgq12.mono Ay hGz29
 replace Sz17:=Sz17.mono Bn hGz29
 replace Sgq18:=Sgq18.mono Ay hGz29
 replace Ae22:=Ae22.mono hGz29
 replace SMe22:=SMe22.mono Br hGz29
 replace Ae24:=Ae24.mono hGz29
 replace SMe24:=SMe24.mono Br hGz29
 replace Ae26:=Ae26.mono hGz29
 replace SMe26:=SMe26.mono Br hGz29
 revert a
 refine Ar (fun a F=>Be (cs:=[.int .u8 1,.int .i64 2,.int .i64 0,.int .i64 0,.slice av27 1 (cv27)]) (ps:=[(0,.int .u8 1),(1,.int .i64 2),(4,.slice av27 1 (cv27))]) Bd.k rfl Bd (F.evp rfl) rfl) rfl<|Ar (fun a F=>Be (cs:=[.int .u8 2,.int .i64 0,.int .i64 1,.int .i64 0,.slice none 0 0]) (ps:=[(0,.int .u8 2),(2,.int .i64 1)]) Bd.k rfl Bd (F.evp rfl) rfl) rfl<|fun a F=>?_
 refine Ef F M Dd.k Bd (ps:=[(0,.agg #[.int .u8 1,.int .i64 2,.int .i64 0,.int .i64 0,.slice av27 1 (cv27)]),(1,.agg #[.int .u8 2,.int .i64 0,.int .i64 1,.int .i64 0,.slice none 0 0])]) (cs:=[[.int .u8 1,.int .i64 2,.int .i64 0,.int .i64 0,.slice av27 1 (cv27)],[.int .u8 2,.int .i64 0,.int .i64 1,.int .i64 0,.slice none 0 0]]) (fl:=[.int .u8 1,.int .i64 2,.int .i64 0,.int .i64 0,.slice av27 1 (cv27),.int .u8 2,.int .i64 0,.int .i64 1,.int .i64 0,.slice none 0 0]) rfl rfl (by simp [Kw,Value.cells]) (by simp [ti65]) rfl (by simp [Value.oneCell']) (by decide) (by decide) rfl ?_;clear F M a;intro v30 w a M F
 obtain ⟨av30,cv30,rfl,hlev30,hcmv30,hlv30⟩:=M.row_shape (k:=0) rfl
 have En31:Els Ff 5 Gz29 [.int .u8 1,.int .i64 2,.int .i64 0,.int .i64 0,.slice av27 1 (cv27),.int .u8 2,.int .i64 0,.int .i64 1,.int .i64 0,.slice none 0 0] K2:=⟨_,_,rfl,rfl,rdn (by decide) rfl Sz29,⟨_,_,rfl,rfl,rdn (by decide) rfl Az.nil,rfl⟩⟩
 obtain ⟨hnz32,Gz32,az32,cz32,hGz32,hez32,Sz32,M⟩:=M.freeze_row Bn (k:=0) rfl En31 (by decide)
 clear hez32 az32 cz32
 replace HG:=HG.mono hGz32
 replace SCq1:=SCq1.mono Bg hGz32
 replace SLq1:=SLq1.mono Ay hGz32
 replace Sz8:=Sz8.mono A3 hGz32
 replace Sz11:=Sz11.mono Bn hGz32
 replace Sgq12:=Sgq12.mono Ay hGz32
 replace Sz17:=Sz17.mono Bn hGz32
 replace Sgq18:=Sgq18.mono Ay hGz32
 replace Ae22:=Ae22.mono hGz32
 replace SMe22:=SMe22.mono Br hGz32
 replace Ae24:=Ae24.mono hGz32
 replace SMe24:=SMe24.mono Br hGz32
 replace Ae26:=Ae26.mono hGz32
 replace SMe26:=SMe26.mono Br hGz32
 replace Sz29:=Sz29.mono A3 hGz32
 revert a
 refine Hx ent32 rfl rfl (I6 (ns:=K2) M HG Sz32)<|?_;clear M;rintro _ Gq33 w hGq33 M rfl
 replace HG:=HG.mono hGq33
 replace SCq1:=SCq1.mono Bg hGq33
 replace SLq1:=SLq1.mono Ay hGq33
 replace Sz8:=Sz8.mono A3 hGq33
 replace Sz11:=Sz11.mono Bn hGq33
 replace Sgq12:=Sgq12.mono Ay hGq33
 replace Sz17:=Sz17.mono Bn hGq33
 replace Sgq18:=Sgq18.mono Ay hGq33
 replace Ae22:=Ae22.mono hGq33
 replace SMe22:=SMe22.mono Br hGq33
 replace Ae24:=Ae24.mono hGq33
 replace SMe24:=SMe24.mono Br hGq33
 replace Ae26:=Ae26.mono hGq33
 replace SMe26:=SMe26.mono Br hGq33
 replace Sz29:=Sz29.mono A3 hGq33
 replace Sz32:=Sz32.mono Bn hGq33
 intro a F
 rw [W9.1,W9.2] at F
 revert a
 refine Ae rfl<|Dg rfl rfl<|Dg rfl rfl<|Af rfl<|Af rfl<|Aa<|Ad<|Ab<|Ab<|Ac<|fun a F=>?_
 refine Ef F M Ca.k Bq (ps:=[(0,.string (str ([105,110,115,101,114,116,32,48,32,49,10]:List UInt8))),(1,.string (str ([114,101,109,111,118,101,32,48,10]:List UInt8))),(2,.string (str ([114,101,115,101,116,32,48,10,102,111,111,10]:List UInt8)))]) (cs:=[[.string (str ([105,110,115,101,114,116,32,48,32,49,10]:List UInt8))],[.string (str ([114,101,109,111,118,101,32,48,10]:List UInt8))],[.string (str ([114,101,115,101,116,32,48,10,102,111,111,10]:List UInt8))]]) (fl:=[.string (str ([105,110,115,101,114,116,32,48,32,49,10]:List UInt8)),.string (str ([114,101,109,111,118,101,32,48,10]:List UInt8)),.string (str ([114,101,115,101,116,32,48,10,102,111,111,10]:List UInt8))]) rfl rfl (by simp [Kw,Value.cells]) (by simp [ti9]) rfl (by simp [Value.oneCell']) (by decide) (by decide) rfl ?_;clear F M a;intro v34 w a M F
 obtain ⟨av34,cv34,rfl,hlev34,hcmv34,hlv34⟩:=M.row_shape (k:=0) rfl
 have Et:Els D4 1 Gq33 [.string (str ([105,110,115,101,114,116,32,48,32,49,10]:List UInt8)),.string (str ([114,101,109,111,118,101,32,48,10]:List UInt8)),.string (str ([114,101,115,101,116,32,48,10,102,111,111,10]:List UInt8))] Agf:=Li Agf (by intro y hy;simp only [Agf,List.mem_cons,List.not_mem_nil,or_false] at hy;rcases hy with rfl | rfl | rfl <;> decide)
 obtain ⟨hnz35,Gz35,az35,cz35,hGz35,hez35,Sz35,M⟩:=M.freeze_row Br (k:=0) rfl Et (by decide)
 clear hez35 az35 cz35
 replace HG:=HG.mono hGz35
 replace SCq1:=SCq1.mono Bg hGz35
 replace SLq1:=SLq1.mono Ay hGz35
 replace Sz8:=Sz8.mono A3 hGz35
 replace Sz11:=Sz11.mono Bn hGz35
 replace Sgq12:=Sgq12.mono Ay hGz35
 replace Sz17:=Sz17.mono Bn hGz35
 replace Sgq18:=Sgq18.mono Ay hGz35
 replace Ae22:=Ae22.mono hGz35
 replace SMe22:=SMe22.mono Br hGz35
 replace Ae24:=Ae24.mono hGz35
 replace SMe24:=SMe24.mono Br hGz35
 replace Ae26:=Ae26.mono hGz35
 replace SMe26:=SMe26.mono Br hGz35
 replace Sz29:=Sz29.mono A3 hGz35
 replace Sz32:=Sz32.mono Bn hGz35
 revert a
 refine B8 Ca.k rfl<|Ae rfl<|Aa<|Ad<|A1<|fun a F=>B2 (fun m a' w'=>∃ (i:Nat),m=3 - i∧∃ G36,Gle Gz35 G36∧Fits 148 a' [(6,.int .i64 0),(10,.string (str ([105,110,115,101,114,116,32,50,32,49,10,57,32,48,32,45,32,120,10,114,101,109,111,118,101,32,48,32,49,10]:List UInt8))),(119,.slice av34 3 (cv34)),(120,.int .i64 ((3:Nat):Int)),(121,.int .i64 ((i:Nat):Int))]∧Mem w0 G36 (.blk b19 [.slice aoq18 ((([]:List EntD),(1:Nat),(4:Int)).1.length) ((([]:List EntD),(1:Nat),(4:Int)).1.length)] 54::.blk b13 [.slice aoq12 ((([en3 3,en3 9,en3 2]:List EntD),(3:Nat),(0:Int)).1.length) ((([en3 3,en3 9,en3 2]:List EntD),(3:Nat),(0:Int)).1.length)] 54::.blk b4 [.slice laq1 l3.length lcq1] 54::.blk b2 [.slice kaq1 c3.kinds.length kcq1,.int .i64 1] 51::L) w'∧(i≤3)) _ ⟨0,rfl,Gz35,Gle.refl _,F.to ⟨rfl,rfl,rfl,rfl,rfl,trivial⟩,M,by omega⟩ ?_
 clear F M
 rintro m a w ⟨i,rfl,G36,hG36,F,M,hi⟩
 replace HG:=HG.mono hG36
 replace SCq1:=SCq1.mono Bg hG36
 replace SLq1:=SLq1.mono Ay hG36
 replace Sz8:=Sz8.mono A3 hG36
 replace Sz11:=Sz11.mono Bn hG36
 replace Sgq12:=Sgq12.mono Ay hG36
 replace Sz17:=Sz17.mono Bn hG36
 replace Sgq18:=Sgq18.mono Ay hG36
 replace Ae22:=Ae22.mono hG36
 replace SMe22:=SMe22.mono Br hG36
 replace Ae24:=Ae24.mono hG36
 replace SMe24:=SMe24.mono Br hG36
 replace Ae26:=Ae26.mono hG36
 replace SMe26:=SMe26.mono Br hG36
 replace Sz29:=Sz29.mono A3 hG36
 replace Sz32:=Sz32.mono Bn hG36
 replace Sz35:=Sz35.mono Br hG36
 revert a
 refine Ab<|Ac<|C9 rfl rfl<|Aa<|Ad<|Ab<|Ax rfl ?_ ?_
 ·intro h37b
  have h37:=dT h37b
  refine Aq<|Ad<|Ab<|A1<|Ab<|Ac<|Ae rfl<|?_
  obtain ⟨Xe38,hXe38⟩:=Bc (xs:=Agf) (i:=i) (by omega)
  obtain ⟨be38,oe38,_,Ie38,_,Ae38,⟨rfl,hsle38⟩⟩:=Sz35.at hXe38
  refine Ds Ca.k Bq Ie38 rfl rfl<|C2 Bq M Ae38 0 rfl rfl (by omega) rfl<|Af rfl<|Af rfl<|Aa<|Ad<|Ab<|Ac<|Ae rfl<|?_
  obtain ⟨ln,hln,hpf⟩:=Akz hXe38
  refine Hx ent33 rfl rfl (Pz (s:=Xe38) M HG (by first | assumption | omega))<|?_;clear M;rintro _ Gq39 w hGq39 M ⟨aq39,yq39,lq39,eq39,rfl,Sq39,hpq39⟩
  replace HG:=HG.mono hGq39
  replace SCq1:=SCq1.mono Bg hGq39
  replace SLq1:=SLq1.mono Ay hGq39
  replace Sz8:=Sz8.mono A3 hGq39
  replace Sz11:=Sz11.mono Bn hGq39
  replace Sgq12:=Sgq12.mono Ay hGq39
  replace Sz17:=Sz17.mono Bn hGq39
  replace Sgq18:=Sgq18.mono Ay hGq39
  replace Ae22:=Ae22.mono hGq39
  replace SMe22:=SMe22.mono Br hGq39
  replace Ae24:=Ae24.mono hGq39
  replace SMe24:=SMe24.mono Br hGq39
  replace Ae26:=Ae26.mono hGq39
  replace SMe26:=SMe26.mono Br hGq39
  replace Sz29:=Sz29.mono A3 hGq39
  replace Sz32:=Sz32.mono Bn hGq39
  replace Sz35:=Sz35.mono Br hGq39
  replace Ae38:=Ae38.mono hGq39
  obtain ⟨rfl,rfl,rfl⟩:yq39=[]∧lq39=ln∧eq39=5:=by have h_:=hpq39.uniq hpf;simpa only [Prod.mk.injEq] using h_
  refine Ae rfl<|Dg rfl rfl<|Dg rfl rfl<|Dg rfl rfl<|Af rfl<|Af rfl<|Af rfl<|Aa<|Ad<|Ab<|Ac<|Ae rfl<|D9 rfl rfl<|Ae rfl<|g_t rfl (Ag (decide_eq_true (by decide)))<|Ae rfl<|g_t rfl (Ag (decide_eq_true (by decide)))<|Ar (fun a F=>Fy F (ps:=[(0,.int .i64 2),(1,.int .i64 1),(2,.int .i64 2)]) (cs:=[.int .i64 2,.int .i64 1,.int .i64 2]) Zu.k Zu B7 rfl rfl) rfl<|g_t rfl (Ag (decide_eq_true (by decide)))<|Ae rfl<|g_t rfl (Ag (decide_eq_true (by decide)))<|Ar (fun a F=>Q6 (j:=i) (v:=.int .i64 (((lq39:Nat)):Int)) Zu.k B7 rfl rfl (F.ev rfl) (F.ev rfl) rfl (by omega) (ln_cell hln)) rfl<|g_t rfl (Ag (decide_eq_true (by decide)))<|D9 rfl rfl<|?_
  refine Bh rfl (Ag (decide_eq_true (by decide))) rfl<|Aa<|Ad<|El rfl (Ag (decide_eq_true (by first | rfl | omega)))<|Aq<|C0<|Ad<|Ac<|B9 rfl rfl<|Ae rfl<|Aa<|Ad<|fun a F=>?_
  exact ⟨_,by omega,i+1,rfl,Gq39,(hG36.trans hGq39),F.to ⟨rfl,rfl,rfl,rfl,rfl,trivial⟩,M,by omega⟩
 ·intro h40b
  have h40:=dF h40b
  refine B5<|B0<|B0<|Dr<|Ad<|Ab<|Ac<|Ae rfl<|Dy rfl rfl<|Ae rfl<|g_t rfl (decide_eq_true (by decide))<|Ae rfl<|g_t rfl (decide_eq_true (by decide))<|F0 rfl rfl<|Bj rfl (decide_eq_true (by decide)) rfl<|Af rfl<|Aa<|Ad<|Ak<|Aj rfl rfl<|?_
  exact ⟨_,((((((((((((hGq1.trans hGz8).trans hGz11).trans hGq12).trans hGgq12).trans hGz17).trans hGq18).trans hGgq18).trans hGz29).trans hGz32).trans hGq33).trans hGz35).trans hG36),M.weaken (.cons _ (.cons _ (.cons _ (.cons _ (sR _))))),by first | rfl | (congr 1;first | rfl | decide | simp_all)⟩
open Go Go.Y Go.Proofs
set_option linter.unusedSimpArgs false
set_option linter.unusedVariables false
def FewN (ns:List NotD):Prop:=ns.length≤40∧∀ x∈ns,x.items.length≤20
theorem Aaz {w0 w:World} {G:A4} {L:List Res} (M:Mem w0 G L w) {an:Option Addr} {cn:Nat} {ns:List NotD} (SN:Az Ff 5 G (.slice an ns.length cn) ns):Calls Tryz.prog 21 #[.slice an ns.length cn] w (Ci w0 G L fun v=>∃ z:Int,v=.int .i64 z∧(z=0∨(z=1∧FewN ns))):=by
 have bN:=SN.bound
 refine A0 (vs:=[_]) Tryz.func21 rfl (n:=97) rfl rfl<|Ab<|Ac<|Af rfl<|Aa<|Ad<|Ab<|Ab<|Ac<|Ae rfl<|B8 Dd.k rfl<|Df rfl rfl<|Aa<|Ad<|Ax rfl ?_ ?_
 ·intro h1b
  have h1:=dT h1b
  refine Ab<|Ac<|Af rfl<|Aa<|Ad<|Ak<|Au<|Aj rfl rfl<|?_
  exact ⟨M,_,rfl,Or.inl rfl⟩
 ·intro h2b
  have h2:=dF h2b
  refine Aq<|Ad<|Ab<|Ac<|Af rfl<|Aa<|Ad<|Ab<|Ab<|Ac<|Af rfl<|Aa<|Ad<|A1<|fun a F=>B2 (fun m a' w'=>∃ (i:Nat),∃ (z:Nat),m=ns.length - i∧Fits 97 a' [(0,.slice an ns.length cn),(3,.int .i64 ((z:Nat):Int)),(4,.int .i64 ((i:Nat):Int))]∧Mem w0 G (L) w'∧(i≤ns.length)∧(∀ (q:Nat) (y:NotD),q < i→ns[q]?=some y→y.items.length≤20)∧(z≤60)) _ ⟨0,0,rfl,F.to ⟨rfl,rfl,rfl,trivial⟩,M,Nat.zero_le _,fun q y h=>by omega,by omega⟩ ?_
  clear F M
  rintro m a w ⟨i,z,rfl,F,M,hi,hA,hz⟩
  revert a
  refine Ab<|Ab<|Ac<|Ae rfl<|Ae rfl<|B8 Dd.k rfl<|C9 rfl rfl<|Aa<|Ad<|Ax rfl ?_ ?_
  ·intro h3b
   have h3:=dT h3b
   refine Aq<|Ad<|Ab<|A1<|Ab<|?_
   obtain ⟨X,hX⟩:=Bc (xs:=ns) (i:=i) (by omega)
   rcases Nat.lt_or_ge 20 X.items.length with hbig | hsm
   ·skip
    refine Ac<|Ae rfl<|Ae rfl<|Ae rfl<|?_
    obtain ⟨be4,oe4,_,Ie4,_,Ae4,hTe4⟩:=SN.at hX
    obtain ⟨nae4,nce4,rfl,h1e4,h2e4,h3e4,h4e4,h5e4,SIe4⟩:=hTe4
    have hNe4:X.kind < 256∧Aw .i64 X.at_∧Aw .i64 X.count∧Aw .i64 X.to∧X.items.length≤9223372036854775807:=⟨h1e4,h2e4,h3e4,h4e4,h5e4⟩
    refine Ds Dd.k Bd Ie4 rfl rfl<|A2 Bd.k rfl rfl<|C2 Bp M Ae4 4 rfl rfl rfl rfl<|B8 Bp.k rfl<|Ar (fun a F=>Abs (F.ev rfl) (F.ev rfl)) rfl<|Af rfl<|Aa<|Ad<|Ab<|Ab<|Ac<|Ae rfl<|Ae rfl<|?_
    obtain ⟨be5,oe5,_,Ie5,_,Ae5,hTe5⟩:=SN.at hX
    obtain ⟨nae5,nce5,rfl,h1e5,h2e5,h3e5,h4e5,h5e5,SIe5⟩:=hTe5
    have hNe5:X.kind < 256∧Aw .i64 X.at_∧Aw .i64 X.count∧Aw .i64 X.to∧X.items.length≤9223372036854775807:=⟨h1e5,h2e5,h3e5,h4e5,h5e5⟩
    refine Ds Dd.k Bd Ie5 rfl rfl<|A2 Bd.k rfl rfl<|C2 Bp M Ae5 4 rfl rfl rfl rfl<|B8 Bp.k rfl<|Df rfl rfl<|Ae rfl<|?_
    rcases bE (decide (20 < ((X.items.length:Nat):Int))) with h6b | h7b
    ·skip
     have h6:=dT h6b
     refine g_f rfl h6b<|g_f rfl h6b<|Bj rfl h6b rfl<|Aa<|Ad<|Bo rfl rfl<|Ab<|Ac<|Af rfl<|Aa<|Ad<|Ak<|Au<|Bk<|Au<|Au<|Bk<|Au<|Aj rfl rfl<|?_
     exact ⟨M,_,rfl,Or.inl rfl⟩
    ·skip
     have h7:=dF h7b
     intro a F
     omega
   ·skip
    refine Ac<|Ae rfl<|Ae rfl<|Ae rfl<|?_
    obtain ⟨be8,oe8,_,Ie8,_,Ae8,hTe8⟩:=SN.at hX
    obtain ⟨nae8,nce8,rfl,h1e8,h2e8,h3e8,h4e8,h5e8,SIe8⟩:=hTe8
    have hNe8:X.kind < 256∧Aw .i64 X.at_∧Aw .i64 X.count∧Aw .i64 X.to∧X.items.length≤9223372036854775807:=⟨h1e8,h2e8,h3e8,h4e8,h5e8⟩
    refine Ds Dd.k Bd Ie8 rfl rfl<|A2 Bd.k rfl rfl<|C2 Bp M Ae8 4 rfl rfl rfl rfl<|B8 Bp.k rfl<|B9 rfl rfl<|Af rfl<|Aa<|Ad<|Ab<|Ab<|Ac<|Ae rfl<|Ae rfl<|?_
    obtain ⟨be9,oe9,_,Ie9,_,Ae9,hTe9⟩:=SN.at hX
    obtain ⟨nae9,nce9,rfl,h1e9,h2e9,h3e9,h4e9,h5e9,SIe9⟩:=hTe9
    have hNe9:X.kind < 256∧Aw .i64 X.at_∧Aw .i64 X.count∧Aw .i64 X.to∧X.items.length≤9223372036854775807:=⟨h1e9,h2e9,h3e9,h4e9,h5e9⟩
    refine Ds Dd.k Bd Ie9 rfl rfl<|A2 Bd.k rfl rfl<|C2 Bp M Ae9 4 rfl rfl rfl rfl<|B8 Bp.k rfl<|Df rfl rfl<|Ae rfl<|?_
    rcases bE (decide (20 < ((X.items.length:Nat):Int))) with h10b | h11b
    ·skip
     have h10:=dT h10b
     refine g_f rfl h10b<|g_f rfl h10b<|Bj rfl h10b rfl<|Aa<|Ad<|Bo rfl rfl<|Ab<|Ac<|Af rfl<|Aa<|Ad<|Ak<|Au<|Bk<|Au<|Au<|Bk<|Au<|Aj rfl rfl<|?_
     exact ⟨M,_,rfl,Or.inl rfl⟩
    ·skip
     have h11:=dF h11b
     refine g_t rfl h11b<|Ae rfl<|g_t rfl h11b<|Df rfl rfl<|Bh rfl h11b rfl<|Aa<|Ad<|Ax rfl ?_ ?_
     ·intro h12b
      have h12:=dT h12b
      refine Ab<|Ac<|Af rfl<|Aa<|Ad<|Ak<|Au<|Bk<|Au<|Au<|Bk<|Au<|Aj rfl rfl<|?_
      exact ⟨M,_,rfl,Or.inl rfl⟩
     ·intro h13b
      have h13:=dF h13b
      refine Aq<|Ad<|Ab<|Ac<|Af rfl<|Aa<|Ad<|A1<|fun a F=>B2 (fun m a' w'=>∃ (j:Nat),m=X.items.length - j∧Fits 97 a' [(0,.slice an ns.length cn),(3,.int .i64 ((z+X.items.length:Nat):Int)),(4,.int .i64 ((i:Nat):Int)),(5,.int .i64 ((j:Nat):Int))]∧Mem w0 G (L) w'∧(j≤X.items.length)) _ ⟨0,rfl,F.to ⟨rfl,rfl,rfl,rfl,trivial⟩,M,Nat.zero_le _⟩ ?_
      clear F M
      rintro m a w ⟨j,rfl,F,M,hj⟩
      revert a
      refine Ab<|Ab<|Ac<|Ae rfl<|Ae rfl<|Ae rfl<|?_
      obtain ⟨be14,oe14,_,Ie14,_,Ae14,hTe14⟩:=SN.at hX
      obtain ⟨nae14,nce14,rfl,h1e14,h2e14,h3e14,h4e14,h5e14,SIe14⟩:=hTe14
      have hNe14:X.kind < 256∧Aw .i64 X.at_∧Aw .i64 X.count∧Aw .i64 X.to∧X.items.length≤9223372036854775807:=⟨h1e14,h2e14,h3e14,h4e14,h5e14⟩
      refine Ds Dd.k Bd Ie14 rfl rfl<|A2 Bd.k rfl rfl<|C2 Bp M Ae14 4 rfl rfl rfl rfl<|B8 Bp.k rfl<|C9 rfl rfl<|Aa<|Ad<|Ax rfl ?_ ?_
      ·intro h15b
       have h15:=dT h15b
       refine Aq<|Ad<|Ab<|A1<|Ab<|Ab<|?_
       obtain ⟨Y,hY⟩:=Bc (xs:=X.items) (i:=j) (by omega)
       refine Ac<|Ae rfl<|Ae rfl<|?_
       obtain ⟨be16,oe16,_,Ie16,_,Ae16,hTe16⟩:=SN.at hX
       obtain ⟨nae16,nce16,rfl,h1e16,h2e16,h3e16,h4e16,h5e16,SIe16⟩:=hTe16
       have hNe16:X.kind < 256∧Aw .i64 X.at_∧Aw .i64 X.count∧Aw .i64 X.to∧X.items.length≤9223372036854775807:=⟨h1e16,h2e16,h3e16,h4e16,h5e16⟩
       refine Ds Dd.k Bd Ie16 rfl rfl<|A2 Bd.k rfl rfl<|C2 Bp M Ae16 4 rfl rfl rfl rfl<|Ae rfl<|?_
       obtain ⟨be17,oe17,_,Ie17,_,Ae17,hTe17⟩:=SIe16.at hY
       obtain ⟨mae17,mce17,rfl,hke17,hte17,hxe17,hne17,SMe17⟩:=hTe17
       have hIe17:(Y.key < 18446744073709551616∧Y.typ < 256∧Y.text.length≤9223372036854775807):=⟨hke17,hte17,hxe17⟩
       refine Ds Bp.k Bf Ie17 rfl rfl<|A2 Bf.k rfl rfl<|C2 Bq M Ae17 2 rfl rfl rfl rfl<|Ar (fun a F=>Cr Bq.k (F.ev rfl)) rfl<|Df rfl rfl<|Ae rfl<|?_
       rcases bE (decide (70 < (((Y.text).length:Nat):Int))) with h18b | h19b
       ·skip
        have h18:=dT h18b
        refine g_f rfl h18b<|g_f rfl h18b<|g_f rfl h18b<|g_f rfl h18b<|g_f rfl h18b<|g_f rfl h18b<|g_f rfl h18b<|g_f rfl h18b<|g_f rfl h18b<|g_f rfl h18b<|g_f rfl h18b<|Bj rfl h18b rfl<|Aa<|Ad<|Bo rfl rfl<|Ab<|Ac<|Af rfl<|Aa<|Ad<|Ak<|Au<|Bk<|Au<|?_
        refine Au<|Bk<|Bk<|Au<|Au<|Bk<|Au<|Aj rfl rfl<|?_
        exact ⟨M,_,rfl,Or.inl rfl⟩
       ·skip
        have h19:=dF h19b
        refine g_t rfl h19b<|Ae rfl<|g_t rfl h19b<|Ae rfl<|g_t rfl h19b<|?_
        obtain ⟨be20,oe20,_,Ie20,_,Ae20,hTe20⟩:=SN.at hX
        obtain ⟨nae20,nce20,rfl,h1e20,h2e20,h3e20,h4e20,h5e20,SIe20⟩:=hTe20
        have hNe20:X.kind < 256∧Aw .i64 X.at_∧Aw .i64 X.count∧Aw .i64 X.to∧X.items.length≤9223372036854775807:=⟨h1e20,h2e20,h3e20,h4e20,h5e20⟩
        refine Ds Dd.k Bd Ie20 rfl rfl<|g_t rfl h19b<|A2 Bd.k rfl rfl<|g_t rfl h19b<|C2 Bp M Ae20 4 rfl rfl rfl rfl<|g_t rfl h19b<|Ae rfl<|g_t rfl h19b<|?_
        obtain ⟨be21,oe21,_,Ie21,_,Ae21,hTe21⟩:=SIe20.at hY
        obtain ⟨mae21,mce21,rfl,hke21,hte21,hxe21,hne21,SMe21⟩:=hTe21
        have hIe21:(Y.key < 18446744073709551616∧Y.typ < 256∧Y.text.length≤9223372036854775807):=⟨hke21,hte21,hxe21⟩
        refine Ds Bp.k Bf Ie21 rfl rfl<|g_t rfl h19b<|A2 Bf.k rfl rfl<|g_t rfl h19b<|C2 Ca M Ae21 3 rfl rfl rfl rfl<|g_t rfl h19b<|B8 Ca.k rfl<|g_t rfl h19b<|Df rfl rfl<|Bh rfl h19b rfl<|Aa<|Ad<|Ax rfl ?_ ?_
        ·intro h22b
         have h22:=dT h22b
         refine Ab<|Ac<|Af rfl<|Aa<|Ad<|Ak<|Au<|Bk<|Au<|Au<|Bk<|Bk<|Au<|Au<|Bk<|Au<|Aj rfl rfl<|?_
         exact ⟨M,_,rfl,Or.inl rfl⟩
        ·intro h23b
         have h23:=dF h23b
         refine Aq<|Ad<|Ab<|Ac<|Af rfl<|Aa<|Ad<|A1<|fun a F=>B2 (fun m a' w'=>∃ (k:Nat),m=Y.marks.length - k∧Fits 97 a' [(0,.slice an ns.length cn),(3,.int .i64 ((z+X.items.length:Nat):Int)),(4,.int .i64 ((i:Nat):Int)),(5,.int .i64 ((j:Nat):Int)),(6,.int .i64 ((k:Nat):Int))]∧Mem w0 G (L) w'∧(k≤Y.marks.length)) _ ⟨0,rfl,F.to ⟨rfl,rfl,rfl,rfl,rfl,trivial⟩,M,Nat.zero_le _⟩ ?_
         clear F M
         rintro m a w ⟨k,rfl,F,M,hk⟩
         revert a
         refine Ab<|Ab<|Ac<|Ae rfl<|Ae rfl<|Ae rfl<|?_
         obtain ⟨be24,oe24,_,Ie24,_,Ae24,hTe24⟩:=SN.at hX
         obtain ⟨nae24,nce24,rfl,h1e24,h2e24,h3e24,h4e24,h5e24,SIe24⟩:=hTe24
         have hNe24:X.kind < 256∧Aw .i64 X.at_∧Aw .i64 X.count∧Aw .i64 X.to∧X.items.length≤9223372036854775807:=⟨h1e24,h2e24,h3e24,h4e24,h5e24⟩
         refine Ds Dd.k Bd Ie24 rfl rfl<|A2 Bd.k rfl rfl<|C2 Bp M Ae24 4 rfl rfl rfl rfl<|Ae rfl<|?_
         obtain ⟨be25,oe25,_,Ie25,_,Ae25,hTe25⟩:=SIe24.at hY
         obtain ⟨mae25,mce25,rfl,hke25,hte25,hxe25,hne25,SMe25⟩:=hTe25
         have hIe25:(Y.key < 18446744073709551616∧Y.typ < 256∧Y.text.length≤9223372036854775807):=⟨hke25,hte25,hxe25⟩
         refine Ds Bp.k Bf Ie25 rfl rfl<|A2 Bf.k rfl rfl<|C2 Ca M Ae25 3 rfl rfl rfl rfl<|B8 Ca.k rfl<|C9 rfl rfl<|Aa<|Ad<|Ax rfl ?_ ?_
         ·intro h26b
          have h26:=dT h26b
          refine Aq<|Ad<|Ab<|A1<|Ab<|Ac<|Ae rfl<|Ae rfl<|?_
          obtain ⟨be27,oe27,_,Ie27,_,Ae27,hTe27⟩:=SN.at hX
          obtain ⟨nae27,nce27,rfl,h1e27,h2e27,h3e27,h4e27,h5e27,SIe27⟩:=hTe27
          have hNe27:X.kind < 256∧Aw .i64 X.at_∧Aw .i64 X.count∧Aw .i64 X.to∧X.items.length≤9223372036854775807:=⟨h1e27,h2e27,h3e27,h4e27,h5e27⟩
          refine Ds Dd.k Bd Ie27 rfl rfl<|A2 Bd.k rfl rfl<|C2 Bp M Ae27 4 rfl rfl rfl rfl<|Ae rfl<|?_
          obtain ⟨be28,oe28,_,Ie28,_,Ae28,hTe28⟩:=SIe27.at hY
          obtain ⟨mae28,mce28,rfl,hke28,hte28,hxe28,hne28,SMe28⟩:=hTe28
          have hIe28:(Y.key < 18446744073709551616∧Y.typ < 256∧Y.text.length≤9223372036854775807):=⟨hke28,hte28,hxe28⟩
          refine Ds Bp.k Bf Ie28 rfl rfl<|A2 Bf.k rfl rfl<|C2 Ca M Ae28 3 rfl rfl rfl rfl<|Ae rfl<|?_
          obtain ⟨Xe29,hXe29⟩:=Bc (xs:=Y.marks) (i:=k) (by omega)
          obtain ⟨be29,oe29,_,Ie29,_,Ae29,⟨rfl,hsle29⟩⟩:=SMe28.at hXe29
          refine Ds Ca.k Bq Ie29 rfl rfl<|C2 Bq M Ae29 0 rfl rfl (by omega) rfl<|Ar (fun a F=>Cr Bq.k (F.ev rfl)) rfl<|Df rfl rfl<|Aa<|Ad<|Ax rfl ?_ ?_
          ·intro h30b
           have h30:=dT h30b
           refine Ab<|Ac<|Af rfl<|Aa<|Ad<|Ak<|Bk<|Au<|Au<|Bk<|Bk<|Au<|Au<|Bk<|Bk<|Au<|Au<|Bk<|Au<|Aj rfl rfl<|?_
           exact ⟨M,_,rfl,Or.inl rfl⟩
          ·intro h31b
           have h31:=dF h31b
           refine Aq<|C0<|Ad<|Ac<|Ae rfl<|B9 rfl rfl<|Af rfl<|Aa<|Ad<|fun a F=>?_
           exact ⟨_,by omega,k+1,rfl,F.to ⟨rfl,rfl,rfl,rfl,rfl,trivial⟩,M,by omega⟩
         ·intro h32b
          have h32:=dF h32b
          refine B5<|B0<|B0<|Dr<|C0<|Ad<|Ac<|Ae rfl<|B9 rfl rfl<|Af rfl<|Aa<|Ad<|fun a F=>?_
          exact ⟨_,by omega,j+1,rfl,F.to ⟨rfl,rfl,rfl,rfl,trivial⟩,M,by omega⟩
      ·intro h33b
       have h33:=dF h33b
       refine B5<|B0<|B0<|Dr<|C0<|Ad<|Ac<|Ae rfl<|B9 rfl rfl<|Af rfl<|Aa<|Ad<|fun a F=>?_
       exact ⟨_,by omega,i+1,z+X.items.length,rfl,F.to ⟨rfl,rfl,rfl,trivial⟩,M,by omega,E9 (p:=fun y:NotD=>y.items.length≤20) hA hX (by omega),by omega⟩
  ·intro h34b
   have h34:=dF h34b
   refine B5<|B0<|B0<|Dr<|Ad<|Ab<|Ac<|Af rfl<|Aa<|Ad<|Ak<|Aj rfl rfl<|?_
   exact ⟨M,_,rfl,Or.inr ⟨rfl,by omega,Ej hA (by omega)⟩⟩
open Go Go.Y Go.RowKit
set_option linter.unusedSimpArgs false
set_option linter.unusedVariables false
/-- What a notice that was read keeps to. -/
def Ale (x:NotD):Prop:=Aw .i64 x.at_∧Aw .i64 x.count∧Aw .i64 x.to∧∀ y∈x.items,y.key < 18446744073709551616∧y.typ < 256
theorem notes_b {G:A4} {a:Option Addr} {c:Nat} {ns:List NotD} (S:Az Ff 5 G (.slice a ns.length c) ns):∀ x∈ns,Ale x:=by
 intro x hx
 obtain ⟨i,hi⟩:=List.mem_iff_getElem?.1 hx
 obtain ⟨b,o,_,I,_,A,h⟩:=S.at hi
 obtain ⟨_,_,_,_,h1,h2,h3,_,SI⟩:=h
 exact ⟨h1,h2,h3,Wg SI⟩
theorem Aer {x:NotD} (h:Gl x=0):D6 x=0∧x.items.length≤1024∧Ih x.items:=by
 by_cases h0:D6 x=0
 ·rw [Kv h0] at h
  exact ⟨h0,(Lt h).1.1,(Lt h).1.2⟩
 ·rw [Sn h0] at h;exact absurd h h0
theorem Acb:∀ (r p:List NotD),(∀ x∈r,Gl x=0∧Ale x)→p.length+r.length≤32→PR p (Ct r) (p++r,0,0)
 | [],p,_,_=>by rw [List.append_nil];exact PR.done
 | x::r,p,h,hl=>by
  obtain ⟨h1,b1,b2,b3,b4⟩:=h x (by simp)
  obtain ⟨e1,e2,e3⟩:=Aer h1
  obtain ⟨e4,f1,f2,f3,f4⟩:=H0.1 e1
  have hr:=Acb r (p++[x]) (fun y hy=>h y (by simp [hy])) (by simp only [List.length_append,List.length_cons,List.length_nil] at hl ⊢;omega)
  have hx:({ ({ x with items:=[] }:NotD) with items:=x.items }:NotD)=x:=rfl
  rw [List.append_assoc,List.singleton_append] at hr
  refine PR.step (x:={ x with items:=[] }) (sz:=((x.items.length:Nat):Int)) (ys:=x.items) (r:=Ct r) ⟨e4,f1,f2,f3,f4.imp id (fun h=>by rw [h];rfl),rfl,b1,b2,b3,by omega⟩ (by simp only [List.length_cons] at hl;omega) ?_ (fun y hy=>⟨e3 y hy,b4 y hy⟩) rfl ?_
  ·show P0 x++Ct r=_
   unfold P0
   rw [List.append_assoc];rfl
  ·exact hr
theorem Ajh {ns:List NotD}:Cc (Mi ns) ns.length=0↔∀ x∈ns,Gl x=0:=by
 rw [E2]
 constructor
 ·intro h x hx
  obtain ⟨i,hi⟩:=List.mem_iff_getElem?.1 hx
  have:=h i (Bl hi)
  rwa [Pa hi] at this
 ·intro h i hi
  obtain ⟨x,hx⟩:=Bc hi
  rw [Pa hx];exact h x (List.mem_of_getElem? hx)
theorem Rv {ns:List NotD}:Fv ns=0↔ns.length≤32∧(∀ x∈ns,Gl x=0)∧(Ct ns).length≤1048576:=by
 rw [← Ajh]
 unfold Fv
 split
 ·rename_i h;exact ⟨fun h2=>(by cases h2),fun h2=>by omega⟩
 ·rename_i h
  split
  ·rename_i h1;exact ⟨fun h2=>absurd h2 h1,fun h2=>absurd h2.2.1 h1⟩
  ·rename_i h1
   split
   ·rename_i h2;exact ⟨fun h3=>(by cases h3),fun h3=>by omega⟩
   ·rename_i h2;exact ⟨fun _=>⟨by omega,Classical.byContradiction fun h=>h1 h,by omega⟩,fun _=>rfl⟩
open Go Go.Y Go.Proofs
set_option linter.unusedVariables false
theorem ent31:Ent Tryz.prog 31:=.mk' Tryz.func31 (by kernel_rfl) (by kernel_rfl)
theorem ent34:Ent Tryz.prog 34:=.mk' Tryz.func34 (by kernel_rfl) (by kernel_rfl)
open Go Go.Y Go.Proofs
set_option linter.unusedSimpArgs false
set_option linter.unusedVariables false
theorem text_pf {ns:List NotD} (h:Fv ns=0) (hb:∀ x∈ns,Ale x):PF (Ge ns) (ns,0,0):=by
 obtain ⟨h1,h2,h3⟩:=Rv.1 h
 have h4:Ge ns=Ct ns:=by unfold Ge;rw [if_pos h]
 rw [h4]
 exact Or.inr ⟨h3,Acb ns [] (fun x hx=>⟨h2 x hx,hb x hx⟩) (by simpa using h1)⟩
theorem Zx {w0 w:World} {G:A4} {L:List Res} (M:Mem w0 G L w) (HG:Globs 0 1 2 3 G) {a1:Option Addr} {c1:Nat} {xs:List NotD} (SX:Az Ff 5 G (.slice a1 xs.length c1) xs):Calls Tryz.prog 7 #[.slice a1 xs.length c1] w (Ret w0 G L fun G' v=>v=.bool true):=by
 have bX:=SX.bound
 refine A0 (vs:=[_]) Tryz.func7 rfl (n:=63) rfl rfl<|Ab<|Ac<|Af rfl<|Aa<|Ad<|Ab<|Ab<|Ac<|Ae rfl<|Bw ent21 rfl rfl (Aaz (ns:=xs) M SX)<|?_;clear M;rintro _ w M ⟨zz1,rfl,hzz1⟩
 refine Dy rfl rfl<|Aa<|Ad<|Ax rfl ?_ ?_
 ·intro h2b
  have h2:=dT h2b
  refine Ab<|Ac<|Hx Ajp rfl rfl (Ki M HG)<|?_;clear M;rintro _ Gq3 w hGq3 M rfl
  replace HG:=HG.mono hGq3
  replace SX:=SX.mono Bn hGq3
  refine Af rfl<|Aa<|Ad<|Ak<|Au<|Aj rfl rfl<|?_
  exact ⟨_,hGq3,M,rfl⟩
 ·intro h4b
  have h4:=dF h4b
  refine Aq<|Ad<|Ab<|Ac<|Ae rfl<|Bw ent31 rfl rfl (Xq (ns:=xs) M SX)<|?_;clear M;rintro _ w M rfl
  refine Ae rfl<|Dg rfl rfl<|Dg rfl rfl<|Af rfl<|Af rfl<|Aa<|Ad<|Ab<|Ac<|Ae rfl<|Hx ent32 rfl rfl (I6 (ns:=xs) M HG SX)<|?_;clear M;rintro _ Gq5 w hGq5 M rfl
  replace HG:=HG.mono hGq5
  replace SX:=SX.mono Bn hGq5
  refine Ae rfl<|Dg rfl rfl<|Dg rfl rfl<|Af rfl<|Af rfl<|Aa<|Ad<|Ab<|Ab<|Ac<|Ae rfl<|Ae rfl<|D9 rfl rfl<|Ae rfl<|g_t rfl (Ag (decide_eq_true rfl))<|Ae rfl<|g_t rfl (Ag (decide_eq_true rfl))<|Ae rfl<|g_t rfl (Ag (decide_eq_true rfl))<|Jz rfl rfl<|Bh rfl (Ag (decide_eq_true rfl)) rfl<|Aa<|Ad<|El rfl (Ag (decide_eq_true rfl))<|?_
  refine Aq<|Ad<|Ab<|Ab<|Ac<|Ae rfl<|D9 rfl rfl<|Aa<|Ad<|Ax rfl ?_ ?_
  ·intro h6b
   have h6:=dF (Ah h6b)
   refine Ab<|Ac<|Hx Ajp rfl rfl (Ki M HG)<|?_;clear M;rintro _ Gq7 w hGq7 M rfl
   replace HG:=HG.mono hGq7
   replace SX:=SX.mono Bn hGq7
   refine Af rfl<|Aa<|Ad<|Ak<|Au<|Aj rfl rfl<|?_
   exact ⟨_,(hGq5.trans hGq7),M,rfl⟩
  ·intro h8b
   have h8:=dT (Ai h8b)
   refine Aq<|Ad<|Ab<|?_
   have hz0:Fv xs=0:=by omega
   have hzl:(Ge xs).length≤1048576:=by have h_:=Rv.1 hz0;unfold Ge;rw [if_pos hz0];exact h_.2.2
   refine Ac<|Ae rfl<|Hx ent33 rfl rfl (Pz (s:=(Ge xs)) M HG (by omega))<|?_;clear M;rintro _ Gq9 w hGq9 M ⟨aq9,yq9,lq9,eq9,rfl,Sq9,hpq9⟩
   replace HG:=HG.mono hGq9
   replace SX:=SX.mono Bn hGq9
   have hbk:=hpq9.uniq (text_pf hz0 (notes_b SX))
   simp only [Prod.mk.injEq] at hbk
   obtain ⟨hbk1,hbk2,hbk3⟩:=hbk
   have hbk1:=hbk1.symm;subst hbk1;subst hbk2;subst hbk3
   refine Ae rfl<|Dg rfl rfl<|Dg rfl rfl<|Dg rfl rfl<|Af rfl<|Af rfl<|Af rfl<|Aa<|Ad<|Ab<|Ac<|Ae rfl<|Dy rfl rfl<|Ae rfl<|g_t rfl (decide_eq_true (by decide))<|Ae rfl<|g_t rfl (decide_eq_true (by decide))<|Dy rfl rfl<|Bj rfl (decide_eq_true (by decide)) rfl<|Ae rfl<|g_t rfl (decide_eq_true (by decide))<|Ae rfl<|g_t rfl (decide_eq_true (by decide))<|Ae rfl<|?_
   refine g_t rfl (decide_eq_true (by decide))<|Bw ent34 rfl rfl (Ra (xs:=xs) (ys:=xs) M Sq9 SX)<|?_;clear M;rintro _ w M rfl
   refine g_t rfl (decide_eq_true (by decide))<|Dy rfl rfl<|Bj rfl (decide_eq_true (by decide)) rfl<|Ae rfl<|?_
   have hg10:(decide ((if xs=xs then (1:Int) else 0)=1))=true:=(decide_eq_true (by (first | omega | rfl | exact if_pos rfl | decide)))
   refine g_t rfl hg10<|Ae rfl<|g_t rfl hg10<|Ar (fun a F=>Ads Dd.k (F.ev rfl)) rfl<|g_t rfl hg10<|Ae rfl<|g_t rfl hg10<|B8 Dd.k rfl<|g_t rfl hg10<|Dy rfl rfl<|Bj rfl hg10 rfl<|Ae rfl<|g_t rfl (decide_eq_true rfl)<|Hx Ajp rfl rfl (Ki M HG)<|?_;clear M;rintro _ Gq11 w hGq11 M rfl
   replace HG:=HG.mono hGq11
   replace SX:=SX.mono Bn hGq11
   replace Sq9:=Sq9.mono Bn hGq11
   refine Bj rfl (decide_eq_true rfl) rfl<|Af rfl<|Aa<|Ad<|Ak<|Aj rfl rfl<|?_
   exact ⟨_,((hGq5.trans hGq9).trans hGq11),M,rfl⟩
end Go.Proofs.YtmmhmcplegpenaaGreatDoor
