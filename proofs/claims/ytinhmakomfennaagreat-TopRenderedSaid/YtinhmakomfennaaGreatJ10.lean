/- Own lemmas. -/
import Derived.Test.YtinhmakomfennaaGreatJ9
set_option linter.unusedSimpArgs false
set_option linter.unusedVariables false
set_option linter.unusedSectionVars false
set_option maxRecDepth 10000
set_option maxHeartbeats 2000000
namespace Go.V
open AV renaming int→iQ,ptr→jQ,str→sQ,bool→bQ,raw→kQ,agg→gQ
open Blk renaming cells→cQ,row→oQ
open IntKind renaming u32→uQ,i64→wQ,u8→vQ
open Go Go.Proofs
open D (Hd Nd HT Als Str)
attribute [local go_sem] Nj Nh Kd Hz Ng Hy Ni H0 Akm Sy Kc Ke Alp Alo Aln Alm Acp Acq Kg Akk Akl Ane Akn Ako Akf Akg Akh Akp Kf Nz Iq N1 Ky N0 Tz Ty T1 T0 N2 Nl H1 Nk Kk S9 Kj Ald Nn Ki S7 Ta Akq Np Akv Aku Akt Akr Ala Akz Aky Akx Akw Aks S8 r_b Aoq Alc Alb Apt Sj Kv H7 Oa Kw Ajx Lt F8 J2 N4 H8 N3 K1 Ud Kz Aoa N5 e_nil Ue Anq N6 Anu Ant Anr Anz Anx Anw Anv Uc e_b H.eta Je Ai Ac Acg Zt Abz Aby Ib Ha Q4 Tl Amo Amn Ams Amq Amr Ed O6 Apk Apw Tx Ts Tt Acr Z0 Acv Acu Ann Anm Ano T4 T3 Apq Apo App Apr Uq Apn Aof N7 K3 Aoc Aod Aoi S3 Alr Aoh Aog Aol Aop Aom Aoo Aon de Aok Aoj vj Alk All Nf Aki Tf Th Td Uo Un Anb Amz Ana T5 Ale Apm Ag Ami Amg Q2 Amd Qv Bc Qw Ck Ca Bh Cd Bb Az pt_u Alg Akj T6 Anl Anj Ank Gt Aed Ang Abn Aeu Apc Apb Aoy Apa Aot Aov Aox Aou Aow Aoz Aos S4 Lh Ug Aoe Abi Ti Apg Apd Amu Apl Sc Amc Sb Alv Aly Alu Alx Amb Alw Alt Ama Alz Abj R0 gd Il envOf O3 Fw En rd1 I6 O1 O4 I4 Nr chr oUn I2 Da Sg Lj elem Tr.get_set bin Y1 Y0 Abg asB Aaf nat? O5 Eo Jc Jd Fb I9 nth Cm tb mgJ Rn E9 O8 K9 Ld I3 Bv O2 I5 Hr Jg wr Fx Fu opt Bs Ji Br Gj Hn G7 Fv Eh Jq Lg Hm zOk append Oq Lk Em rep eqL Option.getD
attribute [local go_sem] a3 a4 a5 a9 a22 a24 a25 a27 a28 a29 a31 a33 a34 a36 a37 a40 a41 a43 a45 a46 a48 a50 a53 a55 a70 a77 a85 a100 a103 a106 a110 a112 a119 a121 a124 a130 a179 a180 a181 a189 a195 a200 a205 a212 a234 a243 a251 a256 a274 a279 s1 s2 s3 s4 s5 s9 s22 s24 s25 s27 s28 s29 s31 s33 s34 s36 s37 s40 s41 s43 s45 s46 s48 s50 s53 s55 s70 s77 s85 s100 s103 s105 s106 s110 Ake s119 s121 s124 s130 Auc s180 s181 Aub s195 s200 s205 s212 s232 s234 s243 Aua s256 s274 s279 u3 u9 u22 u25 u28 u29 u33 u34 u40 u41 u48 u53 u77 u103 u106 Aqx u131 u180 Aqw u216 Aqv u243 Aqu Aqt Aqs Ais Air Aiq Aip Aio Ain Aim Ail Aik Aij Aii Aih Aig Aif Aie Aid Aic Aib Aia Ahz Ahy Ahx Ahw Ahv Ahu Aht Ahs Ahr Ahq Ahp Yp Yn Ym Yl Yk Yj Yi Yh Yg Yf Ye Yd Yb Ya X9 X8 X7 X5 X4 X3 X0 Xz Xy Xx Xw Xv Xu Xt Xs Xr Xq Xn Xm Xl Xk Xj Xi Xh Xg z3 z4 z9 z28 z29 z31 z33 z34 z36 z37 z41 z43 z50 z53 z55 z70 z77 z85 z100 z103 z106 z108 z110 z112 z118 z119 z121 z126 z130 z179 z180 z181 z189 z191 z204 z205 z212 z216 z232 z234 z243 z251 Aqa z256 Apz Abs z279 Apy k31 Aha Agz Agy Agx Agw Agv k36 Agu Agt Ags Agr Agq Agp k43 Ago Agn Agm Agl k50 Agk Agj k55 Agi Agh Agg Agf Age Agd Agc Agb Aga k70 Afz k108 Wt Ws Wq Wp k112 Wo Wn k118 Wm k126 Wl Wk k130 Wj Wi Wh k179 Wg We Wd k189 Wc Wb V9 V8 V7 V6 V5 k212 V4 V3 V2 V1 k232 V0 Vz k251 Vy k279 Vx Vw Vv Vu e4 e33 e46 e50 l50 e53 e77 e112 l112 e144
attribute [local go_sem] Nat.mul_one Nat.one_mul Nat.add_eq_left Nat.left_eq_add Nat.le_refl Nat.lt_irrefl Nat.zero_le Nat.not_le not_false_eq_true not_true_eq_false Bool.false_eq_true Bool.not_true Bool.not_false List.length_cons List.length_nil List.nil_append List.cons_append Nat.zero_add Nat.add_zero Nat.add_assoc decide_true decide_false true_and and_true List.getElem?_cons_succ List.getElem?_cons_zero bne_self_eq_false beq_self_eq_true Bool.not_eq_true decide_not exists_eq_left exists_eq_left' Option.some.injEq List.all_cons List.all_nil Bool.and_true Bool.true_and Bool.false_and Bool.and_false Bool.and_self Bool.false_or Bool.or_false Bool.true_or Bool.or_true
section
variable {h h':H} {G G':Fz} {d b L p q:Nat} {m:D.M} {sl:List Sl} {k k1 k2:Hd}
theorem L5 {I z:Nd} {v:AV} {l':List Hd} {par':Option Hd} (D:Dm h G d m sl b L) (m1:m k1=some I) (m2:m k2=some z) (az:k1≠k2) (a:Arr G 2 v l'.length (hdC l')) (hl:l'.length≤L) :
  Ans ctx 76 [jQ d 0,hdA k1,v,hdA k2,hdA (Ba par')] h fun _ h'=>Dm h' G d ((m.up k1 { I with ch:=l' }).up k2 { z with par:=par' }) sl b L∧Stp (FP d b sl) h G h' G:=by
 obtain ⟨J,a1⟩:=D.all k1 (by rw [m1];exact Option.some_ne_none _);obtain ⟨p2,a2⟩:=D.all k2 (by rw [m2];exact Option.some_ne_none _);have an:J≠p2:=fun e=>az (D.inj k1 k2 J a1 (e ▸ a2));refine aO Tryz.f76 ?_;simp only [Tryz.f76];have q0:Gro h G ((((h.new k1).new k2).new (cQ [iQ uQ (Ba par').ix,iQ uQ (Ba par').gen] 50)).up 10):=(Stp.refl D.s).new.new.new.up;obtain ⟨_,h1,e1,rfl,Y⟩:=Ie (D.gro q0) a1;obtain ⟨_,E,e2,rfl,q2⟩:=Ie ((D.gro q0).gro Y) a2;have b1:h1.m.get (h.nx+1)=some (k2:Blk):=Y.gt q0.st.1 gL (fun h=>h);have r1:h1.read (h.nx+1) 0 2=some [iQ uQ k2.ix,iQ uQ k2.gen]:=(Ab b1).trans rfl;have b2:E.m.get (h.nx+1)=some (k2:Blk):=q2.gt Y.st.1 b1 (fun h=>h);have r2:E.read (h.nx+1) 0 2=some [iQ uQ k2.ix,iQ uQ k2.gen]:=(Ab b2).trans rfl;have b3:E.m.get (h.nx+2)=some (cQ [iQ uQ (Ba par').ix,iQ uQ (Ba par').gen] 50):=q2.gt Y.st.1 (Y.gt q0.st.1 gL (fun h=>h)) (fun h=>h);have l1:=Y.nx;have l2:=q2.nx;simp only [Ac,Ai] at l1;have q3:Gro h G ((((E.at (h.nx+9) (cQ [kQ (.pointer none)] 119)).at (h.nx+10) (cQ [kQ (.pointer none)] 119)).at (h.nx+9) (cQ [jQ J 0] 119)).at (h.nx+10) (cQ [jQ p2 0] 119)):=((((q0.trans (Y.trans q2)).at (Or.inl tM) tM (D.s.none tM)).at (Or.inl tM) (by simp only [Ag];omega) (D.s.none tM)).at (Or.inl tM) (by simp only [Ag];omega) (D.s.none tM)).at (Or.inl tM) (by simp only [Ag];omega) (D.s.none tM);have D3:=D.gro q3;obtain ⟨aU,aY,n1,g1,⟨x1,c1,rfl,aj,ay⟩,z1,_⟩:=D3.nodes k1 J a1;rw [m1] at n1;cases n1;obtain ⟨aV,aZ,n2,g2,⟨x2,c2,rfl,ak,am⟩,z2,_⟩:=D3.nodes k2 p2 a2;rw [m2] at n2
 cases n2;have t1:((((E.at (h.nx+9) (cQ [kQ (.pointer none)] 119)).at (h.nx+10) (cQ [kQ (.pointer none)] 119)).at (h.nx+9) (cQ [jQ J 0] 119)).at (h.nx+10) (cQ [jQ p2 0] 119)).read J 9 1=some [c1]:=(Ab g1).trans rfl;have t2:((((E.at (h.nx+9) (cQ [kQ (.pointer none)] 119)).at (h.nx+10) (cQ [kQ (.pointer none)] 119)).at (h.nx+9) (cQ [jQ J 0] 119)).at (h.nx+10) (cQ [jQ p2 0] 119)).read p2 7 2=some [iQ uQ (Ba z.par).ix,iQ uQ (Ba z.par).gen]:=(Ab g2).trans rfl;have t3:((((E.at (h.nx+9) (cQ [kQ (.pointer none)] 119)).at (h.nx+10) (cQ [kQ (.pointer none)] 119)).at (h.nx+9) (cQ [jQ J 0] 119)).at (h.nx+10) (cQ [jQ p2 0] 119)).read (h.nx+9) 0 1=some [jQ J 0]:=rL;have t4:((((E.at (h.nx+9) (cQ [kQ (.pointer none)] 119)).at (h.nx+10) (cQ [kQ (.pointer none)] 119)).at (h.nx+9) (cQ [jQ J 0] 119)).at (h.nx+10) (cQ [jQ p2 0] 119)).read (h.nx+10) 0 1=some [jQ p2 0]:=rL;have o1:=ay.one;have aW:J < h.nx:=D.fp_lt _ (Or.inr (Or.inr ⟨k1,a1⟩));have aX:p2 < h.nx:=D.fp_lt _ (Or.inr (Or.inr ⟨k2,a2⟩));have Z:Gro h G (((((((((E.at (h.nx+9) (cQ [kQ (.pointer none)] 119)).at (h.nx+10) (cQ [kQ (.pointer none)] 119)).at (h.nx+9) (cQ [jQ J 0] 119)).at (h.nx+10) (cQ [jQ p2 0] 119)).up 14).at (E.nx+10) (cQ [(():AV)] 53)).at (E.nx+11) (cQ [iQ uQ 0,iQ uQ 0] 50)).at (E.nx+10) (cQ [c1] 53)).at (E.nx+11) (cQ [iQ uQ (Ba z.par).ix,iQ uQ (Ba z.par).gen] 50)):=((((q3.up).at (Or.inl tM) (by simp only [Ai,Ag];omega) (D.s.none tM)).at (Or.inl tM) (by simp only [Ai,Ag];omega) (D.s.none tM)).at (Or.inl tM) (by simp only [Ai,Ag];omega) (D.s.none tM)).at (Or.inl tM) (by simp only [Ai,Ag];omega) (D.s.none tM)
 have D4:=D.gro Z;obtain ⟨fr,lv,aa,ab,ac,ae,af,ag,ah,ai,fl,dg,ef,en⟩:=D4.dc;have r4:(((((((((E.at (h.nx+9) (cQ [kQ (.pointer none)] 119)).at (h.nx+10) (cQ [kQ (.pointer none)] 119)).at (h.nx+9) (cQ [jQ J 0] 119)).at (h.nx+10) (cQ [jQ p2 0] 119)).up 14).at (E.nx+10) (cQ [(():AV)] 53)).at (E.nx+11) (cQ [iQ uQ 0,iQ uQ 0] 50)).at (E.nx+10) (cQ [c1] 53)).at (E.nx+11) (cQ [iQ uQ (Ba z.par).ix,iQ uQ (Ba z.par).gen] 50)).read d 3 8=some [iQ wQ aa,iQ wQ ab,iQ wQ ac,iQ wQ ae,iQ wQ af,iQ wQ ag,iQ wQ ah,iQ wQ ai]:=(Ab dg).trans rfl;have aJ:(J=E.nx+10)=False:=eq_false tM;have aK:(J=E.nx+11)=False:=eq_false tM;have aL:(p2=E.nx+10)=False:=eq_false tM;have aM:(p2=E.nx+11)=False:=eq_false tM;have aN:(h.nx+9=E.nx+10)=False:=eq_false tM;have aP:(h.nx+9=E.nx+11)=False:=eq_false tM;have aQ:(h.nx+10=E.nx+10)=False:=eq_false tM;have aR:(h.nx+10=E.nx+11)=False:=eq_false tM;have aS:(J=h.nx+9)=False:=eq_false tM;have aT:(J=h.nx+10)=False:=eq_false tM;have ao:(p2=h.nx+9)=False:=eq_false tM;have ap:(p2=h.nx+10)=False:=eq_false tM;have aq:(E.nx+10=E.nx+11)=False:=eq_false tM;have ar:(E.nx+11=E.nx+10)=False:=eq_false tM;have au:(h.nx+9=h.nx+10)=False:=eq_false tM;have av:(h.nx+10=h.nx+9)=False:=eq_false tM;have u1:E.read J 9 1=some [c1]:=(Ab (by rw [An tM,An tM,An tM,An tM] at g1;exact g1)).trans rfl;have u2:E.read p2 7 2=some [iQ uQ (Ba z.par).ix,iQ uQ (Ba z.par).gen]:=(Ab (by rw [An tM,An tM,An tM,An tM] at g2;exact g2)).trans rfl;simp only [seval,go_sem,e1,r1,e2,r2,t1,t2,t3,t4,o1,r4,u1,u2,aJ,aK,aL,aM,aN,aP,aQ,aR,aS,aT,ao,ap,aq,ar,au,av]
 refine Ae (note D4 (cv:=[iQ wQ aa,iQ wQ ab,iQ wQ ac,iQ wQ ae,iQ wQ af,iQ wQ ag,iQ wQ ah,iQ wQ ai]) rfl) fun _ O U=>?_;have D5:=(D4.gro U).gro ((Stp.refl U.st).up (n:=12));have k9:O.m.get (h.nx+9)=some (cQ [jQ J 0] 119):=U.gt Z.st.1 gL (fun h=>h);have a0:O.m.get (h.nx+10)=some (cQ [jQ p2 0] 119):=U.gt Z.st.1 gL (fun h=>h);have a6:O.m.get (h.nx+2)=some (cQ [iQ uQ (Ba par').ix,iQ uQ (Ba par').gen] 50):=U.gt Z.st.1 (by simp (disch:=first | omega | (simp only [Ac,Ag,Ai] <;> omega) | fail) only [Bh,Ca,Cd,Bb,Az];exact b3) (fun h=>h);have s9:O.read (h.nx+9) 0 1=some [jQ J 0]:=(Ab k9).trans rfl;have aI:O.read (h.nx+10) 0 1=some [jQ p2 0]:=(Ab a0).trans rfl;have s2:O.read (h.nx+2) 0 2=some [iQ uQ (Ba par').ix,iQ uQ (Ba par').gen]:=(Ab a6).trans rfl;have aw:O.m.get J=some (cQ [iQ vQ I.kind,sQ I.tag,x1,sQ I.text,iQ wQ 0,iQ wQ 0,bQ false,iQ uQ (Ba I.par).ix,iQ uQ (Ba I.par).gen,c1] 118):=U.gt Z.st.1 (by rw [An tM,An tM,An tM,An tM,Az];exact g1) (fun h=>h);have ax:O.m.get p2=some (cQ [iQ vQ z.kind,sQ z.tag,x2,sQ z.text,iQ wQ 0,iQ wQ 0,bQ false,iQ uQ (Ba z.par).ix,iQ uQ (Ba z.par).gen,c2] 118):=U.gt Z.st.1 (by rw [An tM,An tM,An tM,An tM,Az];exact g2) (fun h=>h);have oa:=a.one;have aF:=aj.one;have aG:=ak.one;have aH:=am.one;have np:(p2=J)=False:=eq_false (Ne.symm an);have a7:(J=p2)=False:=eq_false an;have a8:(h.nx+10=J)=False:=eq_false tM;have aA:(h.nx+2=J)=False:=eq_false tM;have aB:(h.nx+2=p2)=False:=eq_false tM;have aC:(h.nx+10=p2)=False:=eq_false tM;have aD:(h.nx+9=J)=False:=eq_false tM
 have aE:(h.nx+9=p2)=False:=eq_false tM;simp only [seval,go_sem,s9,aI,s2,aw,ax,oa,aF,aG,aH,o1,np,a7,a8,aA,aB,aC,aD,aE];obtain ⟨D6,p6⟩:=D5.setn a1 (nd:={ I with ch:=l' }) (cs:=[iQ vQ I.kind,sQ I.tag,x1,sQ I.text,iQ wQ 0,iQ wQ 0,bQ false,iQ uQ (Ba I.par).ix,iQ uQ (Ba I.par).gen,v]) ⟨x1,v,rfl,aj,a⟩ ⟨(D.nd k1 I m1).1,hl⟩;obtain ⟨D7,p7⟩:=D6.setn a2 (nd:={ z with par:=par' }) (cs:=[iQ vQ z.kind,sQ z.tag,x2,sQ z.text,iQ wQ 0,iQ wQ 0,bQ false,iQ uQ (Ba par').ix,iQ uQ (Ba par').gen,c2]) ⟨x2,c2,rfl,ak,am⟩ (D.nd k2 z m2);have p5:Gro h G (O.up 12):=(Z.trans U).up;exact ⟨D7,((p5.mono (W':=FP d b sl) fun _ h=>h.elim).in p6 (fun _ _ h=>h)).in p7 (fun _ _ h=>h)⟩
theorem Ahe {z U:Nd} {i:Nat} (D:Dm h G d m sl b L) (m1:m k1=some z) (m2:m k2=some U) (hp:U.par=some k1) (hi:z.ch[i]?=some k2) (hn:z.ch.Nodup) :
  Ans ctx 137 [jQ d 0,hdA k2] h fun v h'=>∃ q,v=.sr q 0 0 (z.ch.length - 1)∧h.nx≤q∧h'.m.get q=some (oQ (hdC (V.D.delI z.ch i)) (z.ch.length - 1) 50 2)∧Stp (fun _=>False) h G h' G:=by
 obtain ⟨p1,a1⟩:=D.all k1 (by rw [m1];exact Option.some_ne_none _);obtain ⟨p2,a2⟩:=D.all k2 (by rw [m2];exact Option.some_ne_none _);have Z:=(List.getElem?_eq_some_iff.1 hi).1;refine aO Tryz.f137 ?_;simp only [Tryz.f137];have q0:Gro h G (h.new k2):=(Stp.refl D.s).new;simp only [seval,go_sem];refine Ae (Ie (D.gro q0) a2) fun v h1 ⟨e1,q1⟩=>?_;subst e1;have I:=q0.trans q1;obtain ⟨ae,aj,n2,g2,⟨x2,c2,rfl,_⟩,_⟩:=(D.gro I).nodes k2 p2 a2;rw [m2] at n2;cases n2;have r7:h1.read p2 7 2=some [iQ uQ k1.ix,iQ uQ k1.gen]:=(Ab g2).trans (by rw [hp];rfl);simp only [seval,go_sem,r7];refine Ae (Ie (D.gro I) a1) fun v Y ⟨e2,q2⟩=>?_;subst e2;have E:=I.trans q2;obtain ⟨ac,ai,n1,g1,⟨x1,c1,rfl,ha,hc⟩,_⟩:=(D.gro E).nodes k1 p1 a1;rw [m1] at n1;cases n1;have r9:Y.read p1 9 1=some [c1]:=(Ab g1).trans rfl;have b0:Y.m.get h.nx=some (k2:Blk):=(q1.trans q2).gt q0.st.1 Au (fun h=>h);have r0:Y.read h.nx 0 2=some [iQ uQ k2.ix,iQ uQ k2.gen]:=(Ab b0).trans rfl;have hL:=D.nd k1 z m1;have af:=D.le;simp only [seval,go_sem,r0];refine Ae (Ph E.st r9 hc tM (Or.inr (D.g1 m2))) fun v h3 ⟨e3,q3⟩=>?_;subst e3;have aa:¬ k2=⟨0,0⟩:=fun e=>by have:=D.g1 m2;rw [e] at this;exact absurd this tD
 rw [if_neg aa,Wz hn hi,Nat.zero_add];have ab:=q3.rs E.st.1 r9 (fun h=>h);have lp:=Ah E.st.1 g1;simp only [seval,go_sem,ab];have J:=E.trans q3;refine Ae (Yx J.st hc tM (Ks _)) fun v h4 ⟨ow,q4⟩=>?_;have w:=wI i;have O:=J.trans q4;have ag:=J.nx;obtain ⟨h5,e5,g5,p5,ah⟩:=del183 ow rfl O.st (fun q hq=>D.s.none (by have:=ow.vb hq;omega)) Z;simp only [seval,go_sem,w,e5];refine ⟨h4.nx,rfl,by have:=O.nx;omega,g5,O.in p5 (fun j hj hw=>by have:=ow.vb hw;omega)⟩
end
section
variable {h h':H} {G G':Fz} {d b L p q:Nat} {m:D.M} {sl:List Sl} {k k1 k2:Hd}
theorem Pn:decide (((0:Nat):Int)=0)=true:=rfl
def Abk (k:Hd) (l:List Hd):List Hd:=if k=⟨0,0⟩ then l else l++[k]
theorem Aqk {l:List Hd} {W:Nat→Prop} {h0:H} (p:Stp W h0 G h G) (I:h.m.get q=some (cQ (hdC l) 50)) (hq:h0.nx≤q) (gq:G q=none) (hl:l.length≤3) (aa:0 < l.length) (E:k=⟨0,0⟩∨1≤k.gen) :
  ∃ v h' G',FW ctx 69 [hdA k,.sl q 0 l.length l.length] h=some (v,h')∧Stp W h0 G h' G'∧Gro h G h'∧Arr G' 2 v (Abk k l).length (hdC (Abk k l))∧(∀ j,j < h.nx→j≠q→G' j=G j):=by
 have Z:Gro h G (h.new k):=(Stp.refl p.st).new;have lq:=Ah p.st.1 I;have z:=Ez l;rcases E with rfl | E
 ·have U:Stp W h0 G (h.new (cQ [iQ uQ (⟨0,0⟩:Hd).ix,iQ uQ (⟨0,0⟩:Hd).gen] 50)) (G.add q (cQ (hdC l) 50)):=(p.new).frz hq ((Bh tM).trans I);have a:=Iz (C:=ctx) (f:=69) (vs:=[hdA ⟨0,0⟩,.sl q 0 l.length l.length]) (h:=h) (fn:=Tryz.f69) (Q:=fun v h'=>v=.sl q 0 l.length l.length∧h' = h.new (cQ [iQ uQ (⟨0,0⟩:Hd).ix,iQ uQ (⟨0,0⟩:Hd).gen] 50)) rfl kR rfl tR (by
   simp only [Tryz.f69];simp only [seval,go_sem,Pn])
  obtain ⟨_,_,e,rfl,rfl⟩:=a;refine ⟨_,_,_,e,U,Z,?_,fun j _ Y=>Fz.add_ne Y⟩;unfold Abk;rw [if_pos rfl];exact Or.inr ⟨q,0,Or.inl ⟨_,Nat.le_refl _,rfl⟩,by rw [Fz.rd_b Fz.add_at,← z];exact Aj⟩
 ·have J:¬ k=⟨0,0⟩:=fun e=>by rw [e] at E;exact absurd E tD
  have c1:decide ((k.gen:Int)=0)=false:=decide_eq_false tM;have rq:((h.new k).new k).read q 0 (l.length * 2)=some (hdC l):=(Ab ((Bh (by simp only [Ac];omega)).trans ((Bh tM).trans I))).trans (by rw [Ib,← z];exact Aj);have D:=Be (C:=ctx) (e:=50) (n:=l.length+1) (by rw [by50];omega) tM;have O:Af (hdC l++[iQ uQ k.ix,iQ uQ k.gen])=true:=by rw [A7,Ks];rfl
  have nb:Nat.ble (l.length+1) l.length=false:=by rw [F8];exact decide_eq_false tM
  have a:=Iz (C:=ctx) (f:=69) (vs:=[hdA k,.sl q 0 l.length l.length]) (h:=h) (fn:=Tryz.f69) (Q:=fun v h'=>v=.sr (h.nx+2) 0 0 (l.length+1)∧h' = (((h.new k).new k).new (oQ (hdC l++[iQ uQ k.ix,iQ uQ k.gen]) (l.length+1) 50 2))) rfl kR rfl tR (by
   simp only [Tryz.f69];simp only [seval,go_sem,c1,rq,D,O,show decide (l.length+1≤l.length)=false from decide_eq_false tM])
  obtain ⟨_,_,e,rfl,rfl⟩:=a;have U:Stp W h0 G (((h.new k).new k).new (oQ (hdC l++[iQ uQ k.ix,iQ uQ k.gen]) (l.length+1) 50 2)) (G.add (h.nx+2) (oQ (hdC l++[iQ uQ k.ix,iQ uQ k.gen]) (l.length+1) 50 2)):=(p.new.new.new).frz (by have:=p.nx;omega) (Ca (by simp only [Ac]));refine ⟨_,_,_,e,U,Z.new.new,?_,fun j Y _=>Fz.add_ne tM⟩;unfold Abk;rw [if_neg J,List.length_append,List.length_singleton,Mq];refine Or.inr ⟨h.nx+2,0,Or.inr ⟨0,rfl⟩,?_⟩;rw [Fz.rd_b Fz.add_at,Ha,show (l.length+1) * 2=(hdC l++hdC [k]).length by rw [List.length_append,z];simp [hdC];omega];exact Aj
def Fo (nd:Nd) (i:Nat) (ka:Hd):Prop:=(ka=⟨0,0⟩∧i=nd.ch.length)∨(1≤ka.gen∧nd.ch[i]?=some ka)
theorem Fo.ix {nd:Nd} {i:Nat} {ka:Hd} (a:Fo nd i ka) (I:nd.ch.Nodup):(if ka=⟨0,0⟩ then (nd.ch.length:Int) else ixH ka nd.ch 0)=(i:Int)∧(ka=⟨0,0⟩∨1≤ka.gen)∧i≤nd.ch.length:=by
 rcases a with ⟨rfl,rfl⟩ | ⟨z,E⟩
 ·rw [if_pos rfl];exact ⟨rfl,Or.inl rfl,Nat.le_refl _⟩
 ·have D:¬ ka=⟨0,0⟩:=fun e=>by rw [e] at z;exact absurd z tD
  rw [if_neg D,Wz I E,Nat.zero_add];exact ⟨rfl,Or.inr z,Nat.le_of_lt (List.getElem?_eq_some_iff.1 E).1⟩
theorem run72 {U Y Z n:Nat} {E:Nd} (D:Dm h G d m sl b L) (m2:m k2=some E) (hp:E.par=none) (c:ChN m k2 n k1) (r0:h.read U 0 1=some [jQ d 0]) (r1:h.read Y 0 2=some [iQ uQ k2.ix,iQ uQ k2.gen]) (r2:h.read Z 0 2=some [iQ uQ k1.ix,iQ uQ k1.gen]) :
  Ans ctx 72 [jQ U 0,jQ Y 0,jQ Z 0] h fun v h'=>v=bQ true∧Gro h G h':=by
 obtain ⟨I,a2⟩:=D.all k2 (by rw [m2];exact Option.some_ne_none _);refine aO Tryz.f72 ?_;simp only [Tryz.f72];simp only [seval,go_sem,r0,r1];refine Ae (Ie D a2) fun v h1 ⟨e1,z⟩=>?_;subst e1;obtain ⟨O,aa,J,g2,⟨x2,c2,rfl,_⟩,_⟩:=(D.gro z).nodes k2 I a2;rw [m2] at J;cases J;have r7:h1.read I 7 2=some [iQ uQ (0:Nat),iQ uQ (0:Nat)]:=(Ab g2).trans (by rw [hp];rfl);have s0:=z.rs D.s.1 r0 (fun h=>h);have s1:=z.rs D.s.1 r1 (fun h=>h);have s2:=z.rs D.s.1 r2 (fun h=>h);simp only [seval,go_sem,r7,s0,s1,s2,Pn];refine Ae (above73 (D.gro z) (D.g1 m2) c) fun v h2 ⟨e2,I⟩=>?_;subst e2;simp only [seval,go_sem];exact z.trans I
theorem run74 {U Y Z i:Nat} {nd:Nd} {ka:Hd} (D:Dm h G d m sl b L) (m1:m k1=some nd) (hn:nd.ch.Nodup) (ha:Fo nd i ka) (r0:h.read U 0 1=some [jQ d 0]) (r1:h.read Y 0 2=some [iQ uQ k1.ix,iQ uQ k1.gen]) (r2:h.read Z 0 2=some [iQ uQ ka.ix,iQ uQ ka.gen]) :
  Ans ctx 74 [jQ U 0,jQ Y 0,jQ Z 0] h fun v h'=>v=bQ true∧Gro h G h':=by
 obtain ⟨O,a1⟩:=D.all k1 (by rw [m1];exact Option.some_ne_none _);refine aO Tryz.f74 ?_;simp only [Tryz.f74];have u0:Gro h G (h.up 7):=(Stp.refl D.s).up;obtain ⟨_,h1,e1,rfl,u1⟩:=Ie (D.gro u0) a1;have z:=u0.trans u1;obtain ⟨J,ab,I,g1,⟨x1,c1,rfl,_,hc⟩,_⟩:=(D.gro z).nodes k1 O a1;rw [m1] at I;cases I;have r9:h1.read O 9 1=some [c1]:=(Ab g1).trans rfl;have hL:=D.nd k1 nd m1;have aa:=D.le;obtain ⟨z1,z2,z3⟩:=ha.ix hn;obtain ⟨_,h2,E,rfl,u2⟩:=Ph (k:=ka) z.st r9 hc tM z2;rw [z1] at E;have s0:=z.rs D.s.1 r0 (fun h=>h);have s1:=z.rs D.s.1 r1 (fun h=>h);have s2:=z.rs D.s.1 r2 (fun h=>h);have c0:decide ((0:Int)≤(i:Int))=true:=decide_eq_true tM;simp only [seval,go_sem,r0,r1,r2,e1,s0,s1,s2,E,c0];exact z.trans u2
theorem Aum {O U:Nat} {nd:Nd} (D:Dm h G d m sl b L) (m2:m k2=some nd) (hp:nd.par=some k1) (hg:1≤k1.gen) (r0:h.read O 0 1=some [jQ d 0]) (r1:h.read U 0 2=some [iQ uQ k2.ix,iQ uQ k2.gen]) :
  Ans ctx 182 [jQ O 0,jQ U 0] h fun v h'=>v=bQ true∧Gro h G h':=by
 obtain ⟨J,a2⟩:=D.all k2 (by rw [m2];exact Option.some_ne_none _);refine aO Tryz.f182 ?_;simp only [Tryz.f182];simp only [seval,go_sem,r0,r1];refine Ae (Ie D a2) fun v h1 ⟨Y,I⟩=>?_;subst Y;obtain ⟨E,aa,z,Z,⟨x2,c2,rfl,_⟩,_⟩:=(D.gro I).nodes k2 J a2;rw [m2] at z;cases z;have r7:h1.read J 7 2=some [iQ uQ k1.ix,iQ uQ k1.gen]:=(Ab Z).trans (by rw [hp];rfl);have c1:decide ((k1.gen:Int)=0)=false:=decide_eq_false tM;simp only [seval,go_sem,r7,c1];exact I
theorem run224 {q0 q1 q2 i:Nat} {nd J:Nd} {ka:Hd} (D:Dm h G d m sl b L) (m1:m k1=some nd) (m2:m k2=some J) (hp:J.par=some k1) (hn:nd.ch.Nodup) (ha:Fo nd i ka) (aa:ka≠k2) (Y:h.read q2 0 1=some [jQ d 0]) (Z:h.read q1 0 2=some [iQ uQ k2.ix,iQ uQ k2.gen]) (r2:h.read q0 0 2=some [iQ uQ ka.ix,iQ uQ ka.gen]) :
  Ans ctx 224 [jQ q0 0,jQ q1 0,jQ q2 0] h fun v h'=>v=bQ true∧Gro h G h':=by
 obtain ⟨p1,a1⟩:=D.all k1 (by rw [m1];exact Option.some_ne_none _);obtain ⟨p2,a2⟩:=D.all k2 (by rw [m2];exact Option.some_ne_none _);refine aO Tryz.f224 ?_;simp only [Tryz.f224];have c2:(decide (ka.ix=k2.ix) && decide (ka.gen=k2.gen))=false:=by
  cases hh:(decide (ka.ix=k2.ix) && decide (ka.gen=k2.gen)) with
  | false=>rfl
  | true =>
   simp only [Bool.and_eq_true,decide_eq_true_eq] at hh;exact absurd (Tw.2.2.2 hh) aa
 have u0:Gro h G (h.up 18):=(Stp.refl D.s).up;obtain ⟨_,h1,e1,rfl,u1⟩:=Ie (D.gro u0) a2;have z:=u0.trans u1;obtain ⟨ac,ah,n2,g2,⟨x2,ae,rfl,_⟩,_⟩:=(D.gro z).nodes k2 p2 a2;rw [m2] at n2;cases n2;have r7:h1.read p2 7 2=some [iQ uQ k1.ix,iQ uQ k1.gen]:=(Ab g2).trans (by rw [hp];rfl);obtain ⟨_,h2,e2,rfl,u2⟩:=Ie (D.gro z) a1;have E:=z.trans u2;obtain ⟨ab,ag,n1,g1,⟨x1,c1,rfl,_,hc⟩,_⟩:=(D.gro E).nodes k1 p1 a1;rw [m1] at n1;cases n1;have r9:h2.read p1 9 1=some [c1]:=(Ab g1).trans rfl;have hL:=D.nd k1 nd m1;have af:=D.le;obtain ⟨z1,z2,z3⟩:=ha.ix hn;obtain ⟨_,h3,e3,rfl,u3⟩:=Ph (k:=ka) E.st r9 hc tM z2;rw [z1] at e3;have s0:=z.rs D.s.1 Y (fun h=>h);have s1:=z.rs D.s.1 Z (fun h=>h);have s2:=z.rs D.s.1 r2 (fun h=>h);have t0:=E.rs D.s.1 Y (fun h=>h);have t1:=E.rs D.s.1 Z (fun h=>h);have t2:=E.rs D.s.1 r2 (fun h=>h);have O:=u2.rs z.st.1 r7 (fun h=>h);have c0:decide ((0:Int)≤(i:Int))=true:=decide_eq_true tM;have I:=E.trans u3;have w0:=I.rs D.s.1 Y (fun h=>h);have w1:=I.rs D.s.1 Z (fun h=>h);have w2:=I.rs D.s.1 r2 (fun h=>h);have U:=u3.rs E.st.1 O (fun h=>h);simp only [seval,go_sem,Y,Z,r2,Tw.1,Tw.2.1,c2,e1,r7,e2,s0,s1,s2,t0,t1,t2,e3,c0,O,w0,w1,w2,U];exact I
end
section
variable {h h':H} {G G':Fz} {d b L p q:Nat} {m:D.M} {sl:List Sl} {k k1 k2:Hd}
theorem Zd {v:AV} (z:C9 v=true):FW ctx 41 [jQ d 0,v] h=some (.fn (.func 102) [] [jQ h.nx 0,jQ (h.nx+1) 0],(h.new d).new (cQ [v] 53)):=by
 obtain ⟨_,_,e,rfl,rfl⟩:=e41 (d:=d) (h:=h) (v:=v) z;exact e
theorem Aan {n i:Nat} {E ae:Nd} {ka:Hd} (D:Dm h G d m sl b L) (m1:m k1=some E) (hk:E.kind=1) (m2:m k2=some ae) (hp:ae.par=none) (c:ChN m k2 n k1) (hn:E.ch.Nodup) (ha:Fo E i ka) (hv:ka=⟨0,0⟩∨m ka≠none) (hL:E.ch.length+1≤L) :
  Ans ctx 28 [jQ d 0,hdA k1,hdA k2,hdA ka] h fun x h'=>x=iQ wQ 0∧∃ G',Dm h' G' d ((m.up k1 { E with ch:=V.D.insH E.ch i k2 }).up k2 { ae with par:=some k1 }) sl b L∧Stp (FP d b sl) h G h' G':=by
 obtain ⟨p1,a1⟩:=D.all k1 (by rw [m1];exact Option.some_ne_none _);obtain ⟨p2,a2⟩:=D.all k2 (by rw [m2];exact Option.some_ne_none _);obtain ⟨z1,z2,z3⟩:=ha.ix hn;have aw:k1≠k2:=by cases c <;> assumption
 have aX:=D.le;refine aO Tryz.f28 ?_;simp only [Tryz.f28];have pA:Gro h G ((((((h.new d).new k1).new k2).new ka).up 17).at (h.nx+8) (cQ [iQ uQ k1.ix,iQ uQ k1.gen,iQ uQ k2.ix,iQ uQ k2.gen] 50)):=((Stp.refl D.s).new.new.new.new.up).at (Or.inl tM) (by simp only [Ac,Ai];omega) (D.s.none tM);obtain ⟨v,z,G1,e1,a7,an,ax,gl⟩:=Aqk (k:=ka) (l:=[k1,k2]) pA Ap tM (D.s.none tM) (by simp) (by simp) z2;have ov:=ax.one;have l1:=an.nx;simp only [Ac,Ai,Ag] at l1;have aD:∀ {h:H},FW ctx 41 [jQ d 0,v] h=some (.fn (.func 102) [] [jQ h.nx 0,jQ (h.nx+1) 0],(h.new d).new (cQ [v] 53)):=Zd ov;have e1:FW ctx 69 [hdA ka,.sl (h.nx+8) 0 2 2] _=_:=e1;have rA:∀ {j o n cs},((((((h.new d).new k1).new k2).new ka).up 17).at (h.nx+8) (cQ [iQ uQ k1.ix,iQ uQ k1.gen,iQ uQ k2.ix,iQ uQ k2.gen] 50)).read j o n=some cs→z.read j o n=some cs:=fun e=>an.rs pA.st.1 e (fun h=>h);have r0:z.read h.nx 0 1=some [jQ d 0]:=rA rL;have r1:z.read (h.nx+1) 0 2=some [iQ uQ k1.ix,iQ uQ k1.gen]:=rA rL;have r2:z.read (h.nx+2) 0 2=some [iQ uQ k2.ix,iQ uQ k2.gen]:=rA rL;have r3:z.read (h.nx+3) 0 2=some [iQ uQ ka.ix,iQ uQ ka.gen]:=rA rL;have t0:h.nx < z.nx:=tM;have t1:h.nx+1 < z.nx:=tM;have t2:h.nx+2 < z.nx:=tM;have t3:h.nx+3 < z.nx:=tM;have pS:Stp (fun _=>False) h G (((((((((((z.new d).new (cQ [v] 53)).new d).new k1).new (cQ [.fn (.func 127) [] [jQ (z.nx+2) 0,jQ (z.nx+3) 0]] 45)).new (cQ [iQ wQ 1] 37)).new (cQ [.fn (.func 72) [] [jQ h.nx 0,jQ (h.nx+2) 0,jQ (h.nx+1) 0]] 45)).new (cQ [iQ wQ 10] 37)).new (cQ [.fn (.func 74) [] [jQ h.nx 0,jQ (h.nx+1) 0,jQ (h.nx+3) 0]] 45)).new (cQ [iQ wQ 1] 37)).at (h.nx+18) (cQ [.fn (.func 102) [] [jQ z.nx 0,jQ (z.nx+1) 0],.fn (.func 128) [] [jQ (z.nx+4) 0,jQ (z.nx+5) 0],.fn (.func 128) [] [jQ (z.nx+6) 0,jQ (z.nx+7) 0],.fn (.func 128) [] [jQ (z.nx+8) 0,jQ (z.nx+9) 0]] 85)) G1:=(a7.new.new.new.new.new.new.new.new.new.new).at (Or.inl tM) (by simp only [Ac];omega) ((gl _ (by simp only [Ac,Ai,Ag];omega) tM).trans (D.s.none tM))
 have b0:(((((((((((z.new d).new (cQ [v] 53)).new d).new k1).new (cQ [.fn (.func 127) [] [jQ (z.nx+2) 0,jQ (z.nx+3) 0]] 45)).new (cQ [iQ wQ 1] 37)).new (cQ [.fn (.func 72) [] [jQ h.nx 0,jQ (h.nx+2) 0,jQ (h.nx+1) 0]] 45)).new (cQ [iQ wQ 10] 37)).new (cQ [.fn (.func 74) [] [jQ h.nx 0,jQ (h.nx+1) 0,jQ (h.nx+3) 0]] 45)).new (cQ [iQ wQ 1] 37)).at (h.nx+18) (cQ [.fn (.func 102) [] [jQ z.nx 0,jQ (z.nx+1) 0],.fn (.func 128) [] [jQ (z.nx+4) 0,jQ (z.nx+5) 0],.fn (.func 128) [] [jQ (z.nx+6) 0,jQ (z.nx+7) 0],.fn (.func 128) [] [jQ (z.nx+8) 0,jQ (z.nx+9) 0]] 85)).m.get z.nx=some (d:Blk):=gL;have b1:=lG b0 (z.nx+1) (cQ [v] 53);have b2:=lG b0 (z.nx+2) (d:Blk);have b3:=lG b0 (z.nx+3) (k1:Blk);have b4:=lG b0 (z.nx+4) (cQ [.fn (.func 127) [] [jQ (z.nx+2) 0,jQ (z.nx+3) 0]] 45);have b6:=lG b0 (z.nx+6) (cQ [.fn (.func 72) [] [jQ h.nx 0,jQ (h.nx+2) 0,jQ (h.nx+1) 0]] 45);have b8:=lG b0 (z.nx+8) (cQ [.fn (.func 74) [] [jQ h.nx 0,jQ (h.nx+1) 0,jQ (h.nx+3) 0]] 45);have av:=lG b0 (h.nx+18) (cQ [.fn (.func 102) [] [jQ z.nx 0,jQ (z.nx+1) 0],.fn (.func 128) [] [jQ (z.nx+4) 0,jQ (z.nx+5) 0],.fn (.func 128) [] [jQ (z.nx+6) 0,jQ (z.nx+7) 0],.fn (.func 128) [] [jQ (z.nx+8) 0,jQ (z.nx+9) 0]] 85);have rS:∀ {j o n cs},j < z.nx→j≠h.nx+18→z.read j o n=some cs→(((((((((((z.new d).new (cQ [v] 53)).new d).new k1).new (cQ [.fn (.func 127) [] [jQ (z.nx+2) 0,jQ (z.nx+3) 0]] 45)).new (cQ [iQ wQ 1] 37)).new (cQ [.fn (.func 72) [] [jQ h.nx 0,jQ (h.nx+2) 0,jQ (h.nx+1) 0]] 45)).new (cQ [iQ wQ 10] 37)).new (cQ [.fn (.func 74) [] [jQ h.nx 0,jQ (h.nx+1) 0,jQ (h.nx+3) 0]] 45)).new (cQ [iQ wQ 1] 37)).at (h.nx+18) (cQ [.fn (.func 102) [] [jQ z.nx 0,jQ (z.nx+1) 0],.fn (.func 128) [] [jQ (z.nx+4) 0,jQ (z.nx+5) 0],.fn (.func 128) [] [jQ (z.nx+6) 0,jQ (z.nx+7) 0],.fn (.func 128) [] [jQ (z.nx+8) 0,jQ (z.nx+9) 0]] 85)).read j o n=some cs:=fun {j o n cs} z h2 e=>by
  simp (disch:=first | omega | (simp only [Ac,Ag,Ai] <;> omega) | fail) only [Bc,Ck];exact e
 have s0:=rS t0 tM r0;have s1:=rS t1 tM r1;have s2:=rS t2 tM r2;have s3:=rS t3 tM r3;have Df:=D.gro pS;obtain ⟨_,h2,e2,rfl,p2⟩:=Ku (h:=(((((((((((z.new d).new (cQ [v] 53)).new d).new k1).new (cQ [.fn (.func 127) [] [jQ (z.nx+2) 0,jQ (z.nx+3) 0]] 45)).new (cQ [iQ wQ 1] 37)).new (cQ [.fn (.func 72) [] [jQ h.nx 0,jQ (h.nx+2) 0,jQ (h.nx+1) 0]] 45)).new (cQ [iQ wQ 10] 37)).new (cQ [.fn (.func 74) [] [jQ h.nx 0,jQ (h.nx+1) 0,jQ (h.nx+3) 0]] 45)).new (cQ [iQ wQ 1] 37)).at (h.nx+18) (cQ [.fn (.func 102) [] [jQ z.nx 0,jQ (z.nx+1) 0],.fn (.func 128) [] [jQ (z.nx+4) 0,jQ (z.nx+5) 0],.fn (.func 128) [] [jQ (z.nx+6) 0,jQ (z.nx+7) 0],.fn (.func 128) [] [jQ (z.nx+8) 0,jQ (z.nx+9) 0]] 85))) (q:=h.nx+18) (n:=4) (cs:=[.fn (.func 102) [] [jQ z.nx 0,jQ (z.nx+1) 0],.fn (.func 128) [] [jQ (z.nx+4) 0,jQ (z.nx+5) 0],.fn (.func 128) [] [jQ (z.nx+6) 0,jQ (z.nx+7) 0],.fn (.func 128) [] [jQ (z.nx+8) 0,jQ (z.nx+9) 0]]) (fun _ h'=>Gro (((((((((((z.new d).new (cQ [v] 53)).new d).new k1).new (cQ [.fn (.func 127) [] [jQ (z.nx+2) 0,jQ (z.nx+3) 0]] 45)).new (cQ [iQ wQ 1] 37)).new (cQ [.fn (.func 72) [] [jQ h.nx 0,jQ (h.nx+2) 0,jQ (h.nx+1) 0]] 45)).new (cQ [iQ wQ 10] 37)).new (cQ [.fn (.func 74) [] [jQ h.nx 0,jQ (h.nx+1) 0,jQ (h.nx+3) 0]] 45)).new (cQ [iQ wQ 1] 37)).at (h.nx+18) (cQ [.fn (.func 102) [] [jQ z.nx 0,jQ (z.nx+1) 0],.fn (.func 128) [] [jQ (z.nx+4) 0,jQ (z.nx+5) 0],.fn (.func 128) [] [jQ (z.nx+6) 0,jQ (z.nx+7) 0],.fn (.func 128) [] [jQ (z.nx+8) 0,jQ (z.nx+9) 0]] 85)) G1 h') (Stp.refl pS.st) rfl tM (fun i h' hi p=>(Ab (p.gt pS.st.1 av (fun h=>h))).trans rfl)
  (fun i h' hi p=>by
   have D2:=Df.gro p;have rd:∀ {j B},(((((((((((z.new d).new (cQ [v] 53)).new d).new k1).new (cQ [.fn (.func 127) [] [jQ (z.nx+2) 0,jQ (z.nx+3) 0]] 45)).new (cQ [iQ wQ 1] 37)).new (cQ [.fn (.func 72) [] [jQ h.nx 0,jQ (h.nx+2) 0,jQ (h.nx+1) 0]] 45)).new (cQ [iQ wQ 10] 37)).new (cQ [.fn (.func 74) [] [jQ h.nx 0,jQ (h.nx+1) 0,jQ (h.nx+3) 0]] 45)).new (cQ [iQ wQ 1] 37)).at (h.nx+18) (cQ [.fn (.func 102) [] [jQ z.nx 0,jQ (z.nx+1) 0],.fn (.func 128) [] [jQ (z.nx+4) 0,jQ (z.nx+5) 0],.fn (.func 128) [] [jQ (z.nx+6) 0,jQ (z.nx+7) 0],.fn (.func 128) [] [jQ (z.nx+8) 0,jQ (z.nx+9) 0]] 85)).m.get j=some B→h'.m.get j=some B:=fun e=>p.gt pS.st.1 e (fun h=>h);have Z:∀ {j o n cs},(((((((((((z.new d).new (cQ [v] 53)).new d).new k1).new (cQ [.fn (.func 127) [] [jQ (z.nx+2) 0,jQ (z.nx+3) 0]] 45)).new (cQ [iQ wQ 1] 37)).new (cQ [.fn (.func 72) [] [jQ h.nx 0,jQ (h.nx+2) 0,jQ (h.nx+1) 0]] 45)).new (cQ [iQ wQ 10] 37)).new (cQ [.fn (.func 74) [] [jQ h.nx 0,jQ (h.nx+1) 0,jQ (h.nx+3) 0]] 45)).new (cQ [iQ wQ 1] 37)).at (h.nx+18) (cQ [.fn (.func 102) [] [jQ z.nx 0,jQ (z.nx+1) 0],.fn (.func 128) [] [jQ (z.nx+4) 0,jQ (z.nx+5) 0],.fn (.func 128) [] [jQ (z.nx+6) 0,jQ (z.nx+7) 0],.fn (.func 128) [] [jQ (z.nx+8) 0,jQ (z.nx+9) 0]] 85)).read j o n=some cs→h'.read j o n=some cs:=fun e=>p.rs pS.st.1 e (fun h=>h)
   match i,hi with
   | 0,_=>exact ⟨102,[],_,rfl,(Aaz D2 ((Ab (rd b0)).trans rfl) ((Ab (rd b1)).trans rfl) ax (by unfold Abk;split <;> simp) (fun k' I=>by
     unfold Abk at I;split at I
     ·rcases List.mem_cons.1 I with rfl | I
      ·exact ⟨_,a1⟩
      ·rw [List.mem_singleton] at I;subst I;exact ⟨_,a2⟩
     ·rename_i hz;rcases List.mem_append.1 I with I | I
      ·rcases List.mem_cons.1 I with rfl | I
       ·exact ⟨_,a1⟩
       ·rw [List.mem_singleton] at I;subst I;exact ⟨_,a2⟩
      ·rw [List.mem_singleton] at I;subst I;exact D.all _ (hv.resolve_left hz))).mono fun v h2 ⟨q1,q2⟩=>⟨q1,p.trans q2⟩⟩
   | 1,_=>exact ⟨128,[],_,rfl,(Hp ((Ab (rd b4)).trans rfl) (Aun D2 a1 m1 hk ((Ab (rd b2)).trans rfl) ((Ab (rd b3)).trans rfl))).mono fun v h2 ⟨q1,q2⟩=>⟨q1,p.trans q2⟩⟩
   | 2,_=>exact ⟨128,[],_,rfl,(Hp ((Ab (rd b6)).trans rfl) (run72 D2 m2 hp c (Z s0) (Z s2) (Z s1))).mono fun v h2 ⟨q1,q2⟩=>⟨q1,p.trans q2⟩⟩
   | 3,_=>exact ⟨128,[],_,rfl,(Hp ((Ab (rd b8)).trans rfl) (run74 D2 m1 hn ha (Z s0) (Z s1) (Z s3))).mono fun v h2 ⟨q1,q2⟩=>⟨q1,p.trans q2⟩⟩)
 have Z:∀ {j o n cs},(((((((((((z.new d).new (cQ [v] 53)).new d).new k1).new (cQ [.fn (.func 127) [] [jQ (z.nx+2) 0,jQ (z.nx+3) 0]] 45)).new (cQ [iQ wQ 1] 37)).new (cQ [.fn (.func 72) [] [jQ h.nx 0,jQ (h.nx+2) 0,jQ (h.nx+1) 0]] 45)).new (cQ [iQ wQ 10] 37)).new (cQ [.fn (.func 74) [] [jQ h.nx 0,jQ (h.nx+1) 0,jQ (h.nx+3) 0]] 45)).new (cQ [iQ wQ 1] 37)).at (h.nx+18) (cQ [.fn (.func 102) [] [jQ z.nx 0,jQ (z.nx+1) 0],.fn (.func 128) [] [jQ (z.nx+4) 0,jQ (z.nx+5) 0],.fn (.func 128) [] [jQ (z.nx+6) 0,jQ (z.nx+7) 0],.fn (.func 128) [] [jQ (z.nx+8) 0,jQ (z.nx+9) 0]] 85)).read j o n=some cs→h2.read j o n=some cs:=fun e=>p2.rs pS.st.1 e (fun h=>h);have x0:=Z s0;have ab:=Z s1;have x2:=Z s2;have x3:=Z s3;simp only [seval,go_sem,Gi,Ua,e1,aD,r0,r1,r2,r3,ov,t0,t1,t2,t3,e2,x0,ab,x2,x3];have D2:=Df.gro p2;refine Ae (Ie D2 a1) fun _ J ⟨q1,p3⟩=>?_;subst q1;have O:=D2.gro p3;have aY:h.nx+19≤J.nx:=by have:=p2.nx;have:=p3.nx;simp only [Ac,Ag] at *;omega
 have aa:∀ {j o n cs},h2.read j o n=some cs→J.read j o n=some cs:=fun e=>p3.rs p2.st.1 e (fun h=>h);obtain ⟨aW,ba,n1,g1,⟨x1,c1,rfl,_,hc⟩,_⟩:=O.nodes k1 p1 a1;rw [m1] at n1;cases n1;have r9:J.read p1 9 1=some [c1]:=(Ab g1).trans rfl;have u0:Gro J G1 (J.up 17):=(Stp.refl O.s).up;obtain ⟨s,h4,e3,ow,u1⟩:=Yx u0.st hc tM (Ks _);have U:=u0.trans u1;obtain ⟨_,h5,e4,rfl,u2⟩:=Ph (k:=ka) U.st (U.rs O.s.1 r9 (fun h=>h)) hc tM z2;rw [z1] at e4;have Y:=U.trans u2;have ay:=u1.nx;have aZ:=u2.nx;simp only [Ai] at ay;have ao:G1 (J.nx+12)=none:=p3.st.none tM;have u3:Gro J G1 (h5.at (J.nx+12) (k2:Blk)):=Y.at (Or.inl tM) tM ao;have aC:Stp (fun j=>j=J.nx+12) h4 G1 (h5.at (J.nx+12) (k2:Blk)) G1:=(u2.mono fun _ h=>h.elim).at (Or.inr rfl) tM ao;have a6:Own (h5.at (J.nx+12) (k2:Blk)) (J.up 17).nx 50 2 s E.ch.length (hdC E.ch):=ow.mv aC u1.st.1 (fun q hq hw=>by simp only [Ai] at hq;omega);have vb:∀ q,VB s q→J.nx+17≤q:=fun q hq=>by have:=ow.vb hq;simp only [Ai] at this;exact this
 obtain ⟨h6,e5,g6,p6,az⟩:=ins77 (k:=k2) (j:=J.nx+12) a6 rfl u3.st (fun q hq=>p3.st.none (by have:=vb q hq;omega)) z3 (fun q hq=>by have:=vb q hq;omega) (by have:=(D.nd _ _ m1).2;have:=D.le.2;omega) ((Ab Ap).trans rfl) ⟨_,_,Ap⟩;have u4:=u3.in p6 (fun j hj hw=>by have:=vb j hw;omega);simp only [Ag] at az;have pf:=u4.frz (i:=h5.nx) tM g6;have al:Arr (G1.add h5.nx (oQ (hdC (V.D.insH E.ch i k2)) (E.ch.length+1) 50 2)) 2 (.sr h5.nx 0 0 (E.ch.length+1)) (V.D.insH E.ch i k2).length (hdC (V.D.insH E.ch i k2)):=by
  have hl:(V.D.insH E.ch i k2).length=E.ch.length+1:=by unfold V.D.insH;rw [List.length_append,List.length_cons,List.length_take,List.length_drop];omega
  rw [hl];refine Or.inr ⟨h5.nx,0,Or.inr ⟨0,rfl⟩,?_⟩;rw [Fz.rd_b Fz.add_at,Ha,← hl,← Ez];exact Aj
 have D6:=O.gro pf;have hl:(V.D.insH E.ch i k2).length=E.ch.length+1:=by unfold V.D.insH;rw [List.length_append,List.length_cons,List.length_take,List.length_drop];omega
 obtain ⟨_,h7,e6,D7,p7⟩:=L5 (par':=some k1) D6 m1 m2 aw al tM;have e6:FW ctx 76 [jQ d 0,hdA k1,.sr h5.nx 0 0 (E.ch.length+1),hdA k2,hdA k1] h6=_:=e6;have e5:FW ctx 77 [s,iQ wQ i,.sl (J.nx+12) 0 1 1] _=some (.sr h5.nx 0 0 (E.ch.length+1),h6):=e5;have y0:=aa x0;have y1:=aa ab;have y2:=aa x2;have y3:=aa x3;have nF:∀ {j},h.nx≤j→¬ FP d b sl j:=fun {j} hj hh=>by have:=D.fp_lt _ hh;omega
 have aE:=U.rs O.s.1 y0 (fun h=>h);have aI:=Y.rs O.s.1 y0 (fun h=>h);have ap:=u4.rs O.s.1 y0 (fun h=>h);have aM:=p7.rs pf.st.1 ap (nF tM);have aR:(h.nx=J.nx+12)=False:=eq_false tM;have aF:=U.rs O.s.1 y1 (fun h=>h);have aJ:=Y.rs O.s.1 y1 (fun h=>h);have aq:=u4.rs O.s.1 y1 (fun h=>h);have aN:=p7.rs pf.st.1 aq (nF tM);have aS:(h.nx+1=J.nx+12)=False:=eq_false tM;have aG:=U.rs O.s.1 y2 (fun h=>h);have aK:=Y.rs O.s.1 y2 (fun h=>h);have ar:=u4.rs O.s.1 y2 (fun h=>h);have aP:=p7.rs pf.st.1 ar (nF tM);have aT:(h.nx+2=J.nx+12)=False:=eq_false tM;have aH:=U.rs O.s.1 y3 (fun h=>h);have aL:=Y.rs O.s.1 y3 (fun h=>h);have au:=u4.rs O.s.1 y3 (fun h=>h);have aQ:=p7.rs pf.st.1 au (nF tM);have aU:(h.nx+3=J.nx+12)=False:=eq_false tM;have l9:p1 < J.nx:=Ah O.s.1 g1;have aV:(p1=J.nx+12)=False:=eq_false tM;have a8:=U.rs O.s.1 r9 (fun h=>h);have aA:=Y.rs O.s.1 r9 (fun h=>h);have aB:=u4.rs O.s.1 r9 (fun h=>h);obtain ⟨fr,lv,af,ag,ah,ac,ai,aj,ak,am,fl,dg,ef,en⟩:=D7.dc;have r6:h7.read d 6 1=some [iQ wQ ac]:=(Ab dg).trans rfl;have a0:=Ka (sl:=sl) (b:=b);simp only [seval,go_sem,e3,e4,e5,e6,y0,aE,aI,ap,aM,aR,y1,aF,aJ,aq,aN,aS,y2,aG,aK,ar,aP,aT,y3,aH,aL,au,aQ,aU,r9,a8,aA,aB,aV,r6,dg,a0];obtain ⟨D8,p8⟩:=D7.setd (lv:=lv) (lv':=lv) (c:=[af,ag,ah,ac,ai,aj,ak,am]) (c':=[af,ag,ah,IntKind.i64.wrap (ac + 1),ai,aj,ak,am]) dg ef en rfl;exact ⟨_,D8,((((pS.trans (p2.trans p3)).trans pf).mono (W':=FP d b sl) fun _ h=>h.elim).in p7 (fun _ _ h=>h)).in p8 (fun _ _ h=>h)⟩
end
section
variable {h h':H} {G G':Fz} {d b L p q:Nat} {m:D.M} {sl:List Sl} {k k1 k2:Hd}
theorem Aar:FW ctx 136 [jQ d 0,hdA k] h=some (.fn (.func 128) [] [jQ (h.nx+2) 0,jQ (h.nx+3) 0],(((h.new d).new k).new (cQ [.fn (.func 182) [] [jQ h.nx 0,jQ (h.nx+1) 0]] 45)).new (cQ [iQ wQ 10] 37)):=by
 have:=Iz (C:=ctx) (f:=136) (vs:=[jQ d 0,hdA k]) (h:=h) (fn:=Tryz.f136) (Q:=fun v h'=>v=.fn (.func 128) [] [jQ (h.nx+2) 0,jQ (h.nx+3) 0]∧h' = (((h.new d).new k).new (cQ [.fn (.func 182) [] [jQ h.nx 0,jQ (h.nx+1) 0]] 45)).new (cQ [iQ wQ 10] 37)) rfl kR rfl tR (by
  simp only [Tryz.f136];simp only [seval,go_sem,Gi])
 obtain ⟨_,_,e,rfl,rfl⟩:=this;exact e
theorem Auv {i:Nat} {z Y:Nd} (D:Dm h G d m sl b L) (m1:m k1=some z) (m2:m k2=some Y) (hp:Y.par=some k1) (hi:z.ch[i]?=some k2) (hn:z.ch.Nodup) (aq:k1≠k2) :
  Ans ctx 80 [jQ d 0,hdA k2] h fun x h'=>∃ G',Dm h' G' d ((m.up k1 { z with ch:=V.D.delI z.ch i }).up k2 { Y with par:=none }) sl b L∧Stp (FP d b sl) h G h' G':=by
 obtain ⟨p1,a1⟩:=D.all k1 (by rw [m1];exact Option.some_ne_none _);obtain ⟨p2,a2⟩:=D.all k2 (by rw [m2];exact Option.some_ne_none _);have a0:=D.le;have a7:=(List.getElem?_eq_some_iff.1 hi).1;refine aO Tryz.f80 ?_;simp only [Tryz.f80];have pS:Gro h G ((((((((((h.new k2).up 10).at (h.nx+3) (k2:Blk)).new d).new (cQ [.sl (h.nx+3) 0 1 1] 53)).new d).new k2).new (cQ [.fn (.func 182) [] [jQ (h.nx+13) 0,jQ (h.nx+14) 0]] 45)).new (cQ [iQ wQ 10] 37)).at (h.nx+8) (cQ [.fn (.func 102) [] [jQ (h.nx+11) 0,jQ (h.nx+12) 0],.fn (.func 128) [] [jQ (h.nx+15) 0,jQ (h.nx+16) 0]] 85)):=(((((Stp.refl D.s).new.up).at (Or.inl tM) (by simp only [Ac,Ai];omega) (D.s.none tM)).new.new.new.new.new.new).at (Or.inl tM) (by simp only [Ac,Ai,Ag];omega) (D.s.none tM));have b3:((((((((((h.new k2).up 10).at (h.nx+3) (k2:Blk)).new d).new (cQ [.sl (h.nx+3) 0 1 1] 53)).new d).new k2).new (cQ [.fn (.func 182) [] [jQ (h.nx+13) 0,jQ (h.nx+14) 0]] 45)).new (cQ [iQ wQ 10] 37)).at (h.nx+8) (cQ [.fn (.func 102) [] [jQ (h.nx+11) 0,jQ (h.nx+12) 0],.fn (.func 128) [] [jQ (h.nx+15) 0,jQ (h.nx+16) 0]] 85)).m.get (h.nx+3)=some (cQ (hdC [k2]) 50):=by simp (disch:=first | omega | (simp only [Ac,Ag,Ai] <;> omega) | fail) only [Bh,Ca,Cd,Bb,Az];rfl
 have pf:=pS.frz (i:=h.nx+3) tM b3;generalize hG:G.add (h.nx+3) (cQ (hdC [k2]) 50)=Gf at *;have Df:=D.gro pf;have ar:Arr Gf 2 (.sl (h.nx+3) 0 1 1) [k2].length (hdC [k2]):=Or.inr ⟨h.nx+3,0,Or.inl ⟨1,Nat.le_refl _,rfl⟩,by rw [← hG,Fz.rd_b Fz.add_at];rfl⟩;have O:((((((((((h.new k2).up 10).at (h.nx+3) (k2:Blk)).new d).new (cQ [.sl (h.nx+3) 0 1 1] 53)).new d).new k2).new (cQ [.fn (.func 182) [] [jQ (h.nx+13) 0,jQ (h.nx+14) 0]] 45)).new (cQ [iQ wQ 10] 37)).at (h.nx+8) (cQ [.fn (.func 102) [] [jQ (h.nx+11) 0,jQ (h.nx+12) 0],.fn (.func 128) [] [jQ (h.nx+15) 0,jQ (h.nx+16) 0]] 85)).m.get h.nx=some (k2:Blk):=gL;have ak:=lG O (h.nx+11) (d:Blk);have am:=lG O (h.nx+12) (cQ [.sl (h.nx+3) 0 1 1] 53);have an:=lG O (h.nx+13) (d:Blk);have ao:=lG O (h.nx+14) (k2:Blk);have ap:=lG O (h.nx+15) (cQ [.fn (.func 182) [] [jQ (h.nx+13) 0,jQ (h.nx+14) 0]] 45);have b8:=lG O (h.nx+8) (cQ [.fn (.func 102) [] [jQ (h.nx+11) 0,jQ (h.nx+12) 0],.fn (.func 128) [] [jQ (h.nx+15) 0,jQ (h.nx+16) 0]] 85);obtain ⟨_,h2,e2,rfl,J⟩:=Ku (h:=((((((((((h.new k2).up 10).at (h.nx+3) (k2:Blk)).new d).new (cQ [.sl (h.nx+3) 0 1 1] 53)).new d).new k2).new (cQ [.fn (.func 182) [] [jQ (h.nx+13) 0,jQ (h.nx+14) 0]] 45)).new (cQ [iQ wQ 10] 37)).at (h.nx+8) (cQ [.fn (.func 102) [] [jQ (h.nx+11) 0,jQ (h.nx+12) 0],.fn (.func 128) [] [jQ (h.nx+15) 0,jQ (h.nx+16) 0]] 85))) (q:=h.nx+8) (n:=2) (cs:=[.fn (.func 102) [] [jQ (h.nx+11) 0,jQ (h.nx+12) 0],.fn (.func 128) [] [jQ (h.nx+15) 0,jQ (h.nx+16) 0]]) (fun _ h'=>Gro ((((((((((h.new k2).up 10).at (h.nx+3) (k2:Blk)).new d).new (cQ [.sl (h.nx+3) 0 1 1] 53)).new d).new k2).new (cQ [.fn (.func 182) [] [jQ (h.nx+13) 0,jQ (h.nx+14) 0]] 45)).new (cQ [iQ wQ 10] 37)).at (h.nx+8) (cQ [.fn (.func 102) [] [jQ (h.nx+11) 0,jQ (h.nx+12) 0],.fn (.func 128) [] [jQ (h.nx+15) 0,jQ (h.nx+16) 0]] 85)) Gf h') (Stp.refl pf.st) rfl tM (fun i h' hi p=>(Ab (p.gt pf.st.1 b8 (fun h=>h))).trans rfl)
  (fun i h' hi p=>by
   have E:=Df.gro p;have rd:∀ {j B},((((((((((h.new k2).up 10).at (h.nx+3) (k2:Blk)).new d).new (cQ [.sl (h.nx+3) 0 1 1] 53)).new d).new k2).new (cQ [.fn (.func 182) [] [jQ (h.nx+13) 0,jQ (h.nx+14) 0]] 45)).new (cQ [iQ wQ 10] 37)).at (h.nx+8) (cQ [.fn (.func 102) [] [jQ (h.nx+11) 0,jQ (h.nx+12) 0],.fn (.func 128) [] [jQ (h.nx+15) 0,jQ (h.nx+16) 0]] 85)).m.get j=some B→h'.m.get j=some B:=fun e=>p.gt pf.st.1 e (fun h=>h)
   match i,hi with
   | 0,_=>exact ⟨102,[],_,rfl,(Aaz E ((Ab (rd ak)).trans rfl) ((Ab (rd am)).trans rfl) ar (by simp) (fun k' ai=>by rw [List.mem_singleton] at ai;subst ai;exact ⟨_,a2⟩)).mono fun v h2 ⟨q1,J⟩=>⟨q1,p.trans J⟩⟩
   | 1,_=>exact ⟨128,[],_,rfl,(Hp ((Ab (rd ap)).trans rfl) (Aum E m2 hp (D.g1 m1) ((Ab (rd an)).trans rfl) ((Ab (rd ao)).trans rfl))).mono fun v h2 ⟨q1,J⟩=>⟨q1,p.trans J⟩⟩)
 have r0:h2.read h.nx 0 2=some [iQ uQ k2.ix,iQ uQ k2.gen]:=(Ab (J.gt pf.st.1 O (fun h=>h))).trans rfl;have E:=Df.gro J;have aw:=pf.trans J;have au:=J.nx;simp only [Ac,Ai,Ag] at au;have u0:Gro h2 Gf (h2.up 14):=(Stp.refl E.s).up;obtain ⟨_,h3,e3,rfl,u1⟩:=Ie (E.gro u0) a2;have I:=u0.trans u1;have D3:=E.gro I;obtain ⟨ay,a8,n2,g2,⟨x2,az,rfl,_⟩,_⟩:=D3.nodes k2 p2 a2;rw [m2] at n2;cases n2;have r7:h3.read p2 7 2=some [iQ uQ k1.ix,iQ uQ k1.gen]:=(Ab g2).trans (by rw [hp];rfl);obtain ⟨_,h4,e4,q,rfl,hq,g4,u2⟩:=Ahe D3 m1 m2 hp hi hn;have aj:=I.trans u2;have Z:=aj.frz (i:=q) (by have:=I.nx;omega) g4;have hl:(V.D.delI z.ch i).length=z.ch.length - 1:=by unfold V.D.delI;rw [List.length_append,List.length_take,List.length_drop];omega
 have a6:=D.nd k1 z m1;have al:Arr (Gf.add q (oQ (hdC (V.D.delI z.ch i)) (z.ch.length - 1) 50 2)) 2 (.sr q 0 0 (z.ch.length - 1)) (V.D.delI z.ch i).length (hdC (V.D.delI z.ch i)):=by
  rw [hl];refine Or.inr ⟨q,0,Or.inr ⟨0,rfl⟩,?_⟩;rw [Fz.rd_b Fz.add_at,Ha,← hl,← Ez];exact Aj
 have D4:=E.gro Z;obtain ⟨_,h5,e5,D5,p5⟩:=L5 (par':=none) D4 m1 m2 aq al tM;have e5:FW ctx 76 [jQ d 0,hdA k1,.sr q 0 0 (z.ch.length - 1),hdA k2,gQ [iQ uQ 0,iQ uQ 0]] h4=_:=e5;have nF:∀ {j},h.nx≤j→¬ FP d b sl j:=fun {j} hj hh=>by have:=D.fp_lt _ hh;omega
 have y3:=I.rs E.s.1 r0 (fun h=>h);have y4:=aj.rs E.s.1 r0 (fun h=>h);have y5:=p5.rs Z.st.1 y4 (nF tM);have ax:=u2.rs D3.s.1 r7 (fun h=>h);obtain ⟨fr,lv,aa,ab,ac,ae,U,af,ag,ah,fl,dg,ef,en⟩:=D5.dc;have r6:h5.read d 7 1=some [iQ wQ U]:=(Ab dg).trans rfl;have av:=Ka (sl:=sl) (b:=b);simp only [seval,go_sem,Pd,Aar,e2,r0,e3,r7,e4,e5,y3,y4,y5,ax,r6,dg,av];obtain ⟨D8,p8⟩:=D5.setd (lv:=lv) (lv':=lv) (c:=[aa,ab,ac,ae,U,af,ag,ah]) (c':=[aa,ab,ac,ae,IntKind.i64.wrap (U + 1),af,ag,ah]) dg ef en rfl;exact ⟨_,D8,(((aw.trans Z).mono (W':=FP d b sl) fun _ h=>h.elim).in p5 (fun _ _ h=>h)).in p8 (fun _ _ h=>h)⟩
end
section
variable {h h':H} {G G':Fz} {d b L p q:Nat} {m:D.M} {sl:List Sl} {k k1 k2:Hd}
theorem move204 {i j j':Nat} {E ab:Nd} {ka:Hd} (D:Dm h G d m sl b L) (m1:m k1=some E) (m2:m k2=some ab) (hp:ab.par=some k1) (hi:E.ch[i]?=some k2) (hn:E.ch.Nodup) (aW:k1≠k2) (ha:Fo E j' ka) (aV:ka≠k2) (hv:ka=⟨0,0⟩∨m ka≠none)
  (hj:Fo { E with ch:=V.D.delI E.ch i } j ka) :
  Ans ctx 204 [jQ d 0,hdA k2,hdA ka] h fun x h'=>x=iQ wQ 0∧∃ G',Dm h' G' d ((m.up k1 { E with ch:=V.D.insH (V.D.delI E.ch i) j k2 }).up k2 { ab with par:=some k1 }) sl b L∧Stp (FP d b sl) h G h' G':=by
 obtain ⟨p1,a1⟩:=D.all k1 (by rw [m1];exact Option.some_ne_none _);obtain ⟨p2,a2⟩:=D.all k2 (by rw [m2];exact Option.some_ne_none _);obtain ⟨z1,z2,z3⟩:=ha.ix hn;have bg:=D.le;have bh:=D.nd k1 E m1;have aT:=(List.getElem?_eq_some_iff.1 hi).1;have aD:(V.D.delI E.ch i).Nodup:=by
  have:=hn;rw [← List.take_append_drop i E.ch,List.drop_eq_getElem_cons aT,List.nodup_append,List.nodup_cons] at this;unfold V.D.delI;rw [List.nodup_append];exact ⟨this.1,this.2.1.2,fun a ha b hb=>this.2.2 a ha b (List.mem_cons_of_mem _ hb)⟩
 have Y:(V.D.delI E.ch i).length=E.ch.length - 1:=by unfold V.D.delI;rw [List.length_append,List.length_take,List.length_drop];omega
 refine aO Tryz.f204 ?_;simp only [Tryz.f204];have pA:Gro h G (((((h.new d).new k2).new ka).up 14).at (h.nx+6) (k2:Blk)):=((Stp.refl D.s).new.new.new.up).at (Or.inl tM) (by simp only [Ac,Ai];omega) (D.s.none tM);obtain ⟨v,z,G1,e1,aF,aC,ax,gl⟩:=Aqk (k:=ka) (l:=[k2]) pA Ap tM (D.s.none tM) (by simp) (by simp) z2;have ov:=ax.one;have l1:=aC.nx;simp only [Ac,Ai,Ag] at l1;have ba:∀ {h:H},FW ctx 41 [jQ d 0,v] h=some (.fn (.func 102) [] [jQ h.nx 0,jQ (h.nx+1) 0],(h.new d).new (cQ [v] 53)):=Zd ov;have e1:FW ctx 69 [hdA ka,.sl (h.nx+6) 0 1 1] _=_:=e1;have rA:∀ {j o n cs},(((((h.new d).new k2).new ka).up 14).at (h.nx+6) (k2:Blk)).read j o n=some cs→z.read j o n=some cs:=fun e=>aC.rs pA.st.1 e (fun h=>h);have r0:z.read h.nx 0 1=some [jQ d 0]:=rA rL;have r1:z.read (h.nx+1) 0 2=some [iQ uQ k2.ix,iQ uQ k2.gen]:=rA rL;have r2:z.read (h.nx+2) 0 2=some [iQ uQ ka.ix,iQ uQ ka.gen]:=rA rL;have t0:h.nx < z.nx:=tM;have t1:h.nx+1 < z.nx:=tM;have t2:h.nx+2 < z.nx:=tM;have pS:Stp (fun _=>False) h G (((((((((z.new d).new (cQ [v] 53)).new d).new k2).new (cQ [.fn (.func 182) [] [jQ (z.nx+2) 0,jQ (z.nx+3) 0]] 45)).new (cQ [iQ wQ 10] 37)).new (cQ [.fn (.func 224) [] [jQ (h.nx+2) 0,jQ (h.nx+1) 0,jQ h.nx 0]] 45)).new (cQ [iQ wQ 1] 37)).at (h.nx+14) (cQ [.fn (.func 102) [] [jQ z.nx 0,jQ (z.nx+1) 0],.fn (.func 128) [] [jQ (z.nx+4) 0,jQ (z.nx+5) 0],.fn (.func 128) [] [jQ (z.nx+6) 0,jQ (z.nx+7) 0]] 85)) G1:=(aF.new.new.new.new.new.new.new.new).at (Or.inl tM) (by simp only [Ac];omega) ((gl _ (by simp only [Ac,Ai,Ag];omega) tM).trans (D.s.none tM))
 have b0:(((((((((z.new d).new (cQ [v] 53)).new d).new k2).new (cQ [.fn (.func 182) [] [jQ (z.nx+2) 0,jQ (z.nx+3) 0]] 45)).new (cQ [iQ wQ 10] 37)).new (cQ [.fn (.func 224) [] [jQ (h.nx+2) 0,jQ (h.nx+1) 0,jQ h.nx 0]] 45)).new (cQ [iQ wQ 1] 37)).at (h.nx+14) (cQ [.fn (.func 102) [] [jQ z.nx 0,jQ (z.nx+1) 0],.fn (.func 128) [] [jQ (z.nx+4) 0,jQ (z.nx+5) 0],.fn (.func 128) [] [jQ (z.nx+6) 0,jQ (z.nx+7) 0]] 85)).m.get z.nx=some (d:Blk):=gL;have b1:=lG b0 (z.nx+1) (cQ [v] 53);have b2:=lG b0 (z.nx+2) (d:Blk);have b3:=lG b0 (z.nx+3) (k2:Blk);have b4:=lG b0 (z.nx+4) (cQ [.fn (.func 182) [] [jQ (z.nx+2) 0,jQ (z.nx+3) 0]] 45);have b6:=lG b0 (z.nx+6) (cQ [.fn (.func 224) [] [jQ (h.nx+2) 0,jQ (h.nx+1) 0,jQ h.nx 0]] 45);have aS:=lG b0 (h.nx+14) (cQ [.fn (.func 102) [] [jQ z.nx 0,jQ (z.nx+1) 0],.fn (.func 128) [] [jQ (z.nx+4) 0,jQ (z.nx+5) 0],.fn (.func 128) [] [jQ (z.nx+6) 0,jQ (z.nx+7) 0]] 85);have rS:∀ {j o n cs},j < z.nx→j≠h.nx+14→z.read j o n=some cs→(((((((((z.new d).new (cQ [v] 53)).new d).new k2).new (cQ [.fn (.func 182) [] [jQ (z.nx+2) 0,jQ (z.nx+3) 0]] 45)).new (cQ [iQ wQ 10] 37)).new (cQ [.fn (.func 224) [] [jQ (h.nx+2) 0,jQ (h.nx+1) 0,jQ h.nx 0]] 45)).new (cQ [iQ wQ 1] 37)).at (h.nx+14) (cQ [.fn (.func 102) [] [jQ z.nx 0,jQ (z.nx+1) 0],.fn (.func 128) [] [jQ (z.nx+4) 0,jQ (z.nx+5) 0],.fn (.func 128) [] [jQ (z.nx+6) 0,jQ (z.nx+7) 0]] 85)).read j o n=some cs:=fun {j o n cs} z h2 e=>by
  simp (disch:=first | omega | (simp only [Ac,Ag,Ai] <;> omega) | fail) only [Bc,Ck];exact e
 have s0:=rS t0 tM r0;have s1:=rS t1 tM r1;have s2:=rS t2 tM r2;have Df:=D.gro pS;obtain ⟨_,h2,e2,rfl,q2⟩:=Ku (h:=(((((((((z.new d).new (cQ [v] 53)).new d).new k2).new (cQ [.fn (.func 182) [] [jQ (z.nx+2) 0,jQ (z.nx+3) 0]] 45)).new (cQ [iQ wQ 10] 37)).new (cQ [.fn (.func 224) [] [jQ (h.nx+2) 0,jQ (h.nx+1) 0,jQ h.nx 0]] 45)).new (cQ [iQ wQ 1] 37)).at (h.nx+14) (cQ [.fn (.func 102) [] [jQ z.nx 0,jQ (z.nx+1) 0],.fn (.func 128) [] [jQ (z.nx+4) 0,jQ (z.nx+5) 0],.fn (.func 128) [] [jQ (z.nx+6) 0,jQ (z.nx+7) 0]] 85))) (q:=h.nx+14) (n:=3) (cs:=[.fn (.func 102) [] [jQ z.nx 0,jQ (z.nx+1) 0],.fn (.func 128) [] [jQ (z.nx+4) 0,jQ (z.nx+5) 0],.fn (.func 128) [] [jQ (z.nx+6) 0,jQ (z.nx+7) 0]]) (fun _ h'=>Gro (((((((((z.new d).new (cQ [v] 53)).new d).new k2).new (cQ [.fn (.func 182) [] [jQ (z.nx+2) 0,jQ (z.nx+3) 0]] 45)).new (cQ [iQ wQ 10] 37)).new (cQ [.fn (.func 224) [] [jQ (h.nx+2) 0,jQ (h.nx+1) 0,jQ h.nx 0]] 45)).new (cQ [iQ wQ 1] 37)).at (h.nx+14) (cQ [.fn (.func 102) [] [jQ z.nx 0,jQ (z.nx+1) 0],.fn (.func 128) [] [jQ (z.nx+4) 0,jQ (z.nx+5) 0],.fn (.func 128) [] [jQ (z.nx+6) 0,jQ (z.nx+7) 0]] 85)) G1 h') (Stp.refl pS.st) rfl tM (fun i h' hi p=>(Ab (p.gt pS.st.1 aS (fun h=>h))).trans rfl)
  (fun i h' hi p=>by
   have D2:=Df.gro p;have rd:∀ {j B},(((((((((z.new d).new (cQ [v] 53)).new d).new k2).new (cQ [.fn (.func 182) [] [jQ (z.nx+2) 0,jQ (z.nx+3) 0]] 45)).new (cQ [iQ wQ 10] 37)).new (cQ [.fn (.func 224) [] [jQ (h.nx+2) 0,jQ (h.nx+1) 0,jQ h.nx 0]] 45)).new (cQ [iQ wQ 1] 37)).at (h.nx+14) (cQ [.fn (.func 102) [] [jQ z.nx 0,jQ (z.nx+1) 0],.fn (.func 128) [] [jQ (z.nx+4) 0,jQ (z.nx+5) 0],.fn (.func 128) [] [jQ (z.nx+6) 0,jQ (z.nx+7) 0]] 85)).m.get j=some B→h'.m.get j=some B:=fun e=>p.gt pS.st.1 e (fun h=>h);have rr:∀ {j o n cs},(((((((((z.new d).new (cQ [v] 53)).new d).new k2).new (cQ [.fn (.func 182) [] [jQ (z.nx+2) 0,jQ (z.nx+3) 0]] 45)).new (cQ [iQ wQ 10] 37)).new (cQ [.fn (.func 224) [] [jQ (h.nx+2) 0,jQ (h.nx+1) 0,jQ h.nx 0]] 45)).new (cQ [iQ wQ 1] 37)).at (h.nx+14) (cQ [.fn (.func 102) [] [jQ z.nx 0,jQ (z.nx+1) 0],.fn (.func 128) [] [jQ (z.nx+4) 0,jQ (z.nx+5) 0],.fn (.func 128) [] [jQ (z.nx+6) 0,jQ (z.nx+7) 0]] 85)).read j o n=some cs→h'.read j o n=some cs:=fun e=>p.rs pS.st.1 e (fun h=>h)
   match i,hi with
   | 0,_=>exact ⟨102,[],_,rfl,(Aaz D2 ((Ab (rd b0)).trans rfl) ((Ab (rd b1)).trans rfl) ax (by unfold Abk;split <;> simp) (fun k' I=>by
     unfold Abk at I;split at I
     ·rw [List.mem_singleton] at I;subst I;exact ⟨_,a2⟩
     ·rename_i hz;rcases List.mem_append.1 I with I | I
      ·rw [List.mem_singleton] at I;subst I;exact ⟨_,a2⟩
      ·rw [List.mem_singleton] at I;subst I;exact D.all _ (hv.resolve_left hz))).mono fun v h2 ⟨q1,q2⟩=>⟨q1,p.trans q2⟩⟩
   | 1,_=>exact ⟨128,[],_,rfl,(Hp ((Ab (rd b4)).trans rfl) (Aum D2 m2 hp (D.g1 m1) ((Ab (rd b2)).trans rfl) ((Ab (rd b3)).trans rfl))).mono fun v h2 ⟨q1,q2⟩=>⟨q1,p.trans q2⟩⟩
   | 2,_=>exact ⟨128,[],_,rfl,(Hp ((Ab (rd b6)).trans rfl) (run224 D2 m1 m2 hp hn ha aV (rr s0) (rr s1) (rr s2))).mono fun v h2 ⟨q1,q2⟩=>⟨q1,p.trans q2⟩⟩)
 have rr:∀ {j o n cs},(((((((((z.new d).new (cQ [v] 53)).new d).new k2).new (cQ [.fn (.func 182) [] [jQ (z.nx+2) 0,jQ (z.nx+3) 0]] 45)).new (cQ [iQ wQ 10] 37)).new (cQ [.fn (.func 224) [] [jQ (h.nx+2) 0,jQ (h.nx+1) 0,jQ h.nx 0]] 45)).new (cQ [iQ wQ 1] 37)).at (h.nx+14) (cQ [.fn (.func 102) [] [jQ z.nx 0,jQ (z.nx+1) 0],.fn (.func 128) [] [jQ (z.nx+4) 0,jQ (z.nx+5) 0],.fn (.func 128) [] [jQ (z.nx+6) 0,jQ (z.nx+7) 0]] 85)).read j o n=some cs→h2.read j o n=some cs:=fun e=>q2.rs pS.st.1 e (fun h=>h);have x0:=rr s0;have aQ:=rr s1;have aR:=rr s2;have aX:=q2.nx;simp only [Ac,Ag] at aX;simp only [seval,go_sem,Gi,Aar,e1,ba,r0,r1,r2,ov,t0,t1,t2,e2,x0,aQ,aR];have D2:=Df.gro q2;refine Ae (Ie D2 a2) fun _ J ⟨q1,q3⟩=>?_;subst q1;have D3:=D2.gro q3;obtain ⟨be,bm,n2,g2,⟨y2,bf,rfl,_⟩,_⟩:=D3.nodes k2 p2 a2;rw [m2] at n2;cases n2;have r7:J.read p2 7 2=some [iQ uQ k1.ix,iQ uQ k1.gen]:=(Ab g2).trans (by rw [hp];rfl);have ac:∀ {j o n cs},h2.read j o n=some cs→J.read j o n=some cs:=fun e=>q3.rs q2.st.1 e (fun h=>h);have y0:=ac x0;have y1:=ac aQ;have aw:=ac aR;have bk:=q3.nx;have nF:∀ {j},h.nx≤j→¬ FP d b sl j:=fun {j} hj Z=>by have:=D.fp_lt _ Z;omega
 have gn:∀ {j},z.nx≤j→G1 j=none:=fun hj=>aF.st.none hj;have u4:Gro J G1 ((J.new (cQ [iQ uQ 0,iQ uQ 0] 50)).at J.nx (k1:Blk)):=((Stp.refl D3.s).new).at (Or.inl (Nat.le_refl _)) (by simp only [Ac];omega) (gn tM);have D4:=D3.gro u4;obtain ⟨_,h5,e5,q,rfl,hq,g5,O⟩:=Ahe D4 m1 m2 hp hi hn;simp only [Ac,Ag] at hq;have lq:=Ah O.st.1 g5;have U:∃ h6,Gro h5 G1 h6∧((ka=⟨0,0⟩∧h6=h5∧j=E.ch.length - 1)∨(1≤ka.gen∧FW ctx 129 [.sr q 0 0 (E.ch.length - 1),hdA ka] h5=some (iQ wQ j,h6))):=by
  rcases hj with ⟨rfl,hj⟩ | ⟨hg,hj⟩
  ·exact ⟨h5,Stp.refl O.st,Or.inl ⟨rfl,rfl,by rw [hj];exact Y⟩⟩
  ·have pz:Gro h5 G1 h5:=Stp.refl O.st;have sz:St h5 (G1.add q (oQ (hdC (V.D.delI E.ch i)) (E.ch.length - 1) 50 2)):=⟨O.st.1,fun j x e=>by
    unfold Fz.add at e;split at e
    ·rename_i Z;cases e;rw [Z];exact g5
    ·exact O.st.2 j x e⟩
   have az:Arr (G1.add q (oQ (hdC (V.D.delI E.ch i)) (E.ch.length - 1) 50 2)) 2 (.sr q 0 0 (E.ch.length - 1)) (V.D.delI E.ch i).length (hdC (V.D.delI E.ch i)):=by
    rw [Y];refine Or.inr ⟨q,0,Or.inr ⟨0,rfl⟩,?_⟩;rw [Fz.rd_b Fz.add_at,Ha,← Y,← Ez];exact Aj
   obtain ⟨_,h6,e6,rfl,p6⟩:=Awk (k:=ka) sz az tM;rw [Wz aD hj,Nat.zero_add] at e6;refine ⟨h6,⟨p6.nx,p6.same,fun _ _=>rfl,p6.st.1,fun j x e=>p6.st.2 j x ?_⟩,Or.inr ⟨hg,e6⟩⟩;rw [Fz.add_ne (fun e2=>by rw [e2,gn tM] at e;cases e)];exact e
 obtain ⟨h6,q6,U⟩:=U;have u6:Gro J G1 h6:=(u4.trans O).trans q6;have g6:=q6.gt O.st.1 g5 (fun h=>h);have bl:J.nx+1≤h5.nx:=by have:=O.nx;simp only [Ac,Ag] at this;exact this
 have bb:=q6.nx;have bj:=Ah u6.st.1 g6;have u7:Gro h6 G1 ((h6.up 10).at (h6.nx+5) (k2:Blk)):=((Stp.refl u6.st).up).at (Or.inl tM) (by simp only [Ai];omega) (gn tM);have g7:((h6.up 10).at (h6.nx+5) (k2:Blk)).m.get q=some (oQ (hdC (V.D.delI E.ch i)) (E.ch.length - 1) 50 2):=u7.gt u6.st.1 g6 (fun h=>h);have ow:Own ((h6.up 10).at (h6.nx+5) (k2:Blk)) q 50 2 (.sr q 0 0 (E.ch.length - 1)) (E.ch.length - 1) (hdC (V.D.delI E.ch i)):=Or.inr (Or.inr ⟨q,Nat.le_refl _,rfl,g7,by rw [Ez,Y]⟩);have vb:∀ x,VB (.sr q 0 0 (E.ch.length - 1)) x→x=q:=fun x ⟨_,e⟩=>by cases e;rfl
 have aU:j≤E.ch.length - 1:=by have:=(hj.ix aD).2.2;rw [← Y];exact this
 obtain ⟨h8,e8,g8,u8,aY⟩:=ins77 (k:=k2) (j:=h6.nx+5) ow Y u7.st (fun x hx=>by rw [vb x hx];exact gn tM) aU (fun x hx=>by rw [vb x hx];omega) (by have:=(D.nd _ _ m1).2;have:=D.le.2;omega) ((Ab Ap).trans rfl) ⟨_,_,Ap⟩;have e8:FW ctx 77 [.sr q 0 0 (E.ch.length - 1),iQ wQ j,.sl (h6.nx+5) 0 1 1] _=some (.sr (h6.nx+10) 0 0 (E.ch.length - 1+1),h8):=e8;simp only [Ag,Ai] at aY g8;have aZ:Stp (fun _=>False) J G1 h8 G1:=(u6.trans u7).in u8 (fun x hx hw=>by have:=vb x hw;omega);have pf:=aZ.frz (i:=h6.nx+10) tM g8;have hl:(V.D.insH (V.D.delI E.ch i) j k2).length=E.ch.length - 1+1:=by unfold V.D.insH;rw [List.length_append,List.length_cons,List.length_take,List.length_drop];omega
 have al:Arr (G1.add (h6.nx+10) (oQ (hdC (V.D.insH (V.D.delI E.ch i) j k2)) (E.ch.length - 1+1) 50 2)) 2 (.sr (h6.nx+10) 0 0 (E.ch.length - 1+1)) (V.D.insH (V.D.delI E.ch i) j k2).length (hdC (V.D.insH (V.D.delI E.ch i) j k2)):=by
  rw [hl];refine Or.inr ⟨h6.nx+10,0,Or.inr ⟨0,rfl⟩,?_⟩;rw [Fz.rd_b Fz.add_at,Ha,← hl,← Ez];exact Aj
 have D8:=D3.gro pf;obtain ⟨_,h9,e9,D9,p9⟩:=L5 (par':=some k1) D8 m1 m2 aW al tM;have e9:FW ctx 76 [jQ d 0,hdA k1,.sr (h6.nx+10) 0 0 (E.ch.length - 1+1),hdA k2,hdA k1] h8=_:=e9;have ae:=u4.rs D3.s.1 y0 (fun h=>h);have ah:=O.rs u4.st.1 ae (fun h=>h);have ak:=q6.rs O.st.1 ah (fun h=>h);have ao:=u7.rs u6.st.1 ak (fun h=>h);have ar:=u8.rs u7.st.1 ao (fun Z=>by have:=vb _ Z;omega);have aG:=p9.rs pf.st.1 ar (nF tM);have aJ:(h.nx=h6.nx+5)=False:=eq_false tM;have aM:(h.nx=J.nx)=False:=eq_false tM;have af:=u4.rs D3.s.1 y1 (fun h=>h);have ai:=O.rs u4.st.1 af (fun h=>h);have am:=q6.rs O.st.1 ai (fun h=>h);have ap:=u7.rs u6.st.1 am (fun h=>h);have au:=u8.rs u7.st.1 ap (fun Z=>by have:=vb _ Z;omega);have aH:=p9.rs pf.st.1 au (nF tM);have aK:(h.nx+1=h6.nx+5)=False:=eq_false tM;have aN:(h.nx+1=J.nx)=False:=eq_false tM;have ag:=u4.rs D3.s.1 aw (fun h=>h);have aj:=O.rs u4.st.1 ag (fun h=>h);have an:=q6.rs O.st.1 aj (fun h=>h);have aq:=u7.rs u6.st.1 an (fun h=>h);have av:=u8.rs u7.st.1 aq (fun Z=>by have:=vb _ Z;omega);have aI:=p9.rs pf.st.1 av (nF tM);have aL:(h.nx+2=h6.nx+5)=False:=eq_false tM;have aP:(h.nx+2=J.nx)=False:=eq_false tM;have b8:((J.new (cQ [iQ uQ 0,iQ uQ 0] 50)).at J.nx (k1:Blk)).m.get J.nx=some (k1:Blk):=Ap;have c5:=O.gt u4.st.1 b8 (fun h=>h);have c6:=q6.gt O.st.1 c5 (fun h=>h);have c7:=u7.gt u6.st.1 c6 (fun h=>h);have c8:=u8.gt u7.st.1 c7 (fun Z=>by have:=vb _ Z;omega);have c9:=p9.gt pf.st.1 c8 (nF tM);have v6:h6.read J.nx 0 2=some [iQ uQ k1.ix,iQ uQ k1.gen]:=(Ab c6).trans rfl
 have v7:((h6.up 10).at (h6.nx+5) (k2:Blk)).read J.nx 0 2=some [iQ uQ k1.ix,iQ uQ k1.gen]:=(Ab c7).trans rfl;have v8:h8.read J.nx 0 2=some [iQ uQ k1.ix,iQ uQ k1.gen]:=(Ab c8).trans rfl;have v9:h9.read J.nx 0 2=some [iQ uQ k1.ix,iQ uQ k1.gen]:=(Ab c9).trans rfl;have vn:(J.nx=h6.nx+5)=False:=eq_false tM;obtain ⟨fr,lv,ay,a0,a6,a7,a8,aa,aA,aB,fl,dg,ef,en⟩:=D9.dc;have r6:h9.read d 8 1=some [iQ wQ aa]:=(Ab dg).trans rfl;have aE:=Ka (sl:=sl) (b:=b);obtain ⟨Df,pz⟩:=D9.setd (lv:=lv) (lv':=lv) (c:=[ay,a0,a6,a7,a8,aa,aA,aB]) (c':=[ay,a0,a6,a7,a8,IntKind.i64.wrap (aa + 1),aA,aB]) dg ef en rfl;have fin:∃ G',Dm (h9.at d _) G' d _ sl b L∧Stp (FP d b sl) h G (h9.at d _) G':=⟨_,Df,((((pS.trans (q2.trans q3)).trans pf).mono (W':=FP d b sl) fun _ h=>h.elim).in p9 (fun _ _ h=>h)).in pz (fun _ _ h=>h)⟩;rcases U with ⟨rfl,rfl,rfl⟩ | ⟨hg,e6⟩
 ·simp only [seval,go_sem,r7,e5,Pn,v6,v7,v8,v9,vn,e8,e9,r6,dg,aE,y0,y1,aw,ae,ah,ak,ao,ar,aG,aJ,aM,af,ai,am,ap,au,aH,aK,aN,ag,aj,an,aq,av,aI,aL,aP];exact fin
 ·have cg:decide ((ka.gen:Int)=0)=false:=decide_eq_false tM;simp only [seval,go_sem,r7,e5,cg,e6,v6,v7,v8,v9,vn,e8,e9,r6,dg,aE,y0,y1,aw,ae,ah,ak,ao,ar,aG,aJ,aM,af,ai,am,ap,au,aH,aK,aN,ag,aj,an,aq,av,aI,aL,aP];exact fin
end
section
variable {h h':H} {G G':Fz} {d b L p q:Nat} {m:D.M} {sl:List Sl} {k k1 k2:Hd}
theorem drop150 {A B:List AV} {ix n0:Nat} {g n Y lv D c1 c2 E I J O U:Int} (Z:A.length=ix * 4) (oA:Af A=true) (oB:Af B=true) (z:b≠d) (gd:h.m.get d=some (cQ [.sr b 0 0 n0,iQ wQ Y,iQ wQ lv,iQ wQ D,iQ wQ c1,iQ wQ c2,iQ wQ E,iQ wQ I,iQ wQ J,iQ wQ O,iQ wQ U,bQ false,(():AV)] 108)) (gb:h.m.get b=some (oQ (A++(iQ uQ g::bQ true::iQ wQ n::jQ p 0::B)) n0 212 4)) :
  FW ctx 150 [jQ d 0,jQ b (ix * 4)] h=some (jQ p 0,((h.at b (oQ (A++(iQ uQ g::bQ false::iQ wQ n::jQ p 0::B)) n0 212 4)).at b (oQ (A++(iQ uQ g::bQ false::iQ wQ n::kQ (.pointer none)::B)) n0 212 4)).at d (cQ [.sr b 0 0 n0,iQ wQ Y,iQ wQ (IntKind.i64.wrap (lv - 1)),iQ wQ D,iQ wQ c1,iQ wQ c2,iQ wQ E,iQ wQ I,iQ wQ J,iQ wQ O,iQ wQ U,bQ false,(():AV)] 108)):=by
 have bn:(b=d)=False:=eq_false z;have nb:(d=b)=False:=eq_false (Ne.symm z);have r3:h.read b (ix * 4+3) 1=some [jQ p 0]:=(Ab gb).trans (by rw [Ha,Qj Z];rfl);have r2:h.read d 2 1=some [iQ wQ lv]:=(Ab gd).trans rfl;have:=Iz (C:=ctx) (f:=150) (vs:=[jQ d 0,jQ b (ix * 4)]) (h:=h) (fn:=Tryz.f150) (Q:=fun v h'=>v=jQ p 0∧h' = ((h.at b (oQ (A++(iQ uQ g::bQ false::iQ wQ n::jQ p 0::B)) n0 212 4)).at b (oQ (A++(iQ uQ g::bQ false::iQ wQ n::kQ (.pointer none)::B)) n0 212 4)).at d (cQ [.sr b 0 0 n0,iQ wQ Y,iQ wQ (IntKind.i64.wrap (lv - 1)),iQ wQ D,iQ wQ c1,iQ wQ c2,iQ wQ E,iQ wQ I,iQ wQ J,iQ wQ O,iQ wQ U,bQ false,(():AV)] 108)) rfl kR rfl tR (by
  simp only [Tryz.f150];simp only [seval,go_sem,r3,r2,gd,gb,bn,nb,Vi Z,oA,oB])
 obtain ⟨_,_,e,rfl,rfl⟩:=this;exact e
theorem push151 {A B:List AV} {n0:Nat} {g n D lv E c1 c2 I J O U Y:Int} (hA:A.length=k.ix * 4) (oA:Af A=true) (oB:Af B=true) (z:b≠d) (Z:h.Ok) (hk:k.ix < n0) (hn:n0≤1000000) (gd:h.m.get d=some (cQ [.sr b 0 0 n0,iQ wQ D,iQ wQ lv,iQ wQ E,iQ wQ c1,iQ wQ c2,iQ wQ I,iQ wQ J,iQ wQ O,iQ wQ U,iQ wQ Y,bQ false,(():AV)] 108)) (gb:h.m.get b=some (oQ (A++(iQ uQ g::bQ false::iQ wQ n::kQ (.pointer none)::B)) n0 212 4)) :
  Ans ctx 151 [jQ d 0,hdA k] h fun _ h'=>h' = (((h.new k).up 13).at b (oQ (A++(iQ uQ g::bQ false::iQ wQ D::kQ (.pointer none)::B)) n0 212 4)).at d (cQ [.sr b 0 0 n0,iQ wQ ((k.ix+1:Nat):Int),iQ wQ lv,iQ wQ E,iQ wQ c1,iQ wQ c2,iQ wQ I,iQ wQ J,iQ wQ O,iQ wQ U,iQ wQ Y,bQ false,(():AV)] 108):=by
 refine aO Tryz.f151 ?_;have bn:(b=d)=False:=eq_false z;have nb:(d=b)=False:=eq_false (Ne.symm z);have lb:=Ah Z gb;have ld:=Ah Z gd;have nn:(h.nx=b)=False:=eq_false tM;have r0:h.read d 0 1=some [.sr b 0 0 n0]:=(Ab gd).trans rfl;have r1:h.read d 1 1=some [iQ wQ D]:=(Ab gd).trans rfl;have w:IntKind.i64.wrap ((k.ix:Int)+1)=((k.ix+1:Nat):Int):=by rw [show (k.ix:Int)+1=((k.ix+1:Nat):Int) by omega];exact Bz tM
 have w2:IntKind.i64.wrap (k.ix:Int)=(k.ix:Int):=Bz tM;simp only [Tryz.f151];simp only [seval,go_sem,r0,r1,gd,gb,bn,nb,nn,lb,ld,Vi hA,oA,oB,O6 hk,w,w2];exact ⟨_,rfl⟩
theorem free98 (D:Dm h G d m sl b L) (a:Ad sl k p):Ans ctx 98 [jQ d 0,hdA k] h fun v h'=>∃ ao,v=.tup [jQ p 0,iQ wQ 0]∧Dm h' G d (dlM m k) ao b L∧Stp (FP d b sl) h G h' G∧h'.m.get p=h.m.get p∧∀ i,FP d b ao i→FP d b sl i∧i≠p:=by
 refine aO Tryz.f98 ?_;simp only [Tryz.f98];have q0:Gro h G (h.new k):=(Stp.refl D.s).new;have aw:=D.le;simp only [seval,go_sem];refine Ae (Ayh q0.st ((D.gro q0).rds a) a.lt tM) fun v E ⟨e1,q1⟩=>?_;subst e1;have af:=q0.trans q1;have J:=D.gro af;obtain ⟨fr,lv,U,c1,c2,Y,Z,c5,c6,c7,fl,dg,ef,en⟩:=J.dc;obtain ⟨n,es⟩:=a;obtain ⟨aj,ab⟩:=Ace es;have a:Ad sl k p:=⟨n,es⟩;have ai:=a.ne;obtain ⟨gb,I⟩:=J.row ai;rw [aj] at gb;generalize hA:slC (sl.take k.ix)=A at aj ab gb;generalize hB:slC (sl.drop (k.ix+1))=B at aj gb;have ac:Af A=true∧Af B=true:=by rw [← hA,← hB];exact ⟨Kb _,Kb _⟩
 have bn:(b=d)=False:=eq_false I;have nb:(d=b)=False:=eq_false (Ne.symm I);have hv:slV sl b=.sr b 0 0 sl.length:=if_neg ai;rw [hv] at dg;have ap:E.m.get b=some (oQ (A++(iQ uQ k.gen::bQ true::iQ wQ n::jQ p 0::B)) sl.length 212 4):=gb;have ag:=drop150 (h:=E) (p:=p) ab ac.1 ac.2 I dg ap;have lb:=Ah J.s.1 gb;have au:=J.d_lt;have aa:FP d b sl b:=Or.inr (Or.inl ⟨rfl,ai⟩);have p2:Stp (FP d b sl) E G (((E.at b (oQ (A++(iQ uQ k.gen::bQ false::iQ wQ n::jQ p 0::B)) sl.length 212 4)).at b (oQ (A++(iQ uQ k.gen::bQ false::iQ wQ n::kQ (.pointer none)::B)) sl.length 212 4)).at d (cQ [.sr b 0 0 sl.length,iQ wQ fr,iQ wQ (IntKind.i64.wrap (lv - 1)),iQ wQ U,iQ wQ c1,iQ wQ c2,iQ wQ Y,iQ wQ Z,iQ wQ c5,iQ wQ c6,iQ wQ c7,bQ false,(():AV)] 108)) G:=(((Stp.refl J.s).at (Or.inr aa) lb J.gb).at (Or.inr aa) (by simp only [Ag];exact lb) J.gb).at (Or.inr (Or.inl rfl)) (by simp only [Ag];exact au) J.gd;have ak:(((E.at b (oQ (A++(iQ uQ k.gen::bQ false::iQ wQ n::jQ p 0::B)) sl.length 212 4)).at b (oQ (A++(iQ uQ k.gen::bQ false::iQ wQ n::kQ (.pointer none)::B)) sl.length 212 4)).at d (cQ [.sr b 0 0 sl.length,iQ wQ fr,iQ wQ (IntKind.i64.wrap (lv - 1)),iQ wQ U,iQ wQ c1,iQ wQ c2,iQ wQ Y,iQ wQ Z,iQ wQ c5,iQ wQ c6,iQ wQ c7,bQ false,(():AV)] 108)).m.get b=some (oQ (A++(iQ uQ k.gen::bQ false::iQ wQ n::kQ (.pointer none)::B)) sl.length 212 4):=(An I).trans Ap;have aq:(((E.at b (oQ (A++(iQ uQ k.gen::bQ false::iQ wQ n::jQ p 0::B)) sl.length 212 4)).at b (oQ (A++(iQ uQ k.gen::bQ false::iQ wQ n::kQ (.pointer none)::B)) sl.length 212 4)).at d (cQ [.sr b 0 0 sl.length,iQ wQ fr,iQ wQ (IntKind.i64.wrap (lv - 1)),iQ wQ U,iQ wQ c1,iQ wQ c2,iQ wQ Y,iQ wQ Z,iQ wQ c5,iQ wQ c6,iQ wQ c7,bQ false,(():AV)] 108)).m.get d=some (cQ [.sr b 0 0 sl.length,iQ wQ fr,iQ wQ (IntKind.i64.wrap (lv - 1)),iQ wQ U,iQ wQ c1,iQ wQ c2,iQ wQ Y,iQ wQ Z,iQ wQ c5,iQ wQ c6,iQ wQ c7,bQ false,(():AV)] 108):=Ap
 have rg:(((E.at b (oQ (A++(iQ uQ k.gen::bQ false::iQ wQ n::jQ p 0::B)) sl.length 212 4)).at b (oQ (A++(iQ uQ k.gen::bQ false::iQ wQ n::kQ (.pointer none)::B)) sl.length 212 4)).at d (cQ [.sr b 0 0 sl.length,iQ wQ fr,iQ wQ (IntKind.i64.wrap (lv - 1)),iQ wQ U,iQ wQ c1,iQ wQ c2,iQ wQ Y,iQ wQ Z,iQ wQ c5,iQ wQ c6,iQ wQ c7,bQ false,(():AV)] 108)).read b (k.ix * 4) 1=some [iQ uQ k.gen]:=(Ab ak).trans (by rw [Ha,U3 ab];rfl);have gk:E.m.get h.nx=some (k:Blk):=q1.gt q0.st.1 Au (fun h=>h);have an:¬ FP d b sl h.nx:=fun hh=>by have:=D.fp_lt _ hh;omega
 have am:=p2.gt J.s.1 gk an;have rk:(((E.at b (oQ (A++(iQ uQ k.gen::bQ false::iQ wQ n::jQ p 0::B)) sl.length 212 4)).at b (oQ (A++(iQ uQ k.gen::bQ false::iQ wQ n::kQ (.pointer none)::B)) sl.length 212 4)).at d (cQ [.sr b 0 0 sl.length,iQ wQ fr,iQ wQ (IntKind.i64.wrap (lv - 1)),iQ wQ U,iQ wQ c1,iQ wQ c2,iQ wQ Y,iQ wQ Z,iQ wQ c5,iQ wQ c6,iQ wQ c7,bQ false,(():AV)] 108)).read h.nx 0 2=some [iQ uQ k.ix,iQ uQ k.gen]:=(Ab am).trans rfl;have av:=D.gen k.ix _ es;have z:∀ k' O,Ad sl k' O→O≠d∧O≠b∧O < E.nx:=fun k' O a'=>by
  obtain ⟨_,_,_,g,_,_,h5,h6⟩:=J.nodes k' O a';exact ⟨h5,h6,Ah J.s.1 g⟩
 have ae:∀ g' n',slC (sl.set k.ix ⟨g',n',none⟩)=A++(iQ uQ g'::bQ false::iQ wQ n'::kQ (.pointer none)::B):=fun g' n'=>by rw [Afn a.lt,hA,hB];rfl
 have ah:=af.mono (W':=FP d b sl) fun _ h=>h.elim
 by_cases hmax:k.gen+1 < 4294967296
 ·have cm:decide ((k.gen:Int) < 4294967295)=true:=decide_eq_true tM;have wg:IntKind.u32.wrap ((k.gen:Int)+1)=((k.gen+1:Nat):Int):=by rw [show (k.gen:Int)+1=((k.gen+1:Nat):Int) by omega];exact Aqh tM
  have p3:Stp (FP d b sl) E G ((((E.at b (oQ (A++(iQ uQ k.gen::bQ false::iQ wQ n::jQ p 0::B)) sl.length 212 4)).at b (oQ (A++(iQ uQ k.gen::bQ false::iQ wQ n::kQ (.pointer none)::B)) sl.length 212 4)).at d (cQ [.sr b 0 0 sl.length,iQ wQ fr,iQ wQ (IntKind.i64.wrap (lv - 1)),iQ wQ U,iQ wQ c1,iQ wQ c2,iQ wQ Y,iQ wQ Z,iQ wQ c5,iQ wQ c6,iQ wQ c7,bQ false,(():AV)] 108)).at b (oQ (A++(iQ uQ ((k.gen+1:Nat):Int)::bQ false::iQ wQ n::kQ (.pointer none)::B)) sl.length 212 4)) G:=p2.at (Or.inr aa) (by simp only [Ag];exact lb) J.gb;have ar:((((E.at b (oQ (A++(iQ uQ k.gen::bQ false::iQ wQ n::jQ p 0::B)) sl.length 212 4)).at b (oQ (A++(iQ uQ k.gen::bQ false::iQ wQ n::kQ (.pointer none)::B)) sl.length 212 4)).at d (cQ [.sr b 0 0 sl.length,iQ wQ fr,iQ wQ (IntKind.i64.wrap (lv - 1)),iQ wQ U,iQ wQ c1,iQ wQ c2,iQ wQ Y,iQ wQ Z,iQ wQ c5,iQ wQ c6,iQ wQ c7,bQ false,(():AV)] 108)).at b (oQ (A++(iQ uQ ((k.gen+1:Nat):Int)::bQ false::iQ wQ n::kQ (.pointer none)::B)) sl.length 212 4)).m.get d=some (cQ [.sr b 0 0 sl.length,iQ wQ fr,iQ wQ (IntKind.i64.wrap (lv - 1)),iQ wQ U,iQ wQ c1,iQ wQ c2,iQ wQ Y,iQ wQ Z,iQ wQ c5,iQ wQ c6,iQ wQ c7,bQ false,(():AV)] 108):=(An (Ne.symm I)).trans aq;have hx:((((E.at b (oQ (A++(iQ uQ k.gen::bQ false::iQ wQ n::jQ p 0::B)) sl.length 212 4)).at b (oQ (A++(iQ uQ k.gen::bQ false::iQ wQ n::kQ (.pointer none)::B)) sl.length 212 4)).at d (cQ [.sr b 0 0 sl.length,iQ wQ fr,iQ wQ (IntKind.i64.wrap (lv - 1)),iQ wQ U,iQ wQ c1,iQ wQ c2,iQ wQ Y,iQ wQ Z,iQ wQ c5,iQ wQ c6,iQ wQ c7,bQ false,(():AV)] 108)).at b (oQ (A++(iQ uQ ((k.gen+1:Nat):Int)::bQ false::iQ wQ n::kQ (.pointer none)::B)) sl.length 212 4)).read h.nx 0 2=some [iQ uQ k.ix,iQ uQ k.gen]:=(Ab ((An (fun e:h.nx=b=>an (e ▸ aa))).trans am)).trans rfl
  simp only [seval,go_sem,ag,rg,cm,wg,ak,Afu ab,ac,hx];refine Ae (push151 (A:=A) (B:=B) ab ac.1 ac.2 I p3.st.1 a.lt tM ar Ap) fun _ h4 e4=>?_;subst e4;simp only [seval,go_sem];generalize hS:H.at _ _ _=S6;have go:∀ {j},j≠d→j≠b→j < E.nx→S6.m.get j=E.m.get j:=fun {j} z1 z2 z3=>by
   subst hS;rw [An z1,An z2,Az,Bh (by simp only [Ag];omega),An z2,An z1,An z2,An z2]
  have st:Stp (FP d b sl) E G S6 G:=by
   subst hS;exact (((p3.new).up).at (Or.inr aa) (by simp only [Ai,Ac,Ag];omega) J.gb).at (Or.inr (Or.inl rfl)) (by simp only [Ai,Ac,Ag];omega) J.gd
  obtain ⟨D6,hF⟩:=J.freed (h':=S6) (n':=fr) (g':=k.gen+1) (fr':=k.ix+1) (lv:=IntKind.i64.wrap (lv - 1)) (c:=[U,c1,c2,Y,Z,c5,c6,c7]) a ef en rfl st.st (by subst hS;rw [Ap,hv];rfl)
   (by subst hS;rw [An I,Ap,ae]) (fun k' O a'=>go (z k' O a').1 (z k' O a').2.1 (z k' O a').2.2) (Or.inl ⟨rfl,hmax,rfl,rfl⟩)
  exact ⟨_,D6,ah.in st (fun _ _ h=>h),(go (z k p a).1 (z k p a).2.1 (z k p a).2.2).trans (af.same p (D.fp_lt p (Or.inr (Or.inr ⟨k,a⟩))) (fun h=>h)),hF⟩
 ·have cm:decide ((k.gen:Int) < 4294967295)=false:=decide_eq_false tM;simp only [seval,go_sem,ag,rg,cm];generalize hS:H.at _ _ _=S6;have go:∀ {j},j≠d→j≠b→S6.m.get j=E.m.get j:=fun {j} z1 z2=>by
   subst hS;rw [An z1,An z2,An z2]
  have st:Stp (FP d b sl) E G S6 G:=by subst hS;exact p2
  obtain ⟨D6,hF⟩:=J.freed (h':=S6) (n':=n) (g':=k.gen) (fr':=fr) (lv:=IntKind.i64.wrap (lv - 1)) (c:=[U,c1,c2,Y,Z,c5,c6,c7]) a ef en rfl st.st (by subst hS;rw [Ap,hv];rfl)
   (by subst hS;rw [An I,Ap,ae]) (fun k' O a'=>go (z k' O a').1 (z k' O a').2.1) (Or.inr ⟨rfl,rfl⟩)
  exact ⟨_,D6,ah.in st (fun _ _ h=>h),(go (z k p a).1 (z k p a).2.1).trans (af.same p (D.fp_lt p (Or.inr (Or.inr ⟨k,a⟩))) (fun h=>h)),hF⟩
end
section
variable {h h':H} {G G':Fz} {d b L p q:Nat} {m:D.M} {sl:List Sl} {k k1 k2:Hd}
theorem by119:bytes ctx 119=8:=kR
def dls (m:V.D.M) (S:List Hd):V.D.M:=fun k=>if k∈S then none else m k
theorem dls_dls {m:V.D.M} {S z:List Hd}:dls (dls m S) z = dls m (S++z):=by
 funext k
 unfold dls
 by_cases h1:k∈z <;> by_cases h2:k∈S <;> simp [h1,h2]
theorem Ju {a b:List HT}:HT.alls (a++b)=HT.alls a++HT.alls b:=by simp only [HT.alls_eq,List.flatMap_append]
theorem Qg:∀ (a:List T) {b:List T},sizs (a++b)=sizs a+sizs b
 | [],b=>by rw [List.nil_append,sizs];omega
 | t::a,b=>by rw [List.cons_append,sizs,sizs,Qg a];omega
theorem Ma {l:List T} {i:Nat} (D:i < l.length):sizs (l.take (i+1))=sizs (l.take i)+siz l[i]∧sizs (l.take (i+1))≤sizs l:=by
 have z:sizs (l.take (i+1))=sizs (l.take i)+siz l[i]:=by rw [List.take_succ_eq_append_getElem D,Qg,sizs,sizs];omega
 refine ⟨z,?_⟩;have:=congrArg sizs (List.take_append_drop (i+1) l);rw [Qg] at this;omega
structure FB (h:H) (G:Fz) (q2 q7 q8 q9 d lo n:Nat) (v7 v8:AV):Prop where
 g2:h.m.get q2=some (d:Blk)
 g9:h.m.get q9=some (cQ [.fn (.func 97) [] [jQ q2 0,jQ q7 0,jQ q8 0,jQ q9 0]] 181)
 g7:h.m.get q7=some (cQ [v7] 53)
 g8:h.m.get q8=some (cQ [v8] 180)
 o7:∃ n1 cs,Own h lo 50 2 v7 n1 cs∧Af cs=true∧n1≤n
 o8:∃ n1 cs,Own h lo 119 1 v8 n1 cs∧Af cs=true∧n1≤n
 f7:∀ j,VB v7 j→G j=none
 f8:∀ j,VB v8 j→G j=none
 dj:∀ j,VB v7 j→¬ VB v8 j
 ne:q7≠q8∧q2≠q7∧q2≠q8∧q9≠q7∧q9≠q8∧q2 < lo∧q7 < lo∧q8 < lo∧q9 < lo
 n7:G q7=none
 n8:G q8=none
 le:lo≤h.nx
 n:n≤100000
variable {q2 q7 q8 q9 lo n:Nat} {v7 v8:AV}
theorem FB.mv {W:Nat→Prop} (F:FB h G q2 q7 q8 q9 d lo n v7 v8) (p:Stp W h G h' G) (z:h.Ok) (hw:∀ i,W i→i≠q2∧i≠q7∧i≠q8∧i≠q9∧¬ VB v7 i∧¬ VB v8 i∧i < lo) {n':Nat} (Y:n≤n') (E:n'≤100000):FB h' G q2 q7 q8 q9 d lo n' v7 v8:=by
 obtain ⟨J,cs,a1,a2,a3⟩:=F.o7;obtain ⟨O,ds,b1,b2,U⟩:=F.o8;exact ⟨p.gt z F.g2 (fun h=>(hw _ h).1 rfl),p.gt z F.g9 (fun h=>(hw _ h).2.2.2.1 rfl),p.gt z F.g7 (fun h=>(hw _ h).2.1 rfl),p.gt z F.g8 (fun h=>(hw _ h).2.2.1 rfl),
  ⟨J,cs,a1.mv p z (fun j I D=>by have:=(hw _ D).2.2.2.2.2.2;omega),a2,tM⟩,⟨O,ds,b1.mv p z (fun j I D=>by have:=(hw _ D).2.2.2.2.2.2;omega),b2,tM⟩,F.f7,F.f8,F.dj,F.ne,F.n7,F.n8,Nat.le_trans F.le p.nx,E⟩
abbrev FW4 (d b:Nat) (sl:List Sl) (q7 q8 lo:Nat):Nat→Prop:=fun i=>FP d b sl i∨i=q7∨i=q8∨lo≤i
def Ayv (d b L q2 q7 q8 q9 lo:Nat) (ht:HT) (t:T):Prop:=∀ {h:H} {G:Fz} {m:V.D.M} {sl:List Sl} {par:Option Hd} {n:Nat} {v7 v8:AV},Dm h G d m sl b L→FB h G q2 q7 q8 q9 d lo n v7 v8→V.D.R m par ht t→ht.all.Nodup→n+siz t≤100000→(∀ i,FP d b sl i→i < lo∧i≠q2∧i≠q7∧i≠q8∧i≠q9) →
 Ans ctx 97 [hdA ht.x,jQ q2 0,jQ q7 0,jQ q8 0,jQ q9 0] h fun _ h'=>∃ sl' v7' v8',Dm h' G d (dls m ht.all) sl' b L∧FB h' G q2 q7 q8 q9 d lo (n+siz t) v7' v8'∧Stp (FW4 d b sl q7 q8 lo) h G h' G∧∀ i,FP d b sl' i→FP d b sl i
theorem fr_step {x:Hd} {hs:List HT} {kd:Nat} {tg ky tx:List UInt8} {al:List (List UInt8 × List UInt8)} {ch:List T} (ih:∀ j (I:j < ch.length) (ar:j < hs.length),Ayv d b L q2 q7 q8 q9 lo hs[j] ch[j]):Ayv d b L q2 q7 q8 q9 lo (.nd x hs) (.nd kd tg ky tx al ch):=by
 intro h G m sl b6 n v7 v8 D F r aw hn ae;obtain ⟨hx,ax⟩:=r;have au:=ax.len;rw [siz] at hn;obtain ⟨p,a⟩:=D.all x (by rw [hx];exact Option.some_ne_none _);rw [show (HT.nd x hs).x=x from rfl];refine aO Tryz.f97 ?_;simp only [Tryz.f97];have ne:=F.ne;have bv:=F.le;have p0:Gro h G ((h.new x).up 10):=(Stp.refl D.s).new.up;have D0:=D.gro p0;obtain ⟨_,E,e1,bo,rfl,U,p1,gp,an⟩:=free98 D0 a;obtain ⟨b4,b7,m1,m2,⟨av,cv,rfl,_,hc⟩,bu,_⟩:=D0.nodes x p a;rw [hx] at m1;cases m1;rw [m2] at gp;have r9:E.read p 9 1=some [cv]:=(Ab gp).trans rfl;have F0:FB ((h.new x).up 10) G q2 q7 q8 q9 d lo n v7 v8:=F.mv p0 D.s.1 (fun _ h=>h.elim) (Nat.le_refl _) F.n;have F1:FB E G q2 q7 q8 q9 d lo n v7 v8:=F0.mv p1 p0.st.1 (fun i hi=>by
  obtain ⟨z0,z1,z2,z3,z4⟩:=ae i hi;refine ⟨z1,z2,z3,z4,?_,?_,z0⟩
  ·obtain ⟨n1,cs,o,_⟩:=F0.o7;exact fun hh=>by have:=o.vb hh;omega
  ·obtain ⟨n1,cs,o,_⟩:=F0.o8;exact fun hh=>by have:=o.vb hh;omega) (Nat.le_refl _) F.n
 have ba:=p1.nx;simp only [Ac,Ai] at ba;have r2:((h.new x).up 10).read q2 0 1=some [jQ d 0]:=(Ab F0.g2).trans rfl;have bk:E.read q2 0 1=some [jQ d 0]:=(Ab F1.g2).trans rfl;have rx:((h.new x).up 10).read h.nx 0 2=some [iQ uQ x.ix,iQ uQ x.gen]:=rL;have bb:¬ FP d b sl h.nx:=fun hh=>by have:=D.fp_lt _ hh;omega
 have ao:E.m.get h.nx=some (x:Blk):=p1.gt p0.st.1 gL bb;have bn:E.read h.nx 0 2=some [iQ uQ x.ix,iQ uQ x.gen]:=(Ab ao).trans rfl;have bm:(h.new x).read h.nx 0 2=some [iQ uQ x.ix,iQ uQ x.gen]:=rL;have bj:(h.new x).read q2 0 1=some [jQ d 0]:=r2;obtain ⟨n1,aM,o7,a7,bw⟩:=F1.o7;obtain ⟨n2,cs2,o8,a8,bx⟩:=F1.o8;have aX:∀ j,VB v7 j→j < h.nx:=fun j I=>by obtain ⟨_,_,o,_⟩:=F.o7;exact VB.lt o D.s.1 (Or.inl I)
 have ay:∀ j,VB v8 j→j < h.nx:=fun j I=>by obtain ⟨_,_,o,_⟩:=F.o8;exact VB.lt o D.s.1 (Or.inl I)
 have ai:∀ j,VB v7 j→lo≤j:=fun j I=>o7.vb I;have aP:∀ j,VB v8 j→lo≤j:=fun j I=>o8.vb I;have gn:=F.n;have zA:Stp (fun _=>False) E G ((E.up 10).at (E.nx+2) (x:Blk)) G:=(Stp.refl U.s).up.at (Or.inl tM) (by simp only [Ai];omega) (U.s.none tM);obtain ⟨O,h5,c5,aA,be,bt,Y⟩:=Di (C:=ctx) (k:=0) (new:=[iQ uQ x.ix,iQ uQ x.gen]) (o7.mv zA U.s.1 (fun _ _ h=>h)) tM (Be (by rw [by50];omega) tM) (by rw [A7,a7];rfl) rfl (by simp only [Ag,Ai];omega) zA.st F.f7;have z5:Stp (VB v7) E G h5 G:=(zA.mono fun _ h=>h.elim).trans bt;have l5:=z5.nx;simp only [Ag,Ai] at be;have g6:G (E.nx+6)=none:=U.s.none tM;have zB:Stp (VB v7) E G (h5.at (E.nx+6) (cQ [jQ p 0] 119)) G:=z5.at (Or.inl tM) tM g6;have bh:Own (h5.at (E.nx+6) (cQ [jQ p 0] 119)) lo 119 1 v8 n2 cs2:=by
  rcases o8 with o | ⟨q,e1,Z,e3,e4,e5⟩ | ⟨q,e1,Z,e3,e4⟩
  ·exact Or.inl o
  ·exact Or.inr (Or.inl ⟨q,e1,Z,e3,e4,zB.gt U.s.1 e5 (fun hh=>by obtain ⟨_,e⟩:=hh;rw [e] at o7;rcases o7 with ⟨z,_⟩ | ⟨_,_,z,_⟩ | ⟨q',_,z,z2,_⟩ <;> cases z;rw [e5] at z2;cases z2)⟩)
  ·exact Or.inr (Or.inr ⟨q,e1,Z,zB.gt U.s.1 e3 (fun hh=>F.dj q hh ⟨_,Z⟩),e4⟩)
 obtain ⟨v8',h6,c6,aB,bf,am,aj⟩:=Di (C:=ctx) (k:=0) (new:=[jQ p 0]) bh tM (Be (by rw [by119];omega) tM) (by rw [A7,a8];rfl) rfl (by simp only [Ag];omega) zB.st F.f8;simp only [Ag] at bf;have z6:Stp (fun i=>lo≤i) E G h6 G:=((zB.mono fun i h=>ai i h)).trans (am.mono fun i h=>aP i h);have bg:Own h6 lo 50 2 O (n1+1) (aM++[iQ uQ x.ix,iQ uQ x.gen]):=by
  rcases aA with ⟨e,_⟩ | ⟨_,_,e,_⟩ | ⟨q,e1,Z,e3,e4⟩
  ·rw [Y] at e;cases e
  ·rw [Y] at e;cases e
  ·rw [Y] at Z;cases Z;exact Or.inr (Or.inr ⟨_,e1,Y,am.gt zB.st.1 ((An (by simp only [Ag,Ai];omega)).trans e3) (fun hh=>by have:=ay _ hh;simp only [Ag,Ai] at this;omega),e4⟩)
 simp only [Ag,Ai] at Y aj;have s7:h6.m.get q7=some (cQ [v7] 53):=z6.gt U.s.1 F1.g7 tM;have s8:h6.m.get q8=some (cQ [v8] 180):=z6.gt U.s.1 F1.g8 tM;have l6:=z6.nx;have z7:Stp (fun i=>i=q7∨i=q8∨lo≤i) E G ((h6.at q7 (cQ [O] 53)).at q8 (cQ [v8'] 180)) G:=((z6.mono (W':=fun i=>i=q7∨i=q8∨lo≤i) fun i h=>Or.inr (Or.inr h)).at (Or.inr (Or.inl rfl)) (Ah z6.st.1 s7) F.n7).at (Or.inr (Or.inr (Or.inl rfl))) (by simp only [Ag];exact Ah z6.st.1 s8) F.n8;have z8:Stp (fun i=>i=q7∨i=q8) h6 G ((h6.at q7 (cQ [O] 53)).at q8 (cQ [v8'] 180)) G:=((Stp.refl z6.st).at (Or.inr (Or.inl rfl)) (Ah z6.st.1 s7) F.n7).at (Or.inr (Or.inr rfl)) (by simp only [Ag];exact Ah z6.st.1 s8) F.n8;have nj:∀ j,lo≤j→¬ (j=q7∨j=q8):=fun j I hh=>by omega
 have F2:FB ((h6.at q7 (cQ [O] 53)).at q8 (cQ [v8'] 180)) G q2 q7 q8 q9 d lo (n+1) O v8':=⟨z7.gt U.s.1 F1.g2 tM,z7.gt U.s.1 F1.g9 tM,(An ne.1).trans Ap,Ap,⟨_,_,bg.mv z8 z6.st.1 nj,by rw [A7,a7];rfl,tM⟩,⟨_,_,aB.mv z8 z6.st.1 nj,by rw [A7,a8];rfl,tM⟩,
  fun j I=>by obtain ⟨_,e⟩:=I;rw [Y] at e;cases e;exact U.s.none tM,fun j I=>by obtain ⟨_,e⟩:=I;rw [aj] at e;cases e;exact U.s.none tM,fun j I ar=>by obtain ⟨_,e⟩:=I;obtain ⟨_,Z⟩:=ar;rw [Y] at e;rw [aj] at Z;simp only [AV.sr.injEq] at e Z;omega,ne,F.n7,F.n8,by have:=z7.nx;omega,tM⟩
 have D2:=U.loc (z7.mono fun i hi hf=>by
  obtain ⟨y1,y2,y3,y4,y5⟩:=ae i (an i hf).1;omega)
 have gS:=z7.gt U.s.1 gp (fun hi=>by
  obtain ⟨y1,y2,y3,y4,y5⟩:=ae p (Or.inr (Or.inr ⟨x,a⟩));omega)
 have aD:((h6.at q7 (cQ [O] 53)).at q8 (cQ [v8'] 180)).read p 9 1=some [cv]:=(Ab gS).trans rfl;have a70:E.read q7 0 1=some [v7]:=(Ab F1.g7).trans rfl;have aI:E.read q8 0 1=some [v8]:=(Ab F1.g8).trans rfl;have b5:=z5.gt U.s.1 F1.g8 (fun hh=>by have:=ai _ hh;omega);have a85:h5.read q8 0 1=some [v8]:=(Ab b5).trans rfl;have aG:h5.read q7 0 1=some [v7]:=(Ab (z5.gt U.s.1 F1.g7 (fun hh=>by have:=ai _ hh;omega))).trans rfl;have aH:h6.read q7 0 1=some [v7]:=(Ab s7).trans rfl;have aJ:h6.read q8 0 1=some [v8]:=(Ab s8).trans rfl;have x5:=z5.gt U.s.1 ao (fun hh=>by have:=aX _ hh;omega);have x6:=am.gt zB.st.1 ((An (b:=cQ [jQ p 0] 119) (i:=E.nx+6) tM).trans x5) (fun hh=>by have:=ay _ hh;omega);have aK:h5.read h.nx 0 2=some [iQ uQ x.ix,iQ uQ x.gen]:=(Ab x5).trans rfl;have aL:h6.read h.nx 0 2=some [iQ uQ x.ix,iQ uQ x.gen]:=(Ab x6).trans rfl;have aY:=o7.len;have aZ:=o8.len;have w7:=aA.one;have w8:=aB.one;have i1:(q7=E.nx+2)=False:=eq_false tM;have i2:(q8=E.nx+2)=False:=eq_false tM;have i3:(q7=E.nx+6)=False:=eq_false tM;have i4:(q8=E.nx+6)=False:=eq_false tM;have i5:(q7=q8)=False:=eq_false ne.1;have i6:(q8=q7)=False:=eq_false (Ne.symm ne.1);have i7:(h.nx=E.nx+2)=False:=eq_false tM;have i8:(h.nx=E.nx+6)=False:=eq_false tM;have i9:(h.nx=q7)=False:=eq_false tM;have aT:(h.nx=q8)=False:=eq_false tM;have aU:(q2=q7)=False:=eq_false ne.2.1;have aV:(q2=q8)=False:=eq_false ne.2.2.1;have aQ:=hc.len;simp only [seval,go_sem,bj,bm,e1,bk,bn,a70,aI,a85,aG,aH,aJ,aK,aL,aY,aZ,w7,w8,i1,i2,i3,i4,i5,i6,i7,i8,i9,aT,aU,aV,c5,c6,s7,s8,aD,aQ,F1.g7,F1.g8]
 have ak:(hs.map HT.x).length=hs.length:=List.length_map ..;have aC:=(p0.mono (W':=FW4 d b sl q7 q8 lo) fun _ h=>h.elim).trans ((p1.mono fun i hi=>Or.inl hi).trans (z7.mono fun i hi=>Or.inr hi));generalize hS:H.at _ _ _=S at F2 D2 aC;clear gS aD z8 z7 hS;rw [HT.all,List.nodup_cons] at aw;refine Ao (fun i e h'=>(∃ aF O v8',Dm h' G d (dls m (x::HT.alls (hs.take i))) aF b L∧FB h' G q2 q7 q8 q9 d lo (n+1+sizs (ch.take i)) O v8'∧Stp (FW4 d b sl q7 q8 lo) h G h' G∧∀ j,FP d b aF j→FP d b sl j) ∧
  i≤ch.length∧e.get 1=some (jQ q2 0)∧e.get 2=some (jQ q7 0)∧e.get 3=some (jQ q8 0)∧e.get 4=some (jQ q9 0)∧e.get 30=some cv∧e.get 31=some (iQ wQ ch.length)∧e.get 32=some (iQ wQ i)) (fun i=>ch.length - i) 0 ?_ ?_
 ·refine ⟨⟨bo,O,v8',?_,F2,aC,fun j I=>(an j I).1⟩,Nat.zero_le _,by simp [Tr.get_set,au]⟩;rw [show dls m (x::HT.alls (hs.take 0))=dlM m x by
   funext k;unfold dls dlM;simp [HT.alls]]
  exact D2
 rintro i e h2 ⟨⟨bp,w7,w8,D3,F3,q3,ac⟩,hi,e1,Z,e3,e4,aa,ab,ah⟩ aW;simp only [seval,go_sem,aa,ab,ah];refine Cr (fun J=>?_) (fun J=>?_)
 ·have J:i < ch.length:=by simpa using J
  have w:IntKind.i64.wrap ((i:Int)+1)=((i+1:Nat):Int):=by rw [show (i:Int)+1=((i+1:Nat):Int) by omega];exact Bz (by have:=Ma J;have z:=(D.nd x _ hx).2;have:=D.le;simp only [List.length_map] at z;omega)
  have af:i < hs.length:=tM;obtain ⟨hh,ap,aR⟩:=ax.get (List.getElem?_eq_getElem J);have aq:hs[i]=hh:=by rw [List.getElem?_eq_getElem af] at ap;exact Option.some.inj ap
  obtain ⟨hb,ho,g2,g3⟩:=Arr.hd q3.st (l:=hs.map HT.x) hc (j:=i) (by rw [ak];exact af);rw [List.getElem_map] at g3;have br:HT.alls hs=HT.alls (hs.take i)++(hs[i].all++HT.alls (hs.drop (i+1))):=by
   rw [← HT.alls,← Ju,List.getElem_cons_drop,List.take_append_drop]
  have ag:=aw;rw [br,List.nodup_append,List.nodup_append,List.mem_append] at ag;obtain ⟨az,bz,⟨a0,b0,b3⟩,a6⟩:=ag;have x0:Ayv d b L q2 q7 q8 q9 lo hs[i] ch[i]:=ih i J af;rw [aq] at x0 g3 az a0 a6;have rr:V.D.R (dls m (x::HT.alls (hs.take i))) (some x) hh ch[i]:=aR.frame fun k hk=>by
   unfold dls;rw [if_neg];intro hm;rcases List.mem_cons.1 hm with rfl | hm
   ·exact az (Or.inr (List.mem_append.2 (Or.inl hk)))
   ·exact a6 k hm k (List.mem_append.2 (Or.inl hk)) rfl
  have q4:Gro h2 G ((h2.new (cQ [iQ uQ 0,iQ uQ 0] 50)).at h2.nx (cQ [iQ uQ hh.x.ix,iQ uQ hh.x.gen] 50)):=((Stp.refl D3.s).new).at (Or.inl (Nat.le_refl _)) (by simp only [Ac];omega) (D3.s.none (Nat.le_refl _));have bs:=Ma J;have aE:h2.read q9 0 1=some [.fn (.func 97) [] [jQ q2 0,jQ q7 0,jQ q8 0,jQ q9 0]]:=(Ab F3.g9).trans rfl;have l9:(q9=h2.nx)=False:=eq_false (by have:=F3.le;omega);have bl:(h2.new (cQ [iQ uQ 0,iQ uQ 0] 50)).read q9 0 1=some [.fn (.func 97) [] [jQ q2 0,jQ q7 0,jQ q8 0,jQ q9 0]]:=by have:=F3.le;rw [Bc tM];exact aE
  simp only [seval,go_sem,e1,Z,e3,e4,aa,ab,ah,g2,q3.st.read g3,w,aE,bl,l9];refine Ae (x0 (D3.gro q4) (F3.mv q4 D3.s.1 (fun _ h=>h.elim) (Nat.le_refl _) F3.n) rr a0 tM (fun j I=>ae j (ac j I))) fun v h3 ⟨bq,u7,u8,D4,F4,q5,aN⟩=>?_;simp only [seval,go_sem,e1,Z,e3,e4,aa,ab,ah,w];refine aW (i+1) _ _ tM ⟨⟨bq,u7,u8,?_,?_,?_,fun j I=>ac j (aN j I)⟩,J,by simp [Tr.get_set,e1,Z,e3,e4,aa,ab]⟩
  ·rw [dls_dls] at D4;rw [List.take_succ_eq_append_getElem af,Ju,aq,HT.alls,HT.alls,List.append_nil,← List.cons_append];exact D4
  ·rw [bs.1,← Nat.add_assoc];exact F4
  ·exact (q3.trans (q4.mono fun _ h=>h.elim)).trans (q5.mono fun j I=>by exact I.imp (ac j) id)
 ·have J:ch.length≤i:=by simpa using J
  have aS:i=ch.length:=tM;subst aS;simp only [seval,go_sem];rw [List.take_of_length_le tM] at D3;rw [List.take_length] at F3;refine ⟨bp,w7,w8,D3,?_,q3,ac⟩;rw [siz,← Nat.add_assoc];exact F3
mutual
theorem Awr:∀ (t:T) (ht:HT),Ayv d b L q2 q7 q8 q9 lo ht t
 | .nd kd tg ky tx al ch,.nd x hs=>fr_step fun j hj hj2=>fr_alls ch j hj hs[j]
theorem fr_alls:∀ (l:List T) (j:Nat) (hj:j < l.length) (ht:HT),Ayv d b L q2 q7 q8 q9 lo ht l[j]
 | t::l,0,_,ht=>Awr t ht
 | t::l,j+1,hj,ht=>fr_alls l j (Nat.lt_of_succ_lt_succ hj) ht
end
end
section
variable {h h':H} {G G':Fz} {d b L p q:Nat} {m:D.M} {sl:List Sl} {k k1 k2:Hd}
theorem run96 {U Y:Nat} {z:Nd} (D:Dm h G d m sl b L) (m2:m k=some z) (hp:z.par=none) (r0:h.read U 0 1=some [jQ d 0]) (r1:h.read Y 0 2=some [iQ uQ k.ix,iQ uQ k.gen]) :
  Ans ctx 96 [jQ U 0,jQ Y 0] h fun v h'=>v=bQ true∧Gro h G h':=by
 obtain ⟨O,a2⟩:=D.all k (by rw [m2];exact Option.some_ne_none _);refine aO Tryz.f96 ?_;simp only [Tryz.f96];simp only [seval,go_sem,r0,r1];refine Ae (Ie D a2) fun v h1 ⟨Z,J⟩=>?_;subst Z;obtain ⟨I,aa,E,g2,⟨x2,c2,rfl,_⟩,_⟩:=(D.gro J).nodes k O a2;rw [m2] at E;cases E;have r7:h1.read O 7 2=some [iQ uQ (0:Nat),iQ uQ (0:Nat)]:=(Ab g2).trans (by rw [hp];rfl);simp only [seval,go_sem,r7,Pn];exact J
theorem free40 {t:T} {ht:HT} (D:Dm h G d m sl b L) (r:V.D.R m none ht t) (ak:ht.all.Nodup) (hs:siz t≤100000) :
  Ans ctx 40 [jQ d 0,hdA ht.x] h fun x h'=>x=iQ wQ 0∧∃ G' ai,Dm h' G' d (dls m ht.all) ai b L∧Stp (FP d b sl) h G h' G'∧∀ i,FP d b ai i→FP d b sl i:=by
 generalize hk:ht.x=k;obtain ⟨ae,m2,hp⟩:∃ ae,m k=some ae∧ae.par=none:=by
  subst hk;obtain ⟨x,hs⟩:=ht;obtain ⟨kd,tg,ky,tx,al,ch⟩:=t;exact ⟨_,r.1,rfl⟩
 obtain ⟨p,a⟩:=D.all k (by rw [m2];exact Option.some_ne_none _);refine aO Tryz.f40 ?_;simp only [Tryz.f40];have pS:Gro h G ((((((((h.new d).new k).new k).new d).new (cQ [.sl (h.nx+2) 0 1 1] 53)).new (cQ [.fn (.func 96) [] [jQ h.nx 0,jQ (h.nx+1) 0]] 45)).new (cQ [iQ wQ 10] 37)).new (cQ [.fn (.func 102) [] [jQ (h.nx+3) 0,jQ (h.nx+4) 0],.fn (.func 128) [] [jQ (h.nx+5) 0,jQ (h.nx+6) 0]] 85)):=(Stp.refl D.s).new.new.new.new.new.new.new.new;have b0:((((((((h.new d).new k).new k).new d).new (cQ [.sl (h.nx+2) 0 1 1] 53)).new (cQ [.fn (.func 96) [] [jQ h.nx 0,jQ (h.nx+1) 0]] 45)).new (cQ [iQ wQ 10] 37)).new (cQ [.fn (.func 102) [] [jQ (h.nx+3) 0,jQ (h.nx+4) 0],.fn (.func 128) [] [jQ (h.nx+5) 0,jQ (h.nx+6) 0]] 85)).m.get h.nx=some (d:Blk):=gL;have b1:=lG b0 (h.nx+1) (k:Blk);have b2:((((((((h.new d).new k).new k).new d).new (cQ [.sl (h.nx+2) 0 1 1] 53)).new (cQ [.fn (.func 96) [] [jQ h.nx 0,jQ (h.nx+1) 0]] 45)).new (cQ [iQ wQ 10] 37)).new (cQ [.fn (.func 102) [] [jQ (h.nx+3) 0,jQ (h.nx+4) 0],.fn (.func 128) [] [jQ (h.nx+5) 0,jQ (h.nx+6) 0]] 85)).m.get (h.nx+2)=some (cQ (hdC [k]) 50):=by simp (disch:=first | omega | (simp only [Ac,Ag,Ai] <;> omega) | fail) only [Bh,Ca,Cd,Bb,Az];rfl
 have b3:=lG b0 (h.nx+3) (d:Blk);have b4:=lG b0 (h.nx+4) (cQ [.sl (h.nx+2) 0 1 1] 53);have b5:=lG b0 (h.nx+5) (cQ [.fn (.func 96) [] [jQ h.nx 0,jQ (h.nx+1) 0]] 45);have b7:=lG b0 (h.nx+7) (cQ [.fn (.func 102) [] [jQ (h.nx+3) 0,jQ (h.nx+4) 0],.fn (.func 128) [] [jQ (h.nx+5) 0,jQ (h.nx+6) 0]] 85);have nS:((((((((h.new d).new k).new k).new d).new (cQ [.sl (h.nx+2) 0 1 1] 53)).new (cQ [.fn (.func 96) [] [jQ h.nx 0,jQ (h.nx+1) 0]] 45)).new (cQ [iQ wQ 10] 37)).new (cQ [.fn (.func 102) [] [jQ (h.nx+3) 0,jQ (h.nx+4) 0],.fn (.func 128) [] [jQ (h.nx+5) 0,jQ (h.nx+6) 0]] 85)).nx=h.nx+8:=rfl;simp only [seval,go_sem,Pd,Gi];generalize hS:((((((((h.new d).new k).new k).new d).new (cQ [.sl (h.nx+2) 0 1 1] 53)).new (cQ [.fn (.func 96) [] [jQ h.nx 0,jQ (h.nx+1) 0]] 45)).new (cQ [iQ wQ 10] 37)).new (cQ [.fn (.func 102) [] [jQ (h.nx+3) 0,jQ (h.nx+4) 0],.fn (.func 128) [] [jQ (h.nx+5) 0,jQ (h.nx+6) 0]] 85))=S at *;have pf:=pS.frz (i:=h.nx+2) tM b2;generalize hG:G.add (h.nx+2) (cQ (hdC [k]) 50)=Gf at *;have Df:=D.gro pf;have ar:Arr Gf 2 (.sl (h.nx+2) 0 1 1) [k].length (hdC [k]):=Or.inr ⟨h.nx+2,0,Or.inl ⟨1,Nat.le_refl _,rfl⟩,by rw [← hG,Fz.rd_b Fz.add_at];rfl⟩;refine Ae (Ku (h:=S) (q:=h.nx+7) (n:=2) (cs:=[.fn (.func 102) [] [jQ (h.nx+3) 0,jQ (h.nx+4) 0],.fn (.func 128) [] [jQ (h.nx+5) 0,jQ (h.nx+6) 0]]) (fun _ h'=>Gro S Gf h') (Stp.refl pf.st) rfl tM (fun i h' hi p=>(Ab (p.gt pf.st.1 b7 (fun h=>h))).trans rfl)
  (fun i h' hi p=>by
   have I:=Df.gro p;have rd:∀ {j B},S.m.get j=some B→h'.m.get j=some B:=fun e=>p.gt pf.st.1 e (fun h=>h)
   match i,hi with
   | 0,_=>exact ⟨102,[],_,rfl,(Aaz I ((Ab (rd b3)).trans rfl) ((Ab (rd b4)).trans rfl) ar (by simp) (fun k' ah=>by rw [List.mem_singleton] at ah;subst ah;exact ⟨_,a⟩)).mono fun v z ⟨q1,q2⟩=>⟨q1,p.trans q2⟩⟩
   | 1,_=>exact ⟨128,[],_,rfl,(Hp ((Ab (rd b5)).trans rfl) (run96 I m2 hp ((Ab (rd b0)).trans rfl) ((Ab (rd b1)).trans rfl))).mono fun v z ⟨q1,q2⟩=>⟨q1,p.trans q2⟩⟩)) fun v z ⟨q1,p2⟩=>?_
 subst q1;have g0:=p2.gt pf.st.1 b0 (fun h=>h);have g1:=p2.gt pf.st.1 b1 (fun h=>h);have r0:z.read h.nx 0 1=some [jQ d 0]:=(Ab g0).trans rfl;have r1:z.read (h.nx+1) 0 2=some [iQ uQ k.ix,iQ uQ k.gen]:=(Ab g1).trans rfl;have I:=Df.gro p2;have l2:=p2.nx;obtain ⟨fr,lv,U,c1,c2,Y,Z,c5,c6,c7,fl,dg,ef,en⟩:=I.dc;have rc:z.read d 3 8=some [iQ wQ U,iQ wQ c1,iQ wQ c2,iQ wQ Y,iQ wQ Z,iQ wQ c5,iQ wQ c6,iQ wQ c7]:=(Ab dg).trans rfl;have pZ:Gro z Gf ((((((z.new (cQ [iQ wQ 0,iQ wQ 0,iQ wQ 0,iQ wQ 0,iQ wQ 0,iQ wQ 0,iQ wQ 0,iQ wQ 0] 100)).at z.nx (cQ [iQ wQ U,iQ wQ c1,iQ wQ c2,iQ wQ Y,iQ wQ Z,iQ wQ c5,iQ wQ c6,iQ wQ c7] 100)).new (cQ [(():AV)] 53)).new (cQ [(():AV)] 180)).new (cQ [kQ .nilFunc] 181)).at (z.nx+3) (cQ [.fn (.func 97) [] [jQ h.nx 0,jQ (z.nx+1) 0,jQ (z.nx+2) 0,jQ (z.nx+3) 0]] 181)):=((((((Stp.refl I.s).new).at (Or.inl (Nat.le_refl _)) (by simp only [Ac];omega) (I.s.none (Nat.le_refl _))).new).new).new).at (Or.inl tM) (by simp only [Ac,Ag];omega) (I.s.none tM);have z0:((((((z.new (cQ [iQ wQ 0,iQ wQ 0,iQ wQ 0,iQ wQ 0,iQ wQ 0,iQ wQ 0,iQ wQ 0,iQ wQ 0] 100)).at z.nx (cQ [iQ wQ U,iQ wQ c1,iQ wQ c2,iQ wQ Y,iQ wQ Z,iQ wQ c5,iQ wQ c6,iQ wQ c7] 100)).new (cQ [(():AV)] 53)).new (cQ [(():AV)] 180)).new (cQ [kQ .nilFunc] 181)).at (z.nx+3) (cQ [.fn (.func 97) [] [jQ h.nx 0,jQ (z.nx+1) 0,jQ (z.nx+2) 0,jQ (z.nx+3) 0]] 181)).m.get z.nx=some (cQ [iQ wQ U,iQ wQ c1,iQ wQ c2,iQ wQ Y,iQ wQ Z,iQ wQ c5,iQ wQ c6,iQ wQ c7] 100):=gL;have z1:=lG z0 (z.nx+1) (cQ [(():AV)] 53);have z2:=lG z0 (z.nx+2) (cQ [(():AV)] 180)
 have z3:=lG z0 (z.nx+3) (cQ [.fn (.func 97) [] [jQ h.nx 0,jQ (z.nx+1) 0,jQ (z.nx+2) 0,jQ (z.nx+3) 0]] 181);have zr:((((((z.new (cQ [iQ wQ 0,iQ wQ 0,iQ wQ 0,iQ wQ 0,iQ wQ 0,iQ wQ 0,iQ wQ 0,iQ wQ 0] 100)).at z.nx (cQ [iQ wQ U,iQ wQ c1,iQ wQ c2,iQ wQ Y,iQ wQ Z,iQ wQ c5,iQ wQ c6,iQ wQ c7] 100)).new (cQ [(():AV)] 53)).new (cQ [(():AV)] 180)).new (cQ [kQ .nilFunc] 181)).at (z.nx+3) (cQ [.fn (.func 97) [] [jQ h.nx 0,jQ (z.nx+1) 0,jQ (z.nx+2) 0,jQ (z.nx+3) 0]] 181)).read (h.nx+1) 0 2=some [iQ uQ k.ix,iQ uQ k.gen]:=(Ab (pZ.gt I.s.1 g1 (fun h=>h))).trans rfl;have zn:((((((z.new (cQ [iQ wQ 0,iQ wQ 0,iQ wQ 0,iQ wQ 0,iQ wQ 0,iQ wQ 0,iQ wQ 0,iQ wQ 0] 100)).at z.nx (cQ [iQ wQ U,iQ wQ c1,iQ wQ c2,iQ wQ Y,iQ wQ Z,iQ wQ c5,iQ wQ c6,iQ wQ c7] 100)).new (cQ [(():AV)] 53)).new (cQ [(():AV)] 180)).new (cQ [kQ .nilFunc] 181)).at (z.nx+3) (cQ [.fn (.func 97) [] [jQ h.nx 0,jQ (z.nx+1) 0,jQ (z.nx+2) 0,jQ (z.nx+3) 0]] 181)).nx=z.nx+4:=rfl;simp only [seval,go_sem,r0,r1,rc,zr];generalize hZ:((((((z.new (cQ [iQ wQ 0,iQ wQ 0,iQ wQ 0,iQ wQ 0,iQ wQ 0,iQ wQ 0,iQ wQ 0,iQ wQ 0] 100)).at z.nx (cQ [iQ wQ U,iQ wQ c1,iQ wQ c2,iQ wQ Y,iQ wQ Z,iQ wQ c5,iQ wQ c6,iQ wQ c7] 100)).new (cQ [(():AV)] 53)).new (cQ [(():AV)] 180)).new (cQ [kQ .nilFunc] 181)).at (z.nx+3) (cQ [.fn (.func 97) [] [jQ h.nx 0,jQ (z.nx+1) 0,jQ (z.nx+2) 0,jQ (z.nx+3) 0]] 181))=S2 at *;have ac:∀ i,FP d b sl i→i < h.nx:=D.fp_lt;have J:∀ v j,v=(():AV)→¬ VB v j:=fun v j e E=>by obtain ⟨_,e2⟩:=E;rw [e] at e2;cases e2
 have F2:FB S2 Gf h.nx (z.nx+1) (z.nx+2) (z.nx+3) d (z.nx+4) 0 (():AV) (():AV):=⟨pZ.gt I.s.1 g0 (fun h=>h),z3,z1,z2,⟨0,[],Or.inl ⟨rfl,rfl,rfl⟩,rfl,Nat.le_refl _⟩,⟨0,[],Or.inl ⟨rfl,rfl,rfl⟩,rfl,Nat.le_refl _⟩,
  fun j hj=>(J _ _ rfl hj).elim,fun j hj=>(J _ _ rfl hj).elim,fun j hj=>(J _ _ rfl hj).elim,tM,I.s.none tM,I.s.none tM,tM,tM⟩
 have kx:hdA k=hdA ht.x:=by rw [hk]
 refine Ae (kx ▸ Awr (d:=d) (b:=b) (L:=L) t ht (I.gro pZ) F2 r ak tM (fun i hi=>by have:=ac i hi;omega)) fun _ h3 ⟨aj,v7,v8,D3,F3,q3,ab⟩=>?_;have nF:∀ {j},h.nx≤j→¬ FP d b sl j:=fun {j} hj E=>by have:=ac _ E;omega
 have y0:=q3.gt pZ.st.1 z0 (by
  intro E;rcases E with E | E
  ·exact nF tM E
  ·omega)
 have x0:h3.read z.nx 0 8=some [iQ wQ U,iQ wQ c1,iQ wQ c2,iQ wQ Y,iQ wQ Z,iQ wQ c5,iQ wQ c6,iQ wQ c7]:=(Ab y0).trans rfl;have x1:h3.read h.nx 0 1=some [jQ d 0]:=(Ab F3.g2).trans rfl;simp only [seval,go_sem,x0,x1];refine Ae (note D3 rfl) fun _ h4 p4=>?_;have D4:=D3.gro p4;have F4:=F3.mv p4 D3.s.1 (fun _ h=>h.elim) (Nat.le_refl _) F3.n;obtain ⟨n7,an,o7,au,aq⟩:=F4.o7;have am:=o7.len;obtain ⟨ap,O,e0,e1,e2,e3,e4,e5,e6,e7,ao,aa,af,ag⟩:=D4.dc;have s0:h4.read h.nx 0 1=some [jQ d 0]:=(Ab F4.g2).trans rfl;have s7:h4.read (z.nx+1) 0 1=some [v7]:=(Ab F4.g7).trans rfl;have sd:h4.read d 3 1=some [iQ wQ e0]:=(Ab aa).trans rfl;have ov:=Ka (sl:=aj) (b:=b);have hd:d < h.nx:=ac d (Or.inl rfl);have n1:(z.nx+1=d)=False:=eq_false tM;have n2:(h.nx=d)=False:=eq_false tM;simp only [seval,go_sem,s0,s7,sd,am,aa,ov,n1,n2];have u4:Gro h4 Gf (h4.up 12):=(Stp.refl D4.s).up;obtain ⟨D5,p5⟩:=(D4.gro u4).setd (lv:=O) (lv':=O) (c:=[e0,e1,e2,e3,e4,e5,e6,e7]) (c':=[IntKind.i64.wrap (e0 - n7),e1,e2,e3,e4,e5,e6,e7]) aa af ag rfl;have u5:=(Stp.refl D5.s (W:=fun _=>False)).up (n:=12);obtain ⟨D6,p6⟩:=(D5.gro u5).setd (lv:=O) (lv':=O) (c:=[IntKind.i64.wrap (e0 - n7),e1,e2,e3,e4,e5,e6,e7]) (c':=[IntKind.i64.wrap (e0 - n7),e1,IntKind.i64.wrap (e2+n7),e3,e4,e5,e6,e7]) Ap af ag rfl;have w:∀ {h h':H} {G G':Fz},Stp (fun _=>False) h G h' G'→Stp (FP d b sl) h G h' G':=fun p=>p.mono fun _ h=>h.elim;have p8:Stp (FP d b sl) h G h3 Gf:=((w (pf.trans p2)).trans (w pZ)).in q3 (fun i hi E=>by
  rcases E with E | E
  ·exact E
  ·omega)
 exact ⟨Gf,aj,D6,((((p8.trans (w p4)).trans (w u4)).trans (p5.mono ab)).trans (w u5)).trans (p6.mono ab),ab⟩
theorem drop169 {t:T} {O:HT} {z:Nd} {i:Nat} (D:Dm h G d m sl b L) (r:V.D.R m (some k1) O t) (m1:m k1=some z) (hi:z.ch[i]?=some O.x) (hn:z.ch.Nodup) (Z:O.all.Nodup) (Y:k1 ∉ O.all) (hs:siz t≤100000) :
  Ans ctx 169 [jQ d 0,hdA O.x] h fun x h'=>x=iQ wQ 0∧∃ G' aa,Dm h' G' d (fun x=>if x∈O.all then none else if x=k1 then some { z with ch:=V.D.delI z.ch i } else m x) aa b L∧Stp (FP d b sl) h G h' G'∧∀ i,FP d b aa i→FP d b sl i:=by
 obtain ⟨kx,E⟩:=O;obtain ⟨kd,tg,ky,tx,al,ch⟩:=t;obtain ⟨m2,rs⟩:=r;rw [show (HT.nd kx E).x=kx from rfl] at *;obtain ⟨p,a⟩:=D.all kx (by rw [m2];exact Option.some_ne_none _);have ab:k1≠kx:=fun e=>Y (by rw [e,HT.all];exact List.mem_cons_self ..);refine aO Tryz.f169 ?_;simp only [Tryz.f169];have p0:Gro h G (h.new kx):=(Stp.refl D.s).new;simp only [seval,go_sem];refine Ae (look (D.gro p0) a m2) fun _ I ⟨G1,av,cv,e1,p1,ax,oc⟩=>?_;subst e1;have D1:=(D.gro p0).gro p1;have ac:=p0.trans p1;have g0:=p1.gt p0.st.1 (i:=h.nx) (b:=(kx:Blk)) Au (fun h=>h);have r0:I.read h.nx 0 2=some [iQ uQ kx.ix,iQ uQ kx.gen]:=(Ab g0).trans rfl;have o1:=ax.one;have o2:=oc.one;have hg:=D.g1 m1;have c1:decide ((k1.gen:Int)=0)=false:=decide_eq_false tM;have l1:=p1.nx;simp only [Ac] at l1;have n0:(h.nx=I.nx)=False:=eq_false tM;have lx:h.nx < I.nx:=tM;simp only [seval,go_sem,o1,o2,Ba,c1,r0,n0,lx];have pN:∀ {A B},Gro I G1 ((I.new A).at I.nx B):=fun {A B}=>((Stp.refl D1.s).new).at (Or.inl (Nat.le_refl _)) (by simp only [Ac];omega) (D1.s.none (Nat.le_refl _));refine Ae (Auv (D1.gro pN) m1 m2 rfl hi hn ab) fun _ U ⟨G2,D2,p2⟩=>?_;have pa:=ac.trans (pN (A:=cQ [iQ vQ 0,sQ [],(():AV),sQ [],iQ wQ 0,iQ wQ 0,bQ false,iQ uQ 0,iQ uQ 0,(():AV)] 55) (B:=cQ [iQ vQ kd,sQ tg,av,sQ tx,iQ wQ 0,iQ wQ 0,bQ false,iQ uQ k1.ix,iQ uQ k1.gen,cv] 55));have gk:=p2.gt (i:=h.nx) (b:=(kx:Blk)) (pN.st.1) ((An tM).trans ((Bh tM).trans g0)) (fun hh=>by have:=D.fp_lt _ hh;omega);have rk:U.read h.nx 0 2=some [iQ uQ kx.ix,iQ uQ kx.gen]:=(Ab gk).trans rfl
 simp only [seval,go_sem,rk];have J:=Z;rw [HT.all,List.nodup_cons] at J;have r2:V.D.R ((m.up k1 { z with ch:=V.D.delI z.ch i }).up kx { (⟨kd,tg,al,tx,some k1,E.map HT.x⟩:Nd) with par:=none }) none (.nd kx E) (.nd kd tg ky tx al ch):=by
  refine ⟨_root_.Go.V.D.up_eq,rs.frame fun k hk=>?_⟩;rw [_root_.Go.V.D.up_ne (show k≠kx from fun e=>J.1 (by rw [← e];exact hk)),_root_.Go.V.D.up_ne (show k≠k1 from fun e=>Y (by rw [HT.all];exact List.mem_cons_of_mem _ (by rw [← e];exact hk)))]
 refine Ae (free40 D2 r2 Z hs) fun _ h3 ⟨e3,G3,ae,D3,p3,f3⟩=>?_;subst e3;simp only [seval,go_sem];refine ⟨G3,ae,?_,((pa.mono fun _ h=>h.elim).in p2 (fun _ _ h=>h)).in p3 (fun _ _ h=>h),f3⟩;have:(fun x=>if x∈(HT.nd kx E).all then none else if x=k1 then some { z with ch:=V.D.delI z.ch i } else m x)=dls ((m.up k1 { z with ch:=V.D.delI z.ch i }).up kx { (⟨kd,tg,al,tx,some k1,E.map HT.x⟩:Nd) with par:=none }) (HT.nd kx E).all:=by
  funext k
  unfold dls
  by_cases I:k∈(HT.nd kx E).all
  ·rw [if_pos I,if_pos I]
  ·rw [if_neg I,if_neg I,_root_.Go.V.D.up_ne (fun e=>I (by rw [e,HT.all];exact List.mem_cons_self ..))]
   by_cases U:k=k1
   ·rw [if_pos U,U,_root_.Go.V.D.up_eq]
   ·rw [if_neg U,_root_.Go.V.D.up_ne U]
 rw [this];exact D3
end
section
variable {h h':H} {G G':Fz} {d b L p q:Nat} {m:D.M} {sl:List Sl} {k k1 k2:Hd}
theorem Y3:∀ {l:Als} {p:Option Str},Bm p l=true→V.D.AscA Op.bytesLess l∧∀ q,p=some q→∀ a,a∈l→Op.bytesLess q a.1=true
 | [],_,_=>⟨List.Pairwise.nil,fun _ _ _ h=>by cases h⟩
 | (a,b)::r,p,h=>by
  simp only [Bm,Bool.and_eq_true] at h;obtain ⟨_,_,h3,h4⟩:=h;obtain ⟨i1,i2⟩:=Y3 h4;refine ⟨List.pairwise_cons.2 ⟨fun x hx=>i2 a rfl x hx,i1⟩,fun q e x hx=>?_⟩;subst e;rcases List.mem_cons.1 hx with rfl | hx
  ·exact h3
  ·exact J1 h3 (i2 a rfl x hx)
theorem Aer:∀ {l:Als} {p:Option Str},Bm p l=true→∀ a,a∈l→Ff a.1=true∧He a.2=true
 | [],_,_,_,h=>by cases h
 | (a,b)::r,p,h,x,hx=>by
  simp only [Bm,Bool.and_eq_true] at h;rcases List.mem_cons.1 hx with rfl | hx
  ·exact ⟨h.1,h.2.1⟩
  ·exact Aer h.2.2.2 x hx
theorem Y2:∀ {l:Als} {p:Option Str} (i:Nat),Bm p l=true→Bm p (l.take i)=true
 | [],_,i,_=>by rw [List.take_nil];rfl
 | (a,b)::r,p,0,h=>rfl
 | (a,b)::r,p,i+1,h=>by
  simp only [Bm,Bool.and_eq_true,List.take_succ_cons] at h ⊢;exact ⟨h.1,h.2.1,h.2.2.1,Y2 i h.2.2.2⟩
theorem Vt {n v:Str} (z:Ff n=true) (D:He v=true):okA [(n,v)]:=⟨by simp [Bm,z,D],by simp⟩
theorem Avl {l:Als} (h:okA l) (i:Nat):okA (l.take i):=⟨Y2 i h.1,by rw [List.length_take];have:=h.2;omega⟩
theorem Akc {l:Als} (h:Bm none l=true) {i:Nat} (z:i < l.length):V.D.setA Op.bytesLess l[i].1 l[i].2 (l.take i)=l.take (i+1):=by
 have a:=(Y3 h).1;have:∀ x,x∈l.take i→Op.bytesLess x.1 l[i].1=true:=fun x I=>by
  obtain ⟨j,E,e⟩:=List.mem_iff_getElem.1 I;rw [List.length_take] at E;rw [List.getElem_take] at e;subst e;exact List.pairwise_iff_getElem.1 a j i tM z tM
 have e:=V.D.setA_app (lt:=Op.bytesLess) Ep J1 (n:=l[i].1) (v:=l[i].2) (l:=l.take i) (r:=[]) this;rw [List.append_nil] at e;rw [e,List.take_succ_eq_append_getElem z];rfl
theorem Fp {kd:Nat} {z ky D:Str} {al:Als} {ch:List T} (h:A8 (.nd kd z ky D al ch)) (E:kd=2):z=[]∧ky=[]∧al=[]∧ch=[]∧He D=true:=by
 have:=(On h.1).1;rw [Cc,if_pos E] at this;simp only [Bool.and_eq_true,decide_eq_true_eq,List.length_eq_zero_iff] at this;exact ⟨this.2.1,this.2.2.1,this.2.2.2.1,this.2.2.2.2,this.1⟩
theorem Ih {kd:Nat} {z ky D:Str} {al:Als} {ch:List T} (h:A8 (.nd kd z ky D al ch)) (E:kd≠2):kd=1∧Ff z=true∧D=[]∧okA al∧ch.length≤16:=by
 have:=(On h.1).1;rw [Cc,if_neg E,Cz] at this;simp only [Bool.and_eq_true,decide_eq_true_eq] at this;exact ⟨this.1,this.2.1,this.2.2.2.1,⟨this.2.2.2.2.2.2.1,this.2.2.2.2.1⟩,this.2.2.2.2.2.1⟩
theorem A8.el {z:Str} (h:Ff z=true):A8 (.nd 1 z [] [] [] []):=by
 refine ⟨?_,by show 1+deps []≤6;simp [deps],by show 1+sizs []≤64;simp [sizs]⟩;rw [okT,Bool.and_eq_true];refine ⟨?_,rfl⟩;show Cz 1 z [] [] [] []=true;simp [Cz,h,Bm,Dp]
theorem Rs.snoc {m:V.D.M} {x:Hd} {ht:HT} {t:T}:∀ {hs:List HT} {ts:List T},V.D.Rs m x hs ts→V.D.R m (some x) ht t→V.D.Rs m x (hs++[ht]) (ts++[t])
 | [],[],_,r=>⟨r,trivial⟩
 | [],_::_,h,_=>h.elim
 | _::_,[],h,_=>h.elim
 | h::hs,t'::ts,⟨a,b⟩,r=>⟨a,Rs.snoc b r⟩
theorem Tn:∀ {hs:List HT},(HT.alls hs).Nodup→(hs.map HT.x).Nodup
 | [],_=>List.nodup_nil
 | h::hs,n=>by
  rw [HT.alls,List.nodup_append] at n;rw [List.map_cons,List.nodup_cons];refine ⟨fun hm=>?_,Tn n.2.1⟩;obtain ⟨g,hg,e⟩:=List.mem_map.1 hm;refine n.2.2 h.x (HT.x_mem h) h.x ?_ rfl;rw [HT.alls_eq,List.mem_flatMap];exact ⟨g,hg,e ▸ HT.x_mem g⟩
theorem Zp:∀ l:List T,l.length≤sizs l
 | []=>Nat.zero_le _
 | t::l=>by rw [sizs,List.length_cons];have:=Zp l;have:=Mb t;omega
theorem mt_put {Z m5:V.D.M} {k:Hd} {nd:Nd} {hs:List HT} {z:HT} {t:T} {ts:List T} (mk:Z k=some { nd with ch:=hs.map HT.x }) (rs:V.D.Rs Z k hs ts) (hn:(k::HT.alls hs).Nodup) (r:V.D.R m5 none z t) (O:z.all.Nodup) (hf:∀ y,y∈z.all→Z y=none) (U:∀ y,y ∉ z.all→m5 y=Z y) :
  m5 k=some { nd with ch:=hs.map HT.x }∧z.x≠k∧∀ Y,Y=(m5.up k { nd with ch:=V.D.insH (hs.map HT.x) (hs.map HT.x).length z.x }).up z.x { (⟨t.kind,t.tag,t.attrs,t.text,none,z.ch.map HT.x⟩:Nd) with par:=some k } →
  Y k=some { nd with ch:=(hs++[z]).map HT.x }∧V.D.Rs Y k (hs++[z]) (ts++[t])∧(k::HT.alls (hs++[z])).Nodup∧∀ y,y≠k→y ∉ HT.alls (hs++[z])→Y y=Z y:=by
 have kn:k ∉ z.all:=fun h=>by have:=hf k h;rw [mk] at this;cases this
 have xk:z.x≠k:=fun e=>kn (e ▸ HT.x_mem z);refine ⟨(U k kn).trans mk,xk,fun Y e6=>?_⟩;have al:HT.alls (hs++[z])=HT.alls hs++z.all:=by rw [Ju,HT.alls,HT.alls,List.append_nil]
 have J:=List.nodup_cons.1 hn;have dj:∀ y,y∈HT.alls hs→y ∉ z.all:=fun y I E=>rs.live y I (hf y E);have v6:∀ y,y≠k→y≠z.x→Y y=m5 y:=fun y h1 E=>by rw [e6,_root_.Go.V.D.up_ne E,_root_.Go.V.D.up_ne h1]
 refine ⟨?_,?_,?_,fun y h1 E=>?_⟩
 ·rw [e6,_root_.Go.V.D.up_ne (Ne.symm xk),_root_.Go.V.D.up_eq];unfold V.D.insH;rw [List.take_length,List.drop_length,List.map_append];rfl
 ·refine Rs.snoc (rs.frame fun y I=>?_) ?_
  ·exact (v6 y (fun e=>J.1 (e ▸ I)) (fun e=>dj y I (e ▸ HT.x_mem z))).trans (U y (dj y I))
  ·obtain ⟨x,l⟩:=z;obtain ⟨kd,tg,ky,tx,aa,ch⟩:=t;obtain ⟨r1,r2⟩:=r;rw [HT.all,List.nodup_cons] at O;refine ⟨by rw [e6];exact _root_.Go.V.D.up_eq,r2.frame fun y I=>v6 y (fun e=>kn (by rw [HT.all];exact List.mem_cons_of_mem _ (e ▸ I))) (fun e=>O.1 (by rw [← show y=x from e];exact I))⟩
 ·rw [al];refine List.nodup_cons.2 ⟨fun h=>?_,?_⟩
  ·rcases List.mem_append.1 h with h | h
   ·exact J.1 h
   ·exact kn h
  ·exact List.nodup_append.2 ⟨J.2,O,fun a h b E e=>dj a h (e ▸ E)⟩
 ·rw [al,List.mem_append] at E;have h3:y ∉ z.all:=fun h=>E (Or.inr h);exact (v6 y h1 (fun e=>h3 (e ▸ HT.x_mem z))).trans (U y h3)
def MtOk (d:Nat) (m:V.D.M) (sl:List Sl) (b L:Nat) (t:T) (G:Fz) (h:H) (v:AV) (h':H):Prop:=∃ G' ht m' sl' b',v=.tup [hdA ht.x,iQ wQ 0]∧Dm h' G' d m' sl' b' (L+siz t)∧V.D.R m' none ht t∧ht.all.Nodup∧(∀ k,k∈ht.all→m k=none)∧(∀ k,k ∉ ht.all→m' k=m k)∧Stp (FP d b sl) h G h' G'∧∀ i,i < h.nx→FP d b' sl' i→FP d b sl i
def Mt37 (t:T):Prop:=∀ {d b L q1 q2:Nat} {h:H} {G:Fz} {m:V.D.M} {sl:List Sl} {x:List AV},Dm h G d m sl b L→L+siz t≤1000000→A8 t→RT G t x→h.m.get q1=some (d:Blk)→h.m.get q2=some (cQ [.fn (.func 37) [] [jQ q1 0,jQ q2 0]] 110)→¬ FP d b sl q1→¬ FP d b sl q2 →
 Ans ctx 37 [gQ x,jQ q1 0,jQ q2 0] h (MtOk d m sl b L t G h)
theorem mt_step {kd:Nat} {tg ky tx:List UInt8} {al:List (List UInt8 × List UInt8)} {ch:List T} (ih:∀ j (hj:j < ch.length),Mt37 ch[j]):Mt37 (.nd kd tg ky tx al ch):=by
 intro d b L q1 q2 h G m sl x D hL hv hr g1 g2 f1 f2;have x1:=hr.one;obtain ⟨a,c,cc,rfl,ha,hc,aK⟩:=hr;refine aO Tryz.f37 ?_;simp only [Tryz.f37];have p0:Gro h G ((h.new (cQ [iQ vQ kd,sQ tg,sQ ky,a,sQ tx,c] 36)).new (cQ [iQ uQ 0,iQ uQ 0] 50)):=(Stp.refl D.s).new.new;have D0:=D.gro p0;have l1:=Ah D.s.1 g1;have l2:=Ah D.s.1 g2;have i1:(q1=h.nx)=False:=eq_false tM;have r1:h.read q1 0 1=some [jQ d 0]:=(Ab g1).trans rfl;have o1:=ha.one;have o2:=hc.one
 by_cases hk:kd=2
 ·subst hk;obtain ⟨rfl,rfl,rfl,rfl,bb⟩:=Fp hv rfl;simp only [seval,go_sem,o1,o2,x1,l1,r1];rw [siz,sizs,Nat.add_zero] at hL;refine Ae (words D0 hL hv) fun v I ⟨k,ak,b',U,aw,q3,q4,q5,q6⟩=>?_;subst U;have lx:=q5.nx;simp only [Ac] at lx;have nF:¬ FP d b sl (h.nx+1):=fun E=>by have:=D.fp_lt _ E;omega
  have gz:=q5.gt p0.st.1 (i:=h.nx+1) (b:=cQ [iQ uQ 0,iQ uQ 0] 50) Au nF;simp only [seval,go_sem,gz];have n1:G (h.nx+1)=none:=D.s.none tM;have pz:Stp (fun i=>i=h.nx+1) I G (I.at (h.nx+1) (k:Blk)) G:=(Stp.refl q4.s).at (Or.inr rfl) (Ah q4.s.1 gz) n1;refine ⟨G,.nd k [],m.up k ⟨2,[],[],tx,none,[]⟩,ak,b',rfl,?_,⟨_root_.Go.V.D.up_eq,trivial⟩,by rw [HT.all,HT.alls];simp,fun k' ai=>?_,fun k' ai=>_root_.Go.V.D.up_ne fun e=>ai (by rw [e,HT.all];exact List.mem_cons_self ..),?_,fun i Y E=>q6 i (by simp only [Ac];omega) E⟩
  ·rw [siz,sizs,Nat.add_zero];exact q4.loc (pz.mono fun i Y E=>by subst Y;exact nF (q6 _ (by simp only [Ac];omega) E))
  ·rw [HT.all,HT.alls,List.mem_singleton] at ai;rw [ai];exact aw
  ·exact ((p0.mono fun _ h=>h.elim).in q5 (fun _ _ h=>h)).in pz (fun i Y E=>by omega)
 ·obtain ⟨rfl,aP,rfl,ae,ba⟩:=Ih hv hk;simp only [seval,go_sem,o1,o2,x1,l1,r1];refine Ae (element D0 (by rw [siz] at hL;omega) (A8.el aP)) fun v I ⟨k,O,b1,U,aw,q3,q4,q5,q6⟩=>?_;subst U;have lx:=q5.nx;simp only [Ac] at lx;have nF:∀ {i},h.nx≤i→i < h.nx+2∨I.nx≤i→¬ FP d b1 O i:=fun {i} h1 h3 E=>by
   by_cases h4:i < h.nx+2
   ·have:=D.fp_lt _ (q6 _ (by simp only [Ac];omega) E);omega
   ·have:=q4.fp_lt _ E;omega
  have aC:∀ {i},h.nx≤i→¬ FP d b sl i:=fun {i} h1 E=>by have:=D.fp_lt _ E;omega
  have gz:=q5.gt p0.st.1 (i:=h.nx+1) (b:=cQ [iQ uQ 0,iQ uQ 0] 50) Au (aC tM);have gx:=q5.gt p0.st.1 (i:=h.nx) (b:=cQ [iQ vQ (1:Nat),sQ tg,sQ ky,a,sQ [],c] 36) ((Bh (by simp only [Ac];omega)).trans Au) (aC tM);have gq1:=q5.gt p0.st.1 (p0.gt D.s.1 g1 (fun h=>h)) f1;have gq2:=q5.gt p0.st.1 (p0.gt D.s.1 g2 (fun h=>h)) f2;have F1:¬ FP d b1 O q1:=fun E=>f1 (q6 _ (by simp only [Ac];omega) E);have F2:¬ FP d b1 O q2:=fun E=>f2 (q6 _ (by simp only [Ac];omega) E);have aX:I.read h.nx 3 1=some [a]:=(Ab gx).trans rfl;have aU:h.nx < I.nx:=tM;have aJ:=ha.len;have pN:Gro I G ((I.new (cQ [iQ uQ 0,iQ uQ 0] 50)).at I.nx (k:Blk)):=((Stp.refl q4.s).new).at (Or.inl (Nat.le_refl _)) (by simp only [Ac];omega) (q4.s.none (Nat.le_refl _));have sS:∀ {i B},I.m.get i=some B→((I.new (cQ [iQ uQ 0,iQ uQ 0] 50)).at I.nx (k:Blk)).m.get i=some B:=fun {i B} e=>pN.gt q4.s.1 e (fun h=>h);have aF:((I.new (cQ [iQ uQ 0,iQ uQ 0] 50)).at I.nx (k:Blk)).read h.nx 3 1=some [a]:=(Ab (sS gx)).trans rfl;have gk:((I.new (cQ [iQ uQ 0,iQ uQ 0] 50)).at I.nx (k:Blk)).m.get I.nx=some (k:Blk):=Ap;have nS:((I.new (cQ [iQ uQ 0,iQ uQ 0] 50)).at I.nx (k:Blk)).nx=I.nx+1:=rfl;simp only [seval,go_sem,aF,aU,aJ];generalize hS:((I.new (cQ [iQ uQ 0,iQ uQ 0] 50)).at I.nx (k:Blk))=S at *;have D1:=q4.gro pN;have pS:Stp (FP d b sl) h G S G:=((p0.mono fun _ h=>h.elim).in q5 (fun _ _ h=>h)).in pN (fun _ _ h=>h.elim);have fS:∀ i,i < h.nx→FP d b1 O i→FP d b sl i:=fun i Y E=>q6 i (by simp only [Ac];omega) E;replace gx:=sS gx;replace gz:=sS gz;replace gq1:=sS gq1
  replace gq2:=sS gq2;clear sS aX aF lx hS pN q4 q5 q6 p0 D0;have aZ:=ae.2;refine Ao (fun i e h'=>(∃ G',Dm h' G' d (m.up k ⟨1,tg,al.take i,[],none,[]⟩) O b1 (L+1)∧Stp (FP d b1 O) S G h' G')∧i≤al.length∧e.get 1=some (jQ q1 0)∧e.get 2=some (jQ q2 0)∧e.get 3=some (jQ h.nx 0)∧e.get 4=some (jQ (h.nx+1) 0)∧e.get 6=some (jQ I.nx 0)∧e.get 35=some a∧e.get 36=some (iQ wQ al.length)∧e.get 37=some (iQ wQ i)) (fun i=>al.length - i) 0 ?_ ?_
  ·exact ⟨⟨G,D1,Stp.refl D1.s⟩,Nat.zero_le _,by simp [Tr.get_set]⟩
  rintro i e h3 ⟨⟨G3,D3,Z⟩,Y,e1,e2,e3,e4,e6,aa,ac,ag⟩ lp;simp only [seval,go_sem,aa,ac,ag];refine Cr (fun z=>?_) (fun z=>?_)
  ·have z:i < al.length:=by simpa using z
   have w:=wI i;have aT:=Z.le D1.s;obtain ⟨ab,ao,an,ap⟩:=Arr.attr Z.st (ha.mono aT) z;have pA:Gro h3 G3 ((h3.new (cQ [sQ [],sQ []] 112)).at h3.nx (cQ [sQ al[i].1,sQ al[i].2] 112)):=((Stp.refl D3.s).new).at (Or.inl (Nat.le_refl _)) (by simp only [Ac];omega) (D3.s.none (Nat.le_refl _));have l3:=Z.nx;have aR:=Z.gt D1.s.1 gq1 F1;have aS:=Z.gt D1.s.1 gk (nF tM tM);have ra:((h3.new (cQ [sQ [],sQ []] 112)).at h3.nx (cQ [sQ al[i].1,sQ al[i].2] 112)).read q1 0 1=some [jQ d 0]:=(Ab (pA.gt D3.s.1 aR (fun h=>h))).trans rfl;have rb:((h3.new (cQ [sQ [],sQ []] 112)).at h3.nx (cQ [sQ al[i].1,sQ al[i].2] 112)).read I.nx 0 2=some [iQ uQ k.ix,iQ uQ k.gen]:=(Ab (pA.gt D3.s.1 aS (fun h=>h))).trans rfl;simp only [seval,go_sem,e1,e2,e3,e4,e6,aa,ac,ag,an,Z.st.read ap,w,ra,rb];have am:=Aer ae.1 al[i] (List.getElem_mem z);have a6:=Akc ae.1 z;refine Ae (Su (D3.gro pA) _root_.Go.V.D.up_eq rfl (Avl ae i) (Vt am.1 am.2) (Y3 (Y2 i ae.1)).1 (by rw [a6,List.length_take];omega)) fun _ h4 ⟨U,G4,D4,p4⟩=>?_;subst U;simp only [seval,go_sem,e1,e2,e3,e4,e6,aa,ac,ag,w];refine lp (i+1) _ _ tM ⟨⟨G4,?_,(Z.trans (pA.mono fun _ h=>h.elim)).trans p4⟩,z,by simp [Tr.get_set,e1,e2,e3,e4,e6,aa,ac]⟩;rw [a6] at D4;have:(m.up k (⟨1,tg,al.take i,[],none,[]⟩:Nd)).up k ⟨1,tg,al.take (i+1),[],none,[]⟩=m.up k ⟨1,tg,al.take (i+1),[],none,[]⟩:=by
    funext y;unfold _root_.Go.V.D.M.up;split <;> rfl
   rw [← this];exact D4
  ·have z:al.length≤i:=by simpa using z
   have aq:i=al.length:=tM;subst aq;rw [List.take_length] at D3;have aQ:=Z.gt D1.s.1 gx (nF tM tM);have aE:h3.read h.nx 5 1=some [c]:=(Ab aQ).trans rfl;have aL:=hc.len;simp only [seval,go_sem,e3,aE,aL];replace gx:=Z.gt D1.s.1 gx (nF tM tM);replace gz:=Z.gt D1.s.1 gz (nF tM tM);replace gk:=Z.gt D1.s.1 gk (nF tM tM);replace gq1:=Z.gt D1.s.1 gq1 F1;replace gq2:=Z.gt D1.s.1 gq2 F2;have l3:=Z.nx;have aG:siz (.nd 1 tg ky [] al ch)=1+sizs ch:=rfl;refine Ao (fun i e h'=>(∃ G' hs m' ak b',Dm h' G' d m' ak b' (L+1+sizs (ch.take i))∧m' k=some ⟨1,tg,al,[],none,hs.map HT.x⟩∧V.D.Rs m' k hs (ch.take i)∧(k::HT.alls hs).Nodup∧(∀ y,y∈HT.alls hs→m y=none)∧(∀ y,y≠k→y ∉ HT.alls hs→m' y=m y)∧Stp (FP d b1 O) h3 G3 h' G'∧∀ i,i < h3.nx→FP d b' ak i→FP d b1 O i) ∧
    i≤ch.length∧e.get 1=some (jQ q1 0)∧e.get 2=some (jQ q2 0)∧e.get 3=some (jQ h.nx 0)∧e.get 4=some (jQ (h.nx+1) 0)∧e.get 6=some (jQ I.nx 0)∧e.get 50=some c∧e.get 51=some (iQ wQ ch.length)∧e.get 52=some (iQ wQ i)) (fun i=>ch.length - i) 0 ?_ ?_
   ·exact ⟨⟨G3,[],_,O,b1,D3,_root_.Go.V.D.up_eq,trivial,by rw [HT.alls];simp,fun y J=>(by rw [HT.alls] at J;cases J),fun y J _=>_root_.Go.V.D.up_ne J,Stp.refl D3.s,fun _ _ h=>h⟩,Nat.zero_le _,by simp [Tr.get_set,e1,e2,e3,e4,e6]⟩
   clear lp e1 e2 e3 e4 e6 aa ac ag e aE Y z;rintro i e h4 ⟨⟨G4,hs,m4,af,b4,D4,mk,rs,ar,az,au,p4,f4⟩,Y,e1,e2,e3,e4,e6,e50,e51,ah⟩ lp;simp only [seval,go_sem,e50,e51,ah];refine Cr (fun z=>?_) (fun z=>?_)
   ·have z:i < ch.length:=by simpa using z
    have w:=wI i;have aA:=(Z.le D1.s).trans (p4.le D3.s);obtain ⟨cb,co,cx,an,ap,rx⟩:=Arr.tree p4.st (hc.mono aA) (aK.mono aA) z;have l4:=p4.nx;have x6:=rx.len;have xo:=rx.one;have ov:=Gd x6;have a7:Aq 0 6 cx=some cx:=by rw [← x6];exact Aj
    have a8:=p4.gt D3.s.1 gq1 F1;have av:=p4.gt D3.s.1 gq2 F2;have kk:=p4.gt D3.s.1 gk (nF tM tM);have aW:h4.read q2 0 1=some [.fn (.func 37) [] [jQ q1 0,jQ q2 0]]:=(Ab av).trans rfl;have pA:Gro h4 G4 ((h4.new (cQ Aw 36)).at h4.nx (cQ cx 36)):=((Stp.refl D4.s).new).at (Or.inl (Nat.le_refl _)) (by simp only [Ac];omega) (D4.s.none (Nat.le_refl _));have aD:((h4.new (cQ Aw 36)).at h4.nx (cQ cx 36)).read q2 0 1=some [.fn (.func 37) [] [jQ q1 0,jQ q2 0]]:=(Ab (pA.gt D4.s.1 av (fun h=>h))).trans rfl;have aV:((h4.new (cQ Aw 36)).at h4.nx (cQ cx 36)).read h4.nx 0 6=some cx:=(Ab Ap).trans a7;simp only [seval,go_sem,e1,e2,e3,e4,e6,e50,e51,ah,an,p4.st.read ap,w,x6,xo,ov,a7,aW,aD,aV];have tk:=Ma z;have nA:∀ {i},i < h3.nx→¬ FP d b1 O i→¬ FP d b4 af i:=fun h1 I E=>I (f4 _ h1 E);have y1:=Ah D3.s.1 gq1;have y2:=Ah D3.s.1 gq2;refine Ae (ih i z (D4.gro pA) (by rw [aG] at hL;omega) (hv.ch (List.getElem_mem z)) rx (pA.gt D4.s.1 a8 (fun h=>h)) (pA.gt D4.s.1 av (fun h=>h)) (nA y1 F1) (nA y2 F2)) fun _ h5 ⟨G5,ht,m5,aI,b5,U,D5,r5,aM,ay,aN,p5,f5⟩=>?_;subst U;obtain ⟨aB,xk,put⟩:=mt_put (nd:=⟨1,tg,al,[],none,[]⟩) mk rs ar r5 aM ay aN;have aj:Stp (FP d b4 af) h4 G4 h5 G5:=(pA.mono fun _ h=>h.elim).trans p5;have ax:∀ i,i < h4.nx→FP d b5 aI i→FP d b4 af i:=fun i Y E=>f5 i (by simp only [Ac,Ag];omega) E;have l5:=aj.nx;have aY:=aj.gt D4.s.1 a8 (nA y1 F1);have zk:=aj.gt D4.s.1 kk (nA tM (nF tM tM));have pB:Gro h5 G5 ((h5.new (cQ [iQ uQ 0,iQ uQ 0] 50)).at h5.nx (cQ [iQ uQ ht.x.ix,iQ uQ ht.x.gen] 50)):=((Stp.refl D5.s).new).at (Or.inl (Nat.le_refl _)) (by simp only [Ac];omega) (D5.s.none (Nat.le_refl _))
    have w1:((h5.new (cQ [iQ uQ 0,iQ uQ 0] 50)).at h5.nx (cQ [iQ uQ ht.x.ix,iQ uQ ht.x.gen] 50)).read q1 0 1=some [jQ d 0]:=(Ab (pB.gt D5.s.1 aY (fun h=>h))).trans rfl;have w2:((h5.new (cQ [iQ uQ 0,iQ uQ 0] 50)).at h5.nx (cQ [iQ uQ ht.x.ix,iQ uQ ht.x.gen] 50)).read I.nx 0 2=some [iQ uQ k.ix,iQ uQ k.gen]:=(Ab (pB.gt D5.s.1 zk (fun h=>h))).trans rfl;have w3:((h5.new (cQ [iQ uQ 0,iQ uQ 0] 50)).at h5.nx (cQ [iQ uQ ht.x.ix,iQ uQ ht.x.gen] 50)).read h5.nx 0 2=some [iQ uQ ht.x.ix,iQ uQ ht.x.gen]:=(Ab Ap).trans rfl;simp only [seval,go_sem,e1,e2,e3,e4,e6,e50,e51,ah,w,w1,w2,w3];have a0:=rs.len;rw [List.length_take,Nat.min_eq_left tM] at a0;have aH:=Zp (ch.take i);rw [List.length_take,Nat.min_eq_left tM] at aH;refine Ae (Aan (ka:=⟨0,0⟩) (i:=(hs.map HT.x).length) (n:=0) (D5.gro pB) aB rfl r5.x.1 rfl (.top aB rfl (Ne.symm xk)) (Tn (List.nodup_cons.1 ar).2) (Or.inl ⟨rfl,rfl⟩) (Or.inl rfl) (by rw [List.length_map];omega)) fun _ h6 ⟨U,G6,D6,p6⟩=>?_;subst U;simp only [seval,go_sem,e1,e2,e3,e4,e6,e50,e51,ah,w];obtain ⟨u1,u2,u3,u4⟩:=put _ rfl;refine lp (i+1) _ _ tM ⟨⟨G6,hs++[ht],_,aI,b5,?_,u1,?_,u3,fun y J=>?_,fun y h1 I=>?_,?_,fun y J E=>f4 y J (ax y tM E)⟩,z,by simp [Tr.get_set,e1,e2,e3,e4,e6,e50,e51]⟩
    ·rw [tk.1,← Nat.add_assoc];exact D6
    ·rw [List.take_succ_eq_append_getElem z];exact u2
    ·rw [Ju,HT.alls,HT.alls,List.append_nil] at J;rcases List.mem_append.1 J with J | J
     ·exact az y J
     ·have e:=ay y J;rw [← au y (fun e2=>by rw [e2,mk] at e;cases e) (fun h=>rs.live y h e)];exact e
    ·rw [u4 y h1 I];rw [Ju,List.mem_append] at I;exact au y h1 fun h=>I (Or.inl h)
    ·exact ((p4.in aj (fun y J E=>f4 y J E)).trans (pB.mono fun _ h=>h.elim)).in p6 (fun y J E=>f4 y J (ax y tM E))
   ·have z:ch.length≤i:=by simpa using z
    have aq:i=ch.length:=tM;subst aq;rw [List.take_length] at D4 rs;have kk:=p4.gt D3.s.1 gk (nF tM tM);have kz:=p4.gt D3.s.1 gz (nF tM tM);have rk:h4.read I.nx 0 2=some [iQ uQ k.ix,iQ uQ k.gen]:=(Ab kk).trans rfl;simp only [seval,go_sem,e4,e6,rk,kz];have l4:=p4.nx;have n1:G4 (h.nx+1)=none:=by
     rw [p4.old _ tM,Z.old _ tM];exact D.s.none tM
    have pz:Stp (fun i=>i=h.nx+1) h4 G4 (h4.at (h.nx+1) (k:Blk)) G4:=(Stp.refl D4.s).at (Or.inr rfl) (Ah D4.s.1 kz) n1;have nz:¬ FP d b4 af (h.nx+1):=fun E=>nF tM tM (f4 _ tM E);refine ⟨G4,.nd k hs,m4,af,b4,rfl,?_,⟨mk,rs⟩,by rw [HT.all];exact ar,fun y J=>?_,fun y J=>?_,?_,fun i Y E=>fS i Y (f4 i tM E)⟩
    ·rw [aG,← Nat.add_assoc];exact D4.loc (pz.mono fun i Y E=>by subst Y;exact nz E)
    ·rw [HT.all] at J;rcases List.mem_cons.1 J with rfl | J
     ·exact aw
     ·exact az y J
    ·rw [HT.all,List.mem_cons] at J;exact au y (fun h=>J (Or.inl h)) (fun h=>J (Or.inr h))
    ·exact ((pS.in Z (fun i Y E=>fS i Y E)).in p4 (fun i Y E=>fS i Y E)).in pz (fun i Y E=>by omega)
mutual
theorem Avo:∀ t:T,Mt37 t
 | .nd kd tg ky tx al ch=>mt_step fun j hj=>mt_alls ch j hj
theorem mt_alls:∀ (l:List T) (j:Nat) (hj:j < l.length),Mt37 l[j]
 | t::l,0,_=>Avo t
 | t::l,j+1,hj=>mt_alls l j (Nat.lt_of_succ_lt_succ hj)
end
theorem Avq {t:T} {x:List AV} (D:Dm h G d m sl b L) (hL:L+siz t≤1000000) (hv:A8 t) (hr:RT G t x):Ans ctx 9 [jQ d 0,gQ x] h (MtOk d m sl b L t G h):=by
 have xo:=hr.one;have x6:=hr.len;have U:Aq 0 6 x=some x:=by rw [← x6];exact Aj
 refine aO Tryz.f9 ?_;simp only [Tryz.f9];have Y:Gro h G (((h.new d).new (cQ x 36)).new (cQ [iQ uQ 0,iQ uQ 0] 50)):=(Stp.refl D.s).new.new.new;have rx:(((h.new d).new (cQ x 36)).new (cQ [iQ uQ 0,iQ uQ 0] 50)).read (h.nx+1) 0 6=some x:=(Ab (b:=cQ x 36) gL).trans U;simp only [seval,go_sem,xo,x6,rx];refine Ae (Hl Y.st hr) fun _ z ⟨e1,p1⟩=>?_;subst e1;have w:=Gv hv;rw [if_neg w];have l1:=p1.nx;simp only [Ac] at l1;have Z:=Y.trans p1;have I:=D.gro Z;have b0:=p1.gt Y.st.1 (show (((h.new d).new (cQ x 36)).new (cQ [iQ uQ 0,iQ uQ 0] 50)).m.get h.nx=some (d:Blk) from gL) (fun h=>h);have b1:=p1.gt Y.st.1 (show (((h.new d).new (cQ x 36)).new (cQ [iQ uQ 0,iQ uQ 0] 50)).m.get (h.nx+1)=some (cQ x 36) from gL) (fun h=>h);have b2:=p1.gt Y.st.1 (show (((h.new d).new (cQ x 36)).new (cQ [iQ uQ 0,iQ uQ 0] 50)).m.get (h.nx+2)=some (cQ [iQ uQ 0,iQ uQ 0] 50) from gL) (fun h=>h);have J:Gro z G ((z.new (cQ [kQ .nilFunc] 110)).at z.nx (cQ [.fn (.func 37) [] [jQ h.nx 0,jQ z.nx 0]] 110)):=((Stp.refl I.s).new).at (Or.inl (Nat.le_refl _)) (by simp only [Ac];omega) (I.s.none (Nat.le_refl _));have c1:((z.new (cQ [kQ .nilFunc] 110)).at z.nx (cQ [.fn (.func 37) [] [jQ h.nx 0,jQ z.nx 0]] 110)).read (h.nx+1) 0 6=some x:=(Ab (J.gt I.s.1 b1 (fun h=>h))).trans U;have c0:=J.gt I.s.1 b0 (fun h=>h);have c2:=J.gt I.s.1 b2 (fun h=>h);have cS:((z.new (cQ [kQ .nilFunc] 110)).at z.nx (cQ [.fn (.func 37) [] [jQ h.nx 0,jQ z.nx 0]] 110)).m.get z.nx=some (cQ [.fn (.func 37) [] [jQ h.nx 0,jQ z.nx 0]] 110):=Ap;simp only [seval,go_sem,c1]
 have nS:((z.new (cQ [kQ .nilFunc] 110)).at z.nx (cQ [.fn (.func 37) [] [jQ h.nx 0,jQ z.nx 0]] 110)).nx=z.nx+1:=rfl;generalize hS:((z.new (cQ [kQ .nilFunc] 110)).at z.nx (cQ [.fn (.func 37) [] [jQ h.nx 0,jQ z.nx 0]] 110))=S at *;have nF:∀ {i},h.nx≤i→¬ FP d b sl i:=fun {i} z E=>by have:=D.fp_lt _ E;omega
 refine Ae (Avo t (I.gro J) hL hv (hr.mono Fz.Le.refl) c0 cS (nF (Nat.le_refl _)) (nF tM)) fun _ h2 ⟨G2,ht,m2,aa,O,q,D2,r2,hn,hf,hs,p2,f2⟩=>?_;subst q;have g2:=p2.gt J.st.1 c2 (nF tM);simp only [seval,go_sem,g2];have n1:G2 (h.nx+2)=none:=by rw [p2.old _ tM];exact D.s.none tM
 have pz:Stp (fun i=>i=h.nx+2) h2 G2 (h2.at (h.nx+2) (cQ [iQ uQ ht.x.ix,iQ uQ ht.x.gen] 50)) G2:=(Stp.refl D2.s).at (Or.inr rfl) (Ah D2.s.1 g2) n1;have nz:¬ FP d O aa (h.nx+2):=fun E=>nF tM (f2 _ tM E);exact ⟨G2,ht,m2,aa,O,rfl,D2.loc (pz.mono fun i hi E=>by subst hi;exact nz E),r2,hn,hf,hs,(((Z.trans J).mono fun _ h=>h.elim).in p2 (fun _ _ h=>h)).in pz (fun i hi E=>by omega),fun i hi E=>f2 i tM E⟩
end
section
variable {h h':H} {G G':Fz} {d b L p q:Nat} {m:D.M} {sl:List Sl} {k k1 k2:Hd}
theorem at203 {v:AV} {i n q o:Nat} {x y:Int} (s:St h G) (E:Db v=some n) (J:i < n) (I:ixA 2 i v=some (jQ q o)) (D:h.read q o 2=some [iQ uQ x,iQ uQ y]):Ans ctx 203 [v,iQ wQ i] h fun w h'=>w=gQ [iQ uQ x,iQ uQ y]∧Gro h G h':=by
 refine aO Tryz.f203 ?_;simp only [Tryz.f203];have c:decide ((i:Int) < (n:Int))=true:=decide_eq_true tM;have z:(h.new (cQ [iQ uQ 0,iQ uQ 0] 50)).read q o 2=some [iQ uQ x,iQ uQ y]:=by rw [Bc (by have:=Cq s.1 D;omega)];exact D
 simp only [seval,go_sem,E,c,I,z];exact ((Stp.refl s).new).at (Or.inl (Nat.le_refl _)) (by simp only [Ac];omega) (s.none (Nat.le_refl _))
theorem Ayg {v:AV} {i n:Nat} (s:St h G) (z:Db v=some n) (D:n≤i):Ans ctx 203 [v,iQ wQ i] h fun w h'=>w=hdA ⟨0,0⟩∧Gro h G h':=by
 refine aO Tryz.f203 ?_;simp only [Tryz.f203];have c:decide ((i:Int) < (n:Int))=false:=decide_eq_false tM;simp only [seval,go_sem,z,c];exact ⟨rfl,((Stp.refl s).new).at (Or.inl (Nat.le_refl _)) (by simp only [Ac];omega) (s.none (Nat.le_refl _))⟩
theorem Hk {nd:Nd} (D:Dm h G d m sl b L) (a:Ad sl k p) (hm:m k=some nd) (Y:h.read q 0 1=some [jQ d 0]):Ans ctx 111 [jQ q 0,hdA k] h fun v h'=>∃ G',Stp (fun _=>False) h G h' G'∧Ja h' G' h.nx 50 2 v nd.ch.length (hdC nd.ch):=by
 refine aO Tryz.f111 ?_;simp only [Tryz.f111];have U:Gro h G ((h.new k).up 12):=(Stp.refl D.s).new.up;obtain ⟨_,z,e1,G1,av,cv,rfl,E,ax,J⟩:=look (D.gro U) a hm;have g0:=E.gt U.st.1 (i:=h.nx) (b:=(k:Blk)) Au (fun h=>h);have O:(h.new k).read q 0 1=some [jQ d 0]:=by rw [Bc (by have:=Cq D.s.1 Y;omega)];exact Y
 have r1:z.read q 0 1=some [jQ d 0]:=E.rs U.st.1 O (fun h=>h);have rk:z.read h.nx 0 2=some [iQ uQ k.ix,iQ uQ k.gen]:=(Ab g0).trans rfl;have o1:=ax.one;have o2:=J.one;have l1:=E.nx;simp only [Ac,Ai] at l1;have n1:(q=h.nx)=False:=eq_false (by have:=Cq D.s.1 Y;omega);have n2:(h.nx=h.nx+1+9)=False:=eq_false tM;simp only [seval,go_sem,Y,O,r1,rk,e1,o1,o2,n1,n2];generalize hA:(Blk.cells [AV.int IntKind.u8 0,AV.str [],AV.raw (Value.slice none 0 0),AV.str [],AV.int IntKind.i64 0,AV.int IntKind.i64 0,AV.bool false,AV.int IntKind.u32 0,AV.int IntKind.u32 0,AV.raw (Value.slice none 0 0)] 55)=A;generalize hB:(Blk.cells _ 55)=B;have Z:=U.trans E;have I:G1 (h.nx+10)=none:=(E.old _ (by simp only [Ac,Ai];omega)).trans (D.s.none tM);have p2:Stp (fun i=>i=h.nx+10) z G1 ((z.at (h.nx+10) A).at (h.nx+10) B) G1:=((Stp.refl (W:=fun i=>i=h.nx+10) E.st).at (Or.inr rfl) tM I).at (Or.inr rfl) (by simp only [Ag];omega) I;refine ⟨G1,Z.in p2 (fun i hi hh=>by omega),?_⟩;simp only [Ac,Ai] at J;rcases J with J | ⟨q',x1,x2,x3,x4⟩
 ·exact Or.inl J
 ·refine Or.inr ⟨q',tM,x2,x3,?_⟩;have e:((z.at (h.nx+10) A).at (h.nx+10) B).m.get q' = z.m.get q':=(An tM).trans (An tM);rw [e];exact x4
theorem Tj {e:Env} {ps:List (Nat × Operand)}:Dn ctx e h 254 ps=match evp e ps with
  | some vs=>aggR h (lay (fun i=>some (i,1)) [kQ .nilFunc,kQ .nilFunc,kQ .nilFunc,kQ .nilFunc,kQ .nilFunc,kQ .nilFunc,kQ .nilFunc,kQ .nilFunc] vs)
  | none=>none:=by
 unfold Dn;rw [Aqa,Aqu];cases evp e ps with
 | none=>rfl
 | some vs=>simp only [Aua,Nat.mul_one];rfl
theorem does_1:FW ctx 112 [jQ q 0,iQ vQ 1] h=some (.fn (.func 163) [] [jQ h.nx 0],h.new (cQ [jQ q 0] 124)):=by
 have x:Ans ctx 112 [jQ q 0,iQ vQ 1] h fun w h'=>w=.fn (.func 163) [] [jQ h.nx 0]∧h' = h.new (cQ [jQ q 0] 124):=by
  refine aO Tryz.f112 ?_;simp only [Tryz.f112];simp only [seval,go_sem,Tj,Q8]
 obtain ⟨_,_,e,rfl,rfl⟩:=x;exact e
theorem does_2:FW ctx 112 [jQ q 0,iQ vQ 2] h=some (.fn (.func 165) [] [jQ h.nx 0],h.new (cQ [jQ q 0] 124)):=by
 have x:Ans ctx 112 [jQ q 0,iQ vQ 2] h fun w h'=>w=.fn (.func 165) [] [jQ h.nx 0]∧h' = h.new (cQ [jQ q 0] 124):=by
  refine aO Tryz.f112 ?_;simp only [Tryz.f112];simp only [seval,go_sem,Tj,Q8]
 obtain ⟨_,_,e,rfl,rfl⟩:=x;exact e
theorem does_3:FW ctx 112 [jQ q 0,iQ vQ 3] h=some (.fn (.func 166) [] [jQ h.nx 0],h.new (cQ [jQ q 0] 124)):=by
 have x:Ans ctx 112 [jQ q 0,iQ vQ 3] h fun w h'=>w=.fn (.func 166) [] [jQ h.nx 0]∧h' = h.new (cQ [jQ q 0] 124):=by
  refine aO Tryz.f112 ?_;simp only [Tryz.f112];simp only [seval,go_sem,Tj,Q8]
 obtain ⟨_,_,e,rfl,rfl⟩:=x;exact e
theorem does_4:FW ctx 112 [jQ q 0,iQ vQ 4] h=some (.fn (.func 168) [] [jQ h.nx 0],h.new (cQ [jQ q 0] 124)):=by
 have x:Ans ctx 112 [jQ q 0,iQ vQ 4] h fun w h'=>w=.fn (.func 168) [] [jQ h.nx 0]∧h' = h.new (cQ [jQ q 0] 124):=by
  refine aO Tryz.f112 ?_;simp only [Tryz.f112];simp only [seval,go_sem,Tj,Q8]
 obtain ⟨_,_,e,rfl,rfl⟩:=x;exact e
theorem does_5:FW ctx 112 [jQ q 0,iQ vQ 5] h=some (.fn (.func 170) [jQ q 0] [],h.new (cQ [jQ q 0] 124)):=by
 have x:Ans ctx 112 [jQ q 0,iQ vQ 5] h fun w h'=>w=.fn (.func 170) [jQ q 0] []∧h' = h.new (cQ [jQ q 0] 124):=by
  refine aO Tryz.f112 ?_;simp only [Tryz.f112];simp only [seval,go_sem,Tj,Q8]
 obtain ⟨_,_,e,rfl,rfl⟩:=x;exact e
theorem does_6:FW ctx 112 [jQ q 0,iQ vQ 6] h=some (.fn (.func 171) [jQ q 0] [],h.new (cQ [jQ q 0] 124)):=by
 have x:Ans ctx 112 [jQ q 0,iQ vQ 6] h fun w h'=>w=.fn (.func 171) [jQ q 0] []∧h' = h.new (cQ [jQ q 0] 124):=by
  refine aO Tryz.f112 ?_;simp only [Tryz.f112];simp only [seval,go_sem,Tj,Q8]
 obtain ⟨_,_,e,rfl,rfl⟩:=x;exact e
abbrev spC (op:Nat) (pv:AV) (nm vl:Str) (a t:Int) (tr:List AV):List AV:=iQ vQ op::pv::sQ nm::sQ vl::iQ wQ a::iQ wQ t::tr
theorem drop163 {U:Nat} {op:Nat} {E:AV} {nm I:Str} {a t:Int} {z:List AV} {nd:Nd} (D:Dm h G d m sl b L) (hm:m k=some nd) (hk:nd.kind=1) (aa:okA nd.attrs) (ab:okA [(nm,[])]) (Y:V.D.AscA Op.bytesLess nd.attrs) (hn:nm∈nd.attrs.map (·.1))
  (g0:h.m.get U=some (cQ [jQ q 0] 124)) (r1:h.read q 0 1=some [jQ d 0]) (f0:¬ FP d b sl U) (f1:¬ FP d b sl q) (hp:C9 E=true) (ac:z.length=6) (ho:Af z=true) :
  Ans ctx 163 [hdA k,gQ (spC op E nm I a t z),jQ U 0] h fun x h'=>x=iQ wQ 0∧∃ G',Dm h' G' d (m.up k { nd with attrs:=V.D.drpA nm nd.attrs }) sl b L∧Stp (FP d b sl) h G h' G':=by
 refine aO Tryz.f163 ?_;simp only [Tryz.f163];have J:Gro h G (((h.new k).new (cQ (spC op E nm I a t z) 189)).up 9):=(Stp.refl D.s).new.new.up;obtain ⟨_,h1,e1,rfl,G1,D1,O⟩:=Abb (D.gro J) hm hk aa ab Y hn;have l0:=Ah D.s.1 g0;have r0:h.read U 0 1=some [jQ q 0]:=(Ab g0).trans rfl;have lq:=Cq D.s.1 r1;have Z:∀ {i},h.nx≤i→¬ FP d b sl i:=fun {i} h1 hh=>by have:=D.fp_lt _ hh;omega
 have s0:((h.new k).new (cQ (spC op E nm I a t z) 189)).read U 0 1=some [jQ q 0]:=by rw [Bc (by simp only [Ac];omega),Bc tM];exact r0
 have s1:((h.new k).new (cQ (spC op E nm I a t z) 189)).read q 0 1=some [jQ d 0]:=by rw [Bc (by simp only [Ac];omega),Bc tM];exact r1
 have gk:((h.new k).new (cQ (spC op E nm I a t z) 189)).m.get h.nx=some (k:Blk):=gL;have gs:=lG gk (h.nx+1) (cQ (spC op E nm I a t z) 189);have sk:((h.new k).new (cQ (spC op E nm I a t z) 189)).read h.nx 0 2=some [iQ uQ k.ix,iQ uQ k.gen]:=(Ab gk).trans rfl;have s2:((h.new k).new (cQ (spC op E nm I a t z) 189)).read (h.nx+1) 2 1=some [sQ nm]:=(Ab gs).trans rfl;have s3:((h.new k).new (cQ (spC op E nm I a t z) 189)).read (h.nx+1) 3 1=some [sQ I]:=(Ab gs).trans rfl;have t0:=O.rs J.st.1 (i:=U) s0 f0;have t1:=O.rs J.st.1 (i:=q) s1 f1;have tk:=O.rs J.st.1 (i:=h.nx) sk (Z tM);have t2:=O.rs J.st.1 (i:=h.nx+1) s2 (Z tM);have t3:=O.rs J.st.1 (i:=h.nx+1) s3 (Z tM);simp only [seval,go_sem,hp,ho,s0,s1,sk,s2,s3,t0,t1,tk,t2,t3,e1];exact ⟨G1,D1,(J.mono fun _ h=>h.elim).in O (fun _ _ h=>h)⟩
theorem set165 {U:Nat} {op:Nat} {I:AV} {nm z:Str} {a t:Int} {E:List AV} {nd:Nd} (D:Dm h G d m sl b L) (hm:m k=some nd) (hk:nd.kind=1) (aa:okA nd.attrs) (ab:okA [(nm,z)]) (Y:V.D.AscA Op.bytesLess nd.attrs) (h8:(V.D.setA Op.bytesLess nm z nd.attrs).length≤8)
  (g0:h.m.get U=some (cQ [jQ q 0] 124)) (r1:h.read q 0 1=some [jQ d 0]) (f0:¬ FP d b sl U) (f1:¬ FP d b sl q) (hp:C9 I=true) (ac:E.length=6) (ho:Af E=true) :
  Ans ctx 165 [hdA k,gQ (spC op I nm z a t E),jQ U 0] h fun x h'=>x=iQ wQ 0∧∃ G',Dm h' G' d (m.up k { nd with attrs:=V.D.setA Op.bytesLess nm z nd.attrs }) sl b L∧Stp (FP d b sl) h G h' G':=by
 refine aO Tryz.f165 ?_;simp only [Tryz.f165];have J:Gro h G (((h.new k).new (cQ (spC op I nm z a t E) 189)).up 11):=(Stp.refl D.s).new.new.up;obtain ⟨_,h1,e1,rfl,G1,D1,O⟩:=Su (D.gro J) hm hk aa ab Y h8;have l0:=Ah D.s.1 g0;have r0:h.read U 0 1=some [jQ q 0]:=(Ab g0).trans rfl;have lq:=Cq D.s.1 r1;have Z:∀ {i},h.nx≤i→¬ FP d b sl i:=fun {i} h1 hh=>by have:=D.fp_lt _ hh;omega
 have s0:((h.new k).new (cQ (spC op I nm z a t E) 189)).read U 0 1=some [jQ q 0]:=by rw [Bc (by simp only [Ac];omega),Bc tM];exact r0
 have s1:((h.new k).new (cQ (spC op I nm z a t E) 189)).read q 0 1=some [jQ d 0]:=by rw [Bc (by simp only [Ac];omega),Bc tM];exact r1
 have gk:((h.new k).new (cQ (spC op I nm z a t E) 189)).m.get h.nx=some (k:Blk):=gL;have gs:=lG gk (h.nx+1) (cQ (spC op I nm z a t E) 189);have sk:((h.new k).new (cQ (spC op I nm z a t E) 189)).read h.nx 0 2=some [iQ uQ k.ix,iQ uQ k.gen]:=(Ab gk).trans rfl;have s2:((h.new k).new (cQ (spC op I nm z a t E) 189)).read (h.nx+1) 2 1=some [sQ nm]:=(Ab gs).trans rfl;have s3:((h.new k).new (cQ (spC op I nm z a t E) 189)).read (h.nx+1) 3 1=some [sQ z]:=(Ab gs).trans rfl;have t0:=O.rs J.st.1 (i:=U) s0 f0;have t1:=O.rs J.st.1 (i:=q) s1 f1;have tk:=O.rs J.st.1 (i:=h.nx) sk (Z tM);have t2:=O.rs J.st.1 (i:=h.nx+1) s2 (Z tM);have t3:=O.rs J.st.1 (i:=h.nx+1) s3 (Z tM);simp only [seval,go_sem,hp,ho,s0,s1,sk,s2,s3,t0,t1,tk,t2,t3,e1];exact ⟨G1,D1,(J.mono fun _ h=>h.elim).in O (fun _ _ h=>h)⟩
theorem text166 {U:Nat} {op:Nat} {I:AV} {nm z:Str} {a t:Int} {E:List AV} {nd:Nd} (D:Dm h G d m sl b L) (hm:m k=some nd) (hk:nd.kind=2) (ht:He z=true)
  (Z:h.m.get U=some (cQ [jQ q 0] 124)) (r1:h.read q 0 1=some [jQ d 0]) (f0:¬ FP d b sl U) (f1:¬ FP d b sl q) (hp:C9 I=true) (aa:E.length=6) (ho:Af E=true) :
  Ans ctx 166 [hdA k,gQ (spC op I nm z a t E),jQ U 0] h fun x h'=>x=iQ wQ 0∧∃ G',Dm h' G' d (m.up k { nd with text:=z }) sl b L∧Stp (FP d b sl) h G h' G':=by
 refine aO Tryz.f166 ?_;simp only [Tryz.f166];have J:Gro h G (((h.new k).new (cQ (spC op I nm z a t E) 189)).up 9):=(Stp.refl D.s).new.new.up;obtain ⟨_,h1,e1,rfl,G1,D1,O⟩:=Acf (D.gro J) hm hk ht;have l0:=Ah D.s.1 Z;have r0:h.read U 0 1=some [jQ q 0]:=(Ab Z).trans rfl;have lq:=Cq D.s.1 r1;have Y:∀ {i},h.nx≤i→¬ FP d b sl i:=fun {i} h1 hh=>by have:=D.fp_lt _ hh;omega
 have s0:((h.new k).new (cQ (spC op I nm z a t E) 189)).read U 0 1=some [jQ q 0]:=by rw [Bc (by simp only [Ac];omega),Bc tM];exact r0
 have s1:((h.new k).new (cQ (spC op I nm z a t E) 189)).read q 0 1=some [jQ d 0]:=by rw [Bc (by simp only [Ac];omega),Bc tM];exact r1
 have gk:((h.new k).new (cQ (spC op I nm z a t E) 189)).m.get h.nx=some (k:Blk):=gL;have gs:=lG gk (h.nx+1) (cQ (spC op I nm z a t E) 189);have sk:((h.new k).new (cQ (spC op I nm z a t E) 189)).read h.nx 0 2=some [iQ uQ k.ix,iQ uQ k.gen]:=(Ab gk).trans rfl;have s2:((h.new k).new (cQ (spC op I nm z a t E) 189)).read (h.nx+1) 2 1=some [sQ nm]:=(Ab gs).trans rfl;have s3:((h.new k).new (cQ (spC op I nm z a t E) 189)).read (h.nx+1) 3 1=some [sQ z]:=(Ab gs).trans rfl;have t0:=O.rs J.st.1 (i:=U) s0 f0;have t1:=O.rs J.st.1 (i:=q) s1 f1;have tk:=O.rs J.st.1 (i:=h.nx) sk (Y tM);have t2:=O.rs J.st.1 (i:=h.nx+1) s2 (Y tM);have t3:=O.rs J.st.1 (i:=h.nx+1) s3 (Y tM);simp only [seval,go_sem,hp,ho,s0,s1,sk,s2,s3,t0,t1,tk,t2,t3,e1];exact ⟨G1,D1,(J.mono fun _ h=>h.elim).in O (fun _ _ h=>h)⟩
theorem Ja.el {h:H} {G:Fz} {lo i:Nat} {v:AV} {l:List Hd} {c:Hd} (oc:Ja h G lo 50 2 v l.length (hdC l)) (Z:l[i]?=some c) :
  ∃ z,lo≤z∧G z = none∧v=.sl z 0 l.length l.length∧h.m.get z = some (oQ (hdC l) l.length 50 2)∧ixA 2 i v=some (jQ z (i * 2))∧h.read z (i * 2) 2=some [iQ uQ c.ix,iQ uQ c.gen]:=by
 obtain ⟨D,I⟩:=List.getElem?_eq_some_iff.1 Z;rcases oc with ⟨_,e,_⟩ | ⟨z,O,J,U,E⟩
 ·omega
 ·rcases E with ⟨e,_⟩ | ⟨E,Y⟩
  ·omega
  ·refine ⟨z,O,U,J,E,?_,?_⟩
   ·rw [J,Ed D,Nat.zero_add]
   ·rw [Ab E,Ha,Bw,if_pos (by rw [Y];omega),Gq,List.drop_eq_getElem_cons D,I];rfl
theorem free168 {Z op i:Nat} {I:AV} {nm O:Str} {J:Int} {E:List AV} {nd:Nd} {ht:HT} {t:T} (D:Dm h G d m sl b L) (hm:m k=some nd) (hi:nd.ch[i]?=some ht.x) (hn:nd.ch.Nodup) (r:V.D.R m (some k) ht t) (ac:ht.all.Nodup) (ab:k ∉ ht.all) (hs:siz t≤100000)
  (g0:h.m.get Z=some (cQ [jQ q 0] 124)) (r1:h.read q 0 1=some [jQ d 0]) (f0:¬ FP d b sl Z) (f1:¬ FP d b sl q) (hp:C9 I=true) (af:E.length=6) (ho:Af E=true) :
  Ans ctx 168 [hdA k,gQ (spC op I nm O i J E),jQ Z 0] h fun x h'=>x=iQ wQ 0∧∃ G' aa,Dm h' G' d (fun x=>if x∈ht.all then none else if x=k then some { nd with ch:=V.D.delI nd.ch i } else m x) aa b L∧Stp (FP d b sl) h G h' G'∧∀ i,FP d b aa i→FP d b sl i:=by
 refine aO Tryz.f168 ?_;simp only [Tryz.f168];have U:Gro h G (((h.new k).new (cQ (spC op I nm O i J E) 189)).up 13):=(Stp.refl D.s).new.new.up;obtain ⟨p,a⟩:=D.all k (by rw [hm];exact Option.some_ne_none _);have l0:=Ah D.s.1 g0;have r0:h.read Z 0 1=some [jQ q 0]:=(Ab g0).trans rfl;have lq:=Cq D.s.1 r1;have nF:∀ {i},h.nx≤i→¬ FP d b sl i:=fun {i} h1 hh=>by have:=D.fp_lt _ hh;omega
 have s0:((h.new k).new (cQ (spC op I nm O i J E) 189)).read Z 0 1=some [jQ q 0]:=by rw [Bc (by simp only [Ac];omega),Bc tM];exact r0
 have s1:((h.new k).new (cQ (spC op I nm O i J E) 189)).read q 0 1=some [jQ d 0]:=by rw [Bc (by simp only [Ac];omega),Bc tM];exact r1
 obtain ⟨v,h1,e1,G1,z,oc⟩:=Hk (q:=q) (D.gro U) a hm s1;have D1:=(D.gro U).gro z;obtain ⟨q',y1,y2,rfl,y3,y4,y5⟩:=oc.el hi;simp only [Ac,Ai] at y1;obtain ⟨_,h2,e2,rfl,G2,ae,D2,Y,f2⟩:=drop169 D1 r hm hi hn ac ab hs;have gk:((h.new k).new (cQ (spC op I nm O i J E) 189)).m.get h.nx=some (k:Blk):=gL;have gs:=lG gk (h.nx+1) (cQ (spC op I nm O i J E) 189);have sk:((h.new k).new (cQ (spC op I nm O i J E) 189)).read h.nx 0 2=some [iQ uQ k.ix,iQ uQ k.gen]:=(Ab gk).trans rfl;have s2:((h.new k).new (cQ (spC op I nm O i J E) 189)).read (h.nx+1) 4 1=some [iQ wQ i]:=(Ab gs).trans rfl;have u0:=z.rs U.st.1 (i:=Z) s0 (fun h=>h);have u1:=z.rs U.st.1 (i:=q) s1 (fun h=>h);have uk:=z.rs U.st.1 (i:=h.nx) sk (fun h=>h);have u2:=z.rs U.st.1 (i:=h.nx+1) s2 (fun h=>h);have w0:=Y.rs z.st.1 u0 f0;have w1:=Y.rs z.st.1 u1 f1;have wk:=Y.rs z.st.1 uk (nF tM);have w2:=Y.rs z.st.1 u2 (nF tM);have w5:=Y.rs z.st.1 y5 (nF tM);simp only [seval,go_sem,hp,ho,s0,s1,sk,s2,u0,u1,uk,u2,w0,w1,wk,w2,w5,e1,e2,y4,y5];exact ⟨G2,ae,D2,((U.trans z).mono fun _ h=>h.elim).in Y (fun _ _ h=>h),f2⟩
end
section
variable {h h':H} {G G':Fz} {d b L p q:Nat} {m:D.M} {sl:List Sl} {k k1 k2:Hd}
theorem Aqr {m m2:V.D.M} {y:Hd}:∀ {n:Nat} {k:Hd},V.D.Up m n k→(∀ x,m x≠none→m2 x=m x∧x≠y)→ChN m2 y n k
 | _,_,.root e hp,f=>.top (((f _ (by rw [e];exact Option.some_ne_none _)).1).trans e) hp (f _ (by rw [e];exact Option.some_ne_none _)).2
 | _,_,.step e hp u,f=>.up (((f _ (by rw [e];exact Option.some_ne_none _)).1).trans e) hp (f _ (by rw [e];exact Option.some_ne_none _)).2 (Aqr u f)
theorem mt_r {O:V.D.M} {k:Hd} {X:Nd} {z:HT} {t:T} (r:V.D.R O none z t) (E:z.all.Nodup) (J:k ∉ z.all) :
  V.D.R ((O.up k X).up z.x { (⟨t.kind,t.tag,t.attrs,t.text,none,z.ch.map HT.x⟩:Nd) with par:=some k }) (some k) z t:=by
 obtain ⟨x,l⟩:=z;obtain ⟨kd,Z,ky,tx,U,ch⟩:=t;obtain ⟨Y,r2⟩:=r;rw [HT.all,List.nodup_cons] at E;rw [HT.all,List.mem_cons] at J;exact ⟨_root_.Go.V.D.up_eq,r2.frame fun y I=>by
  rw [_root_.Go.V.D.up_ne (show y≠(HT.nd x l).x from fun e=>E.1 (by rw [← show y=x from e];exact I)),_root_.Go.V.D.up_ne (show y≠k from fun e=>J (Or.inr (e ▸ I)))]⟩
theorem Avr {op j n:Nat} {Y:AV} {nm vl:Str} {Z:Int} {tr:List AV} {nd:Nd} {t:T} (D:Dm h G d m sl b L) (hm:m k=some nd) (hk:nd.kind=1) (hn:nd.ch.Nodup) (hj:j≤nd.ch.length) (hu:V.D.Up m n k) (hc:∀ c,c∈nd.ch→m c≠none) (hv:A8 t) (hr:RT G t tr) (hL:L+siz t≤1000000)
  (r1:h.read q 0 1=some [jQ d 0]) (f1:¬ FP d b sl q) (hp:C9 Y=true) :
  Ans ctx 170 [jQ q 0,hdA k,gQ (spC op Y nm vl Z j tr)] h fun x h'=>x=iQ wQ 0∧∃ G' am b' z m',V.D.Mtd m k nd j t z m'∧Dm h' G' d m' am b' (L+siz t)∧Stp (FP d b sl) h G h' G'∧∀ i,i < h.nx→FP d b' am i→FP d b sl i:=by
 refine aO Tryz.f170 ?_;simp only [Tryz.f170];have ho:=hr.one;have ai:=hr.len;have p0:Gro h G (((h.new k).new (cQ (spC op Y nm vl Z j tr) 189)).up 13):=(Stp.refl D.s).new.new.up;have lq:=Cq D.s.1 r1;have nF:∀ {i},h.nx≤i→¬ FP d b sl i:=fun {i} I O=>by have:=D.fp_lt _ O;omega
 have s1:((h.new k).new (cQ (spC op Y nm vl Z j tr) 189)).read q 0 1=some [jQ d 0]:=by rw [Bc (by simp only [Ac];omega),Bc tM];exact r1
 have gk:((h.new k).new (cQ (spC op Y nm vl Z j tr) 189)).m.get h.nx=some (k:Blk):=gL;have gs:=lG gk (h.nx+1) (cQ (spC op Y nm vl Z j tr) 189);have sk:((h.new k).new (cQ (spC op Y nm vl Z j tr) 189)).read h.nx 0 2=some [iQ uQ k.ix,iQ uQ k.gen]:=(Ab gk).trans rfl;have s2:((h.new k).new (cQ (spC op Y nm vl Z j tr) 189)).read (h.nx+1) 5 1=some [iQ wQ j]:=(Ab gs).trans rfl;have sx:((h.new k).new (cQ (spC op Y nm vl Z j tr) 189)).read (h.nx+1) 6 6=some tr:=(Ab gs).trans (by show Aq 0 6 tr=_;rw [← ai];exact Aj);obtain ⟨_,I,e1,G1,z,m1,ab,b1,rfl,D1,r,ag,hf,hs,p1,aa⟩:=Avq (D.gro p0) hL hv hr;have a7:=p1.nx;simp only [Ac,Ai] at a7;have t1:=p1.rs p0.st.1 (i:=q) s1 f1;have tk:=p1.rs p0.st.1 (i:=h.nx) sk (nF tM);have t2:=p1.rs p0.st.1 (i:=h.nx+1) s2 (nF tM);have tx:=p1.rs p0.st.1 (i:=h.nx+1) sx (nF tM);have n1:(q=h.nx+2+10)=False:=eq_false tM;have n2:(h.nx=h.nx+2+10)=False:=eq_false tM;have n3:(h.nx+1=h.nx+2+10)=False:=eq_false tM;have kn:k ∉ z.all:=fun h=>by have:=hf k h;rw [hm] at this;cases this
 have mk:m1 k=some nd:=(hs k kn).trans hm;have J:∀ {i},i < h.nx+15→¬ FP d b sl i→¬ FP d b1 ab i:=fun I h2 O=>h2 (aa _ (by simp only [Ac,Ai];omega) O);have aj:G1 (h.nx+12)=none:=(p1.old _ (by simp only [Ac,Ai];omega)).trans (D.s.none tM);have pB:∀ {A B:Blk},Stp (fun i=>i=h.nx+12) I G1 ((I.at (h.nx+12) A).at (h.nx+12) B) G1:=fun {A B}=>((Stp.refl (W:=fun i=>i=h.nx+12) p1.st).at (Or.inr rfl) tM aj).at (Or.inr rfl) (by simp only [Ag];omega) aj;have ak:=fun {A B:Blk}=>(pB (A:=A) (B:=B)).up (n:=14);have DB:Dm (((I.at (h.nx+12) (cQ [iQ uQ 0,iQ uQ 0] 50)).at (h.nx+12) (cQ [iQ uQ z.x.ix,iQ uQ z.x.gen] 50)).up 14) G1 d m1 ab b1 (L+siz t):=D1.loc (ak.mono fun i hi O=>by subst hi;exact J tM (nF tM) O);obtain ⟨p,a⟩:=DB.all k (by rw [mk];exact Option.some_ne_none _);have ac:((I.at (h.nx+12) (cQ [iQ uQ 0,iQ uQ 0] 50)).at (h.nx+12) (cQ [iQ uQ z.x.ix,iQ uQ z.x.gen] 50)).read q 0 1=some [jQ d 0]:=by rw [Ck tM,Ck tM];exact t1
 have ap:((I.at (h.nx+12) (cQ [iQ uQ 0,iQ uQ 0] 50)).at (h.nx+12) (cQ [iQ uQ z.x.ix,iQ uQ z.x.gen] 50)).read h.nx 0 2=some [iQ uQ k.ix,iQ uQ k.gen]:=by rw [Ck tM,Ck tM];exact tk
 have ao:((I.at (h.nx+12) (cQ [iQ uQ 0,iQ uQ 0] 50)).at (h.nx+12) (cQ [iQ uQ z.x.ix,iQ uQ z.x.gen] 50)).read (h.nx+1) 5 1=some [iQ wQ j]:=by rw [Ck tM,Ck tM];exact t2
 have an:((I.at (h.nx+12) (cQ [iQ uQ 0,iQ uQ 0] 50)).at (h.nx+12) (cQ [iQ uQ z.x.ix,iQ uQ z.x.gen] 50)).read (h.nx+12) 0 2=some [iQ uQ z.x.ix,iQ uQ z.x.gen]:=(Ab Ap).trans rfl;obtain ⟨v,h2,e2,G2,p2,oc⟩:=Hk (q:=q) DB a mk ac;have D2:=DB.gro p2;obtain ⟨ka,h3,e3,U,ah,a6⟩:∃ ka h3,FW ctx 203 [v,iQ wQ j] h2=some (hdA ka,h3)∧Gro h2 G2 h3∧Fo nd j ka∧(ka=⟨0,0⟩∨m1 ka≠none):=by
  rcases Nat.lt_or_ge j nd.ch.length with E | E
  ·obtain ⟨q',y1,y2,rfl,y3,y4,y5⟩:=oc.el (List.getElem?_eq_getElem E);obtain ⟨w,h3,e3,rfl,U⟩:=at203 D2.s (i:=j) (n:=nd.ch.length) rfl E y4 y5;have af:m1 nd.ch[j]≠none:=by
    have ae:=hc _ (List.getElem_mem E);rw [hs _ (fun h=>ae (hf _ h))];exact ae
   refine ⟨nd.ch[j],h3,e3,U,Or.inr ⟨?_,List.getElem?_eq_getElem E⟩,Or.inr af⟩;cases e:m1 nd.ch[j] with
   | none=>exact absurd e af
   | some x=>exact D1.g1 e
  ·have hl:Db v=some nd.ch.length:=by
    rcases oc with ⟨rfl,e,_⟩ | ⟨q',_,rfl,_⟩
    ·rw [e];rfl
    ·rfl
   obtain ⟨w,h3,e3,rfl,U⟩:=Ayg D2.s hl E;exact ⟨⟨0,0⟩,h3,e3,U,Or.inl ⟨rfl,tM⟩,Or.inl rfl⟩
 have D3:=D2.gro U;have a8:m1 z.x=some ⟨t.kind,t.tag,t.attrs,t.text,none,z.ch.map HT.x⟩:=r.x.1;have aE:=D.nd k nd hm;have sp:=Mb t;obtain ⟨_,h4,e4,rfl,G4,D4,p4⟩:=Aan D3 mk hk a8 rfl (Aqr hu fun x hx=>⟨hs x fun h=>hx (hf x h),fun e=>hx (hf x (e ▸ HT.x_mem z))⟩) hn ah a6 tM;have ay:=p2.rs DB.s.1 (i:=q) ac (fun h=>h);have az:=U.rs D2.s.1 ay (fun h=>h);have aD:=p4.rs D3.s.1 az (J tM f1);have aw:=p2.rs DB.s.1 (i:=h.nx) ap (fun h=>h);have ax:=U.rs D2.s.1 aw (fun h=>h);have aC:=p4.rs D3.s.1 ax (J tM (nF tM));have aq:=p2.rs DB.s.1 (i:=(h.nx+12)) an (fun h=>h);have ar:=U.rs D2.s.1 aq (fun h=>h);have aA:=p4.rs D3.s.1 ar (J tM (nF tM));have au:=p2.rs DB.s.1 (i:=(h.nx+1)) ao (fun h=>h);have av:=U.rs D2.s.1 au (fun h=>h);have aB:=p4.rs D3.s.1 av (J tM (nF tM));simp only [seval,go_sem,hp,ho,ai,s1,sk,s2,sx,t1,tk,t2,tx,e1,n1,n2,n3,e2,e3,e4,ac,ay,az,aD,ap,aw,ax,aC,an,aq,ar,aA,ao,au,av,aB];have xk:z.x≠k:=fun e=>kn (e ▸ HT.x_mem z);refine ⟨G4,ab,b1,z,_,⟨mt_r r ag kn,ag,hf,?_,fun x I h2=>?_⟩,D4,?_,fun i hi O=>aa i (by simp only [Ac,Ai];omega) O⟩
 ·rw [_root_.Go.V.D.up_ne (Ne.symm xk),_root_.Go.V.D.up_eq]
 ·rw [_root_.Go.V.D.up_ne (show x≠z.x from fun e=>I (by rw [e];exact HT.x_mem z)),_root_.Go.V.D.up_ne h2];exact hs x I
 ·exact ((((p0.mono fun _ h=>h.elim).in p1 (fun _ _ h=>h)).in ak (fun i hi O=>by omega)).trans ((p2.trans U).mono fun _ h=>h.elim)).in p4 (fun i hi O=>aa i (by simp only [Ac,Ai];omega) O)
end
section
variable {h h':H} {G G':Fz} {d b L p q:Nat} {m:D.M} {sl:List Sl} {k k1 k2:Hd}
theorem del183c {i:Nat} {l:List Hd} (E:h.m.get q=some (oQ (hdC l) l.length 50 2)) (hi:i < l.length) :
  FW ctx 183 [.sl q 0 l.length l.length,iQ wQ i,iQ wQ (i+1:Nat)] h=some (.sl q 0 (l.length - 1) l.length,h.at q (oQ (hdC (V.D.delI l i)++[iQ uQ 0,iQ uQ 0]) l.length 50 2)):=by
 have U:=Ez l;have I:(hdC l).take (i * 2)++((hdC l).drop ((i+1) * 2)++[iQ uQ 0,iQ uQ 0])=hdC (V.D.delI l i)++[iQ uQ 0,iQ uQ 0]:=by
  unfold V.D.delI;rw [Mp,Gq,Mq,List.append_assoc]
 refine Fa ?_;show some (Ow 50 2 _ [.sl q 0 l.length l.length,iQ wQ i,iQ wQ (i+1:Nat)] h)=_;have Z:Bp h 2 l.length (.sl q 0 l.length l.length)=some (hdC l):=by
  rw [Gt,Nat.ble_eq_true_of_le (Nat.le_refl _)];show h.read q 0 (l.length * 2)=_;rw [Ab E,Ha,← U];exact Aj
 have O:∀ j:Nat,Eo (j:Int)=some j:=fun _=>rfl;have z:(hdC (V.D.delI l i)++[AV.int uQ 0,iQ uQ 0]).length=(hdC l).length:=by
  have:(V.D.delI l i).length=l.length - 1:=by unfold V.D.delI;rw [List.length_append,List.length_take,List.length_drop];omega
  rw [List.length_append,Ez,this,U];simp;omega
 unfold Ow;simp only [Mj,O,Nat.beq_refl];unfold delS;have J:h.read q 0 (l.length * 2)=some (hdC l):=by rw [Ab E,Ha,← U];exact Aj
 simp only [Nat.ble_eq_true_of_le (show i+1≤l.length from hi),J];rw [I];have ho:Af (hdC (V.D.delI l i)++[AV.int uQ 0,iQ uQ 0])=true:=by rw [A7,Ks];rfl
 have Y:Dt 0 (hdC (V.D.delI l i)++[AV.int uQ 0,iQ uQ 0]) (hdC l)=some (hdC (V.D.delI l i)++[AV.int uQ 0,iQ uQ 0]):=by
  have:=Bd [] (hdC l) [] (hdC (V.D.delI l i)++[AV.int uQ 0,iQ uQ 0]) z.symm;rw [List.append_nil,List.append_nil] at this;exact this
 rw [Nq E];unfold Blk.put Z4;simp only [Y,ho]
theorem delI_at {l:List Hd} {i j:Nat} (z:i < l.length):(V.D.delI l i)[j]?=if j < i then l[j]? else l[j+1]?:=by
 unfold V.D.delI
 by_cases h:j < i
 ·rw [if_pos h,List.getElem?_append_left (by rw [List.length_take];omega),List.getElem?_take,if_pos h]
 ·rw [if_neg h,List.getElem?_append_right (by rw [List.length_take];omega),List.getElem?_drop,List.length_take,Nat.min_eq_left tM];congr 1;omega
theorem move171 {op i j:Nat} {pv:AV} {nm vl:Str} {Z:List AV} {nd nc:Nd} {c:Hd} (D:Dm h G d m sl b L) (hm:m k=some nd) (hn:nd.ch.Nodup) (hj:j+1≤nd.ch.length) (hi:nd.ch[i]?=some c) (ae:c≠k) (ac:m c=some nc) (ag:nc.par=some k) (hc:∀ c,c∈nd.ch→m c≠none)
  (r1:h.read q 0 1=some [jQ d 0]) (f1:¬ FP d b sl q) (hp:C9 pv=true) (av:Z.length=6) (ho:Af Z=true) :
  Ans ctx 171 [jQ q 0,hdA k,gQ (spC op pv nm vl i j Z)] h fun x h'=>x=iQ wQ 0∧∃ G',Dm h' G' d (m.up k { nd with ch:=V.D.insH (V.D.delI nd.ch i) j c }) sl b L∧Stp (FP d b sl) h G h' G':=by
 refine aO Tryz.f171 ?_;simp only [Tryz.f171];have p0:Gro h G ((h.new k).new (cQ (spC op pv nm vl i j Z) 189)):=(Stp.refl D.s).new.new;have lq:=Cq D.s.1 r1;have nF:∀ {i},h.nx≤i→¬ FP d b sl i:=fun {i} z hh=>by have:=D.fp_lt _ hh;omega
 obtain ⟨p,a⟩:=D.all k (by rw [hm];exact Option.some_ne_none _);have af:=(List.getElem?_eq_some_iff.1 hi).1;have aB:=D.nd k nd hm;have aA:=D.le;have w:=wI i;have s1:((h.new k).new (cQ (spC op pv nm vl i j Z) 189)).read q 0 1=some [jQ d 0]:=by rw [Bc (by simp only [Ac];omega),Bc tM];exact r1
 have gk:((h.new k).new (cQ (spC op pv nm vl i j Z) 189)).m.get h.nx=some (k:Blk):=gL;have gs:=lG gk (h.nx+1) (cQ (spC op pv nm vl i j Z) 189);have sk:((h.new k).new (cQ (spC op pv nm vl i j Z) 189)).read h.nx 0 2=some [iQ uQ k.ix,iQ uQ k.gen]:=(Ab gk).trans rfl;simp only [seval,go_sem,hp,ho,av,s1,sk];refine Ae (Hk (q:=q) (D.gro p0) a hm s1) fun v z ⟨G1,p1,oc⟩=>?_;obtain ⟨I,y1,y2,rfl,y3,y4,y5⟩:=oc.el hi;simp only [Ac] at y1;have D1:=(D.gro p0).gro p1;have aa:=p1.gt p0.st.1 gs (fun h=>h);have a8:=p1.gt p0.st.1 gk (fun h=>h);have t1:=p1.rs p0.st.1 (i:=q) s1 (fun h=>h);have l1:=p1.nx;simp only [Ac] at l1;have aD:=Ah D1.s.1 y3;have u4:z.read (h.nx+1) 4 1=some [iQ wQ i]:=(Ab aa).trans rfl;have a7:(z.new (cQ [iQ uQ 0,iQ uQ 0] 50)).read I (i * 2) 2=some [iQ uQ c.ix,iQ uQ c.gen]:=by rw [Bc tM];exact y5
 have pS:Gro z G1 ((z.new (cQ [iQ uQ 0,iQ uQ 0] 50)).at z.nx (c:Blk)):=((Stp.refl D1.s).new).at (Or.inl (Nat.le_refl _)) (by simp only [Ac];omega) (D1.s.none (Nat.le_refl _));have ax:((z.new (cQ [iQ uQ 0,iQ uQ 0] 50)).at z.nx (c:Blk)).read (h.nx+1) 4 1=some [iQ wQ i]:=(Ab (pS.gt D1.s.1 aa (fun h=>h))).trans rfl;have a6:=pS.gt D1.s.1 y3 (fun h=>h);have aC:(V.D.delI nd.ch i).length=nd.ch.length - 1:=by unfold V.D.delI;rw [List.length_append,List.length_take,List.length_drop];omega
 have pQ:Stp (fun i=>i=I) z G1 ((((z.new (cQ [iQ uQ 0,iQ uQ 0] 50)).at z.nx (c:Blk)).at I (oQ (hdC (V.D.delI nd.ch i)++[iQ uQ 0,iQ uQ 0]) nd.ch.length 50 2)).up 11) G1:=((pS.mono (W':=fun i=>i=I) fun _ h=>h.elim).at (Or.inr rfl) (by simp only [Ag,Ac];omega) y2).up;have D2:=D1.loc (pQ.mono fun i hi hh=>by subst hi;exact nF tM hh);have gc:=D.g1 ac;have ak:(((z.new (cQ [iQ uQ 0,iQ uQ 0] 50)).at z.nx (c:Blk)).at I (oQ (hdC (V.D.delI nd.ch i)++[iQ uQ 0,iQ uQ 0]) nd.ch.length 50 2)).read q 0 1=some [jQ d 0]:=by rw [Ck tM,Ck tM,Bc tM];exact t1
 have ai:(((z.new (cQ [iQ uQ 0,iQ uQ 0] 50)).at z.nx (c:Blk)).at I (oQ (hdC (V.D.delI nd.ch i)++[iQ uQ 0,iQ uQ 0]) nd.ch.length 50 2)).read z.nx 0 2=some [iQ uQ c.ix,iQ uQ c.gen]:=by rw [Ck tM];exact (Ab Ap).trans rfl
 have aj:(((z.new (cQ [iQ uQ 0,iQ uQ 0] 50)).at z.nx (c:Blk)).at I (oQ (hdC (V.D.delI nd.ch i)++[iQ uQ 0,iQ uQ 0]) nd.ch.length 50 2)).read (h.nx+1) 5 1=some [iQ wQ j]:=by rw [Ck tM,Ck tM,Bc tM];exact (Ab aa).trans rfl
 obtain ⟨ka,j',h3,e3,U,ah,au,aw,ap⟩:∃ ka j' h3,FW ctx 203 [.sl I 0 (nd.ch.length - 1) nd.ch.length,iQ wQ j] ((((z.new (cQ [iQ uQ 0,iQ uQ 0] 50)).at z.nx (c:Blk)).at I (oQ (hdC (V.D.delI nd.ch i)++[iQ uQ 0,iQ uQ 0]) nd.ch.length 50 2)).up 11)=some (hdA ka,h3)∧Gro ((((z.new (cQ [iQ uQ 0,iQ uQ 0] 50)).at z.nx (c:Blk)).at I (oQ (hdC (V.D.delI nd.ch i)++[iQ uQ 0,iQ uQ 0]) nd.ch.length 50 2)).up 11) G1 h3∧Fo nd j' ka∧ka≠c∧(ka=⟨0,0⟩∨m ka≠none)∧Fo { nd with ch:=V.D.delI nd.ch i } j ka:=by
  rcases Nat.lt_or_ge j (nd.ch.length - 1) with O | O
  ·have E:=delI_at (j:=j) af;have ab:j < (V.D.delI nd.ch i).length:=tM;rw [List.getElem?_eq_getElem ab] at E;have rr:((((z.new (cQ [iQ uQ 0,iQ uQ 0] 50)).at z.nx (c:Blk)).at I (oQ (hdC (V.D.delI nd.ch i)++[iQ uQ 0,iQ uQ 0]) nd.ch.length 50 2)).up 11).read I (j * 2) 2=some [iQ uQ (V.D.delI nd.ch i)[j].ix,iQ uQ (V.D.delI nd.ch i)[j].gen]:=by
    rw [show ((((z.new (cQ [iQ uQ 0,iQ uQ 0] 50)).at z.nx (c:Blk)).at I (oQ (hdC (V.D.delI nd.ch i)++[iQ uQ 0,iQ uQ 0]) nd.ch.length 50 2)).up 11).read I (j * 2) 2=Aq (j * 2) 2 (hdC (V.D.delI nd.ch i)++[iQ uQ 0,iQ uQ 0]) from Ab Ap,Bw,if_pos (by rw [List.length_append,Ez];omega),List.drop_append_of_le_length (by rw [Ez];omega),Gq,List.drop_eq_getElem_cons ab];rfl
   obtain ⟨_,h3,e3,rfl,U⟩:=at203 D2.s (i:=j) (n:=nd.ch.length - 1) rfl O (Ed O |>.trans (by rw [Nat.zero_add])) rr;have aq:∃ j',nd.ch[j']?=some (V.D.delI nd.ch i)[j]∧j'≠i:=by
    by_cases hji:j < i
    ·rw [if_pos hji] at E;exact ⟨j,E.symm,tM⟩
    ·rw [if_neg hji] at E;exact ⟨j+1,E.symm,tM⟩
   obtain ⟨j',J,ar⟩:=aq;have Y:=hc _ (List.mem_of_getElem? J);have hg:1≤(V.D.delI nd.ch i)[j].gen:=by
    cases e:m (V.D.delI nd.ch i)[j] with
    | none=>exact absurd e Y
    | some x=>exact D.g1 e
   refine ⟨_,j',h3,e3,U,Or.inr ⟨hg,J⟩,fun e=>ar ?_,Or.inr Y,Or.inr ⟨hg,List.getElem?_eq_getElem ab⟩⟩;rw [e] at J;exact (List.getElem?_inj (List.getElem?_eq_some_iff.1 J).1 hn).1 (J.trans hi.symm)
  ·obtain ⟨_,h3,e3,rfl,U⟩:=Ayg D2.s (v:=.sl I 0 (nd.ch.length - 1) nd.ch.length) (i:=j) rfl O;exact ⟨⟨0,0⟩,nd.ch.length,h3,e3,U,Or.inl ⟨rfl,rfl⟩,fun e=>by rw [← e] at gc;exact absurd gc tD,Or.inl rfl,Or.inl ⟨rfl,by show j=(V.D.delI nd.ch i).length;omega⟩⟩
 have D3:=D2.gro U;obtain ⟨_,h4,e4,rfl,G4,D4,p4⟩:=move204 D3 hm ac ag hi hn (Ne.symm ae) ah au aw ap;have ao:=U.rs D2.s.1 (i:=q) ak (fun h=>h);have a0:=p4.rs D3.s.1 ao f1;have am:=U.rs D2.s.1 (i:=z.nx) ai (fun h=>h);have ay:=p4.rs D3.s.1 am (nF tM);have an:=U.rs D2.s.1 (i:=(h.nx+1)) aj (fun h=>h);have az:=p4.rs D3.s.1 an (nF tM);simp only [seval,go_sem,u4,y4,y5,a7,ax,w,del183c a6 af,e3,e4,ak,ao,a0,ai,am,ay,aj,an,az];refine ⟨G4,?_,((((p0.trans p1).mono fun _ h=>h.elim).in pQ (fun i hi hh=>by omega)).trans (U.mono fun _ h=>h.elim)).in p4 (fun _ _ h=>h)⟩;have:(m.up k { nd with ch:=V.D.insH (V.D.delI nd.ch i) j c }).up c { nc with par:=some k } = m.up k { nd with ch:=V.D.insH (V.D.delI nd.ch i) j c }:=by
  funext x
  by_cases hx:x=c
  ·subst hx;rw [_root_.Go.V.D.up_eq,_root_.Go.V.D.up_ne ae,ac,← ag]
  ·rw [_root_.Go.V.D.up_ne hx]
 rw [this] at D4;exact D4
end
section
variable {h h':H} {G G':Fz} {d b L p q:Nat} {m:D.M} {sl:List Sl} {k k1 k2:Hd}
theorem ao_of:∀ {l:Als} {p:Option Str},V.D.AscA Op.bytesLess l→(∀ a,a∈l→Ff a.1=true∧He a.2=true)→(∀ q,p=some q→∀ a,a∈l→Op.bytesLess q a.1=true)→Bm p l=true
 | [],_,_,_,_=>rfl
 | (a,b)::l,p,h1,h2,h3=>by
  obtain ⟨h4,h5⟩:=List.pairwise_cons.1 h1;have:=h2 _ (List.mem_cons_self ..);simp only [Bm,Bool.and_eq_true];refine ⟨this.1,this.2,?_,ao_of h5 (fun x hx=>h2 x (List.mem_cons_of_mem _ hx)) fun q e x hx=>?_⟩
  ·cases p with
   | none=>rfl
   | some q=>exact h3 q rfl _ (List.mem_cons_self ..)
  ·cases e;exact h4 x hx
mutual
def few:T→Bool
 | .nd _ _ _ _ al ch=>decide (al.length≤4) && fews ch
def fews:List T→Bool
 | []=>true
 | t::l=>few t && fews l
end
theorem Aaw:∀ {l:List T} {t:T},fews l=true→t∈l→few t=true
 | x::l,t,h,hm=>by
  rw [fews,Bool.and_eq_true] at h;rcases List.mem_cons.1 hm with rfl | hm
  ·exact h.1
  ·exact Aaw h.2 hm
def VV:V.D.Val:=⟨Op.bytesLess,fun n=>Ff n=true,fun v=>He v=true,fun t=>A8 t∧few t=true⟩
theorem al_ok {l:Als} (h:VV.al l):okA l:=⟨ao_of h.1 h.2.1 (fun _ e=>by cases e),h.2.2⟩
theorem vv_ok:VV.OK where
 irr:=Ep
 trans:=J1
 tot:=Rt
 ch:=fun {t c} h O=>⟨h.1.ch O,by
  obtain ⟨kd,I,ky,J,al,ch⟩:=t;have:=h.2;rw [few,Bool.and_eq_true] at this;exact Aaw this.2 O⟩
 words:=fun {t} h z=>by
  obtain ⟨kd,I,ky,J,al,ch⟩:=t;obtain ⟨_,_,D,E,Z⟩:=Fp h.1 z;exact ⟨D,E,Z⟩
 elem:=fun {t} h z=>by
  obtain ⟨kd,I,ky,J,al,ch⟩:=t;obtain ⟨Y,_,D,_⟩:=Ih h.1 z;exact ⟨Y,D⟩
 at':=fun {t} h=>by
  obtain ⟨kd,I,ky,J,al,ch⟩:=t;have U:=h.2;rw [few,Bool.and_eq_true,decide_eq_true_eq] at U
  by_cases z:kd=2
  ·obtain ⟨_,_,D,_⟩:=Fp h.1 z;subst D;exact ⟨List.Pairwise.nil,fun _ h=>(by cases h),Nat.zero_le _⟩
  ·obtain ⟨_,_,_,E,_⟩:=Ih h.1 z;exact ⟨(Y3 E.1).1,Aer E.1,U.1⟩
def RSp (G:Fz) (s:V.D.Sx) (cs:List AV):Prop:=∃ op pv nm vl a t tr,cs=spC op pv nm vl a t tr∧Arr G 1 pv s.path.length (s.path.map fun i:Nat=>AV.int wQ i)∧tr.length=6∧Af tr=true∧match s.a with
 | .drop n=>op=1∧nm=n
 | .set n v=>op=2∧nm=n∧vl=v
 | .txt v=>op=3∧vl=v
 | .free k=>op=4∧a=(k:Nat)
 | .mnt k t'=>op=5∧t=(k:Nat)∧RT G t' tr
 | .mov k j=>op=6∧a=(k:Nat)∧t=(j:Nat)
theorem Ays {r:Hd} {s:V.D.Sx} {op:Nat} {pv:AV} {nm vl:Str} {a0 t0:Int} {tr:List AV} {Q:V.D.M→Prop} (D:Dm h G d m sl b L) (z:V.D.Act VV m k s.a Q) (rs:RSp G s (spC op pv nm vl a0 t0 tr)) (gq:h.m.get q=some (cQ [jQ d 0,iQ uQ r.ix,iQ uQ r.gen] 126)) (fq:¬ FP d b sl q) (hL:L+64≤1000000) :
  ∃ f xs bs h1,FW ctx 112 [jQ q 0,iQ vQ op] h=some (.fn (.func f) xs bs,h1)∧h1=h.new (cQ [jQ q 0] 124)∧∃ E,FW ctx f (xs++([hdA k,gQ (spC op pv nm vl a0 t0 tr)]++bs)) h1=some (iQ wQ 0,E) ∧
   ∃ G' m' ac b',Q m'∧Dm E G' d m' ac b' (L+64)∧Stp (FP d b sl) h1 G E G'∧∀ i,i < h1.nx→FP d b' ac i→FP d b sl i:=by
 obtain ⟨nd,hm,z⟩:=z;obtain ⟨an,ao,am,aq,a',t',ap,e,ha,Z,ho,hx⟩:=rs;cases e;have p1:Gro h G (h.new (cQ [jQ q 0] 124)):=(Stp.refl D.s).new;have D1:=D.gro p1;have g0:(h.new (cQ [jQ q 0] 124)).m.get h.nx=some (cQ [jQ q 0] 124):=Au;have ae:=p1.gt D.s.1 gq (fun h=>h);have r1:(h.new (cQ [jQ q 0] 124)).read q 0 1=some [jQ d 0]:=(Ab ae).trans rfl;have f0:¬ FP d b sl h.nx:=fun hh=>by have:=D.fp_lt _ hh;omega
 have I:=ha.one;obtain ⟨path,sa⟩:=s;cases sa with
 | drop n =>
  obtain ⟨rfl,rfl⟩:=hx;obtain ⟨hk,Y,hn,aa,z⟩:=z;obtain ⟨_,E,U,rfl,O,J,p2⟩:=drop163 D1 hm hk (al_ok Y) (Vt aa rfl) Y.1 hn g0 r1 f0 fq I Z ho;exact ⟨163,_,_,_,does_1,rfl,E,U,O,_,_,_,z,J.up tM hL,p2,fun _ _ h=>h⟩
 | set n v =>
  obtain ⟨rfl,rfl,rfl⟩:=hx;obtain ⟨hk,Y,aa,ab,h8,z⟩:=z;obtain ⟨_,E,U,rfl,O,J,p2⟩:=set165 D1 hm hk (al_ok Y) (Vt aa ab) Y.1 h8 g0 r1 f0 fq I Z ho;exact ⟨165,_,_,_,does_2,rfl,E,U,O,_,_,_,z,J.up tM hL,p2,fun _ _ h=>h⟩
 | txt v =>
  obtain ⟨rfl,rfl⟩:=hx;obtain ⟨hk,ab,z⟩:=z;obtain ⟨_,E,U,rfl,O,J,p2⟩:=text166 D1 hm hk ab g0 r1 f0 fq I Z ho;exact ⟨166,_,_,_,does_3,rfl,E,U,O,_,_,_,z,J.up tM hL,p2,fun _ _ h=>h⟩
 | free i =>
  obtain ⟨rfl,rfl⟩:=hx;obtain ⟨hn,ht,t,hi,r,hv,ai,ag,z⟩:=z;obtain ⟨_,E,U,rfl,O,ak,J,p2,f2⟩:=free168 D1 hm hi hn r ai ag (by have:=hv.1.2.2;omega) g0 r1 f0 fq I Z ho;exact ⟨168,_,_,_,does_4,rfl,E,U,O,_,_,_,z,J.up tM hL,p2,fun i _ h=>f2 i h⟩
 | mnt i t =>
  obtain ⟨rfl,rfl,hr⟩:=hx;obtain ⟨hk,hn,hj,⟨n,hu⟩,hc,hv,z⟩:=z;have hs:=hv.1.2.2;obtain ⟨_,E,U,rfl,O,ak,b2,ht,m2,hM,J,p2,f2⟩:=Avr D1 hm hk hn hj hu hc hv.1 hr tM r1 fq I;exact ⟨170,_,_,_,does_5,rfl,E,U,O,_,_,_,z _ _ hM,J.up tM hL,p2,f2⟩
 | mov i j =>
  obtain ⟨rfl,rfl,rfl⟩:=hx;obtain ⟨hn,hj,c,nc,hi,af,ah,aj,hc,z⟩:=z;obtain ⟨_,E,U,rfl,O,J,p2⟩:=move171 D1 hm hn hj hi af ah aj hc r1 fq I Z ho;exact ⟨171,_,_,_,does_6,rfl,E,U,O,_,_,_,z,J.up tM hL,p2,fun _ _ h=>h⟩
end
section
variable {h h':H} {G G':Fz} {d b L p q:Nat} {m:D.M} {sl:List Sl} {k k1 k2:Hd}
theorem RSp.mono {G G':Fz} (g:Fz.Le G G') {s:V.D.Sx} {cs:List AV}:RSp G s cs→RSp G' s cs:=fun ⟨op,U,nm,Z,a,t,Y,E,I,J,O,z⟩=>by
 refine ⟨op,U,nm,Z,a,t,Y,E,I.mono g,J,O,?_⟩;obtain ⟨p,sa⟩:=s;cases sa with
 | mnt k t=>exact ⟨z.1,z.2.1,z.2.2.mono g⟩
 | _=>exact z
theorem RSp.len {G:Fz} {s:V.D.Sx} {cs:List AV}:RSp G s cs→cs.length=12:=fun ⟨op,U,nm,Z,a,t,Y,z,I,E,J,O⟩=>by
 rw [z,List.length_cons,List.length_cons,List.length_cons,List.length_cons,List.length_cons,List.length_cons,E]
theorem RSp.one {G:Fz} {s:V.D.Sx} {cs:List AV}:RSp G s cs→Af cs=true:=fun ⟨op,U,nm,Z,a,t,Y,z,E,J,I,O⟩=>by
 rw [z];have:=E.one;simp only [R0,Sc,Sb,this,I,Bool.and_self]
def RSs (G:Fz):List V.D.Sx→List AV→Prop
 | [],cs=>cs=[]
 | s::l,cs=>∃ x r,cs=x++r∧RSp G s x∧RSs G l r
theorem RSs.mono {G G':Fz} (g:Fz.Le G G'):∀ {l:List V.D.Sx} {cs:List AV},RSs G l cs→RSs G' l cs
 | [],_,h=>h
 | s::l,_,⟨x,r,h1,h2,h3⟩=>⟨x,r,h1,h2.mono g,RSs.mono g h3⟩
theorem RSs.len {G:Fz}:∀ {l:List V.D.Sx} {cs:List AV},RSs G l cs→cs.length=l.length * 12
 | [],_,h=>by rw [show _=[] from h];rfl
 | s::l,_,⟨x,r,h1,h2,h3⟩=>by rw [h1,List.length_append,h2.len,RSs.len h3,List.length_cons];omega
theorem RSs.el {G:Fz}:∀ {l:List V.D.Sx} {cs:List AV},RSs G l cs→∀ j (hj:j < l.length),RSp G l[j] ((cs.drop (j * 12)).take 12)
 | s::l,_,⟨x,r,h1,h2,h3⟩,0,_=>by
  have:=h2.len;rw [h1,Nat.zero_mul,List.drop_zero,← this,List.take_left']
  ·exact h2
  ·rfl
 | s::l,_,⟨x,r,h1,h2,h3⟩,j+1,hj=>by
  have:=h2.len;rw [h1,show (j+1) * 12=x.length+j * 12 by omega,List.drop_append];simp only [List.drop_eq_nil_of_le (show x.length≤x.length+j * 12 by omega),List.nil_append,Nat.add_sub_cancel_left];exact RSs.el h3 j (Nat.lt_of_succ_lt_succ hj)
theorem Arr.step {h:H} (s:St h G) {l:List V.D.Sx} {v:AV} {cs:List AV} {j:Nat} (a:Arr G 12 v l.length cs) (r:RSs G l cs) (z:j < l.length):∃ b o x,ixA 12 j v=some (jQ b (o+j * 12))∧G.read b (o+j * 12) 12=some x∧RSp G l[j] x:=by
 obtain ⟨b,o,E,I⟩:=a.el s z;exact ⟨b,o,_,E,Fz.cut I tM,r.el j z⟩
theorem Arr.int {h:H} (s:St h G) {l:List Nat} {v:AV} {j:Nat} (a:Arr G 1 v l.length (l.map fun i:Nat=>AV.int wQ i)) (E:j < l.length):∃ b o,ixA 1 j v=some (jQ b (o+j))∧G.read b (o+j) 1=some [iQ wQ (l[j]:Nat)]:=by
 obtain ⟨b,o,z,D⟩:=a.el s E;rw [Nat.mul_one] at z D;refine ⟨b,o,z,?_⟩;rw [Fz.cut D tM,← List.map_drop,List.drop_eq_getElem_cons E];rfl
abbrev spZ:List AV:=[iQ vQ 0,(():AV),sQ [],sQ [],iQ wQ 0,iQ wQ 0,iQ vQ 0,sQ [],sQ [],(():AV),sQ [],(():AV)]
theorem overZ {x:List AV} (h:x.length=12):Cl spZ x=some x:=by
 have:=Bd [] spZ [] x (by rw [h];rfl);rw [List.append_nil,List.append_nil] at this;exact this
theorem carry45 {r:Hd} {I:List V.D.Sx} {v:AV} {cs:List AV} {Q:V.D.M→Prop} (D:Dm h G d m sl b L) (hS:V.D.Safe VV r Q I m) (ha:Arr G 12 v I.length cs) (hs:RSs G I cs) (gq:h.m.get q=some (cQ [jQ d 0,iQ uQ r.ix,iQ uQ r.gen] 126)) (fq:¬ FP d b sl q) (hL:L+I.length * 64≤1000000) (aM:∀ s,s∈I→s.path.length≤100) :
  Ans ctx 45 [jQ q 0,v] h fun x h'=>x=iQ wQ 0∧∃ G' m' ae b',Q m'∧Dm h' G' d m' ae b' (L+I.length * 64)∧Stp (FP d b sl) h G h' G'∧∀ i,i < h.nx→FP d b' ae i→FP d b sl i:=by
 refine aO Tryz.f45 ?_;simp only [Tryz.f45];have aP:=ha.len;simp only [seval,go_sem,aP];have r1:h.read q 0 1=some [jQ d 0]:=(Ab gq).trans rfl;have lq:=Ah D.s.1 gq;refine Ao (fun i e h'=>(∃ G' m' ae b',V.D.Safe VV r Q (I.drop i) m'∧Dm h' G' d m' ae b' (L+i * 64)∧Stp (FP d b sl) h G h' G'∧∀ i,i < h.nx→FP d b' ae i→FP d b sl i)∧i≤I.length∧e.get 0=some (jQ q 0)∧e.get 4=some (iQ wQ 0)∧e.get 10=some v∧e.get 11=some (iQ wQ I.length)∧e.get 12=some (iQ wQ i)) (fun i=>I.length - i) 0 ?_ ?_
 ·exact ⟨⟨G,m,sl,b,hS,by rw [Nat.zero_mul];exact D,Stp.refl D.s,fun _ _ h=>h⟩,Nat.zero_le _,by simp [Tr.get_set]⟩
 rintro i e E ⟨⟨G2,m2,af,b2,ai,D2,p2,f2⟩,hi,e0,e4,J,O,Y⟩ lp;simp only [seval,go_sem,J,O,Y];refine Cr (fun U=>?_) (fun U=>?_)
 ·have U:i < I.length:=by simpa using U
  have w:=wI i;have aD:=p2.le D.s;obtain ⟨cb,co,cx,aJ,aK,aj⟩:=Arr.step p2.st (ha.mono aD) (hs.mono aD) U;have au:=aj.len;have xo:=aj.one;have ov:=overZ au;rw [List.drop_eq_getElem_cons U] at ai;obtain ⟨hT,aU,az⟩:=ai;have aW:∀ {i},i < h.nx→¬ FP d b sl i→¬ FP d b2 af i:=fun h1 E hh=>E (f2 _ h1 hh);have am:=p2.gt D.s.1 gq fq;have l2:=p2.nx;have ap:Gro E G2 ((E.new (cQ spZ 189)).at E.nx (cQ cx 189)):=((Stp.refl D2.s).new).at (Or.inl (Nat.le_refl _)) (by simp only [Ac];omega) (D2.s.none (Nat.le_refl _));have aq:Gro E G2 ((((E.new (cQ spZ 189)).at E.nx (cQ cx 189)).new (cQ [iQ uQ 0,iQ uQ 0] 50)).at (E.nx+1) (r:Blk)):=(ap.new).at (Or.inl tM) (by simp only [Ac,Ag];omega) (D2.s.none tM);have aZ:((E.new (cQ spZ 189)).at E.nx (cQ cx 189)).read q 1 2=some [iQ uQ r.ix,iQ uQ r.gen]:=(Ab (ap.gt D2.s.1 am (fun h=>h))).trans rfl;have aE:(((E.new (cQ spZ 189)).at E.nx (cQ cx 189)).new (cQ [iQ uQ 0,iQ uQ 0] 50)).read q 1 2=some [iQ uQ r.ix,iQ uQ r.gen]:=(Ab (ap.new.gt D2.s.1 am (fun h=>h))).trans rfl;have g6:((((E.new (cQ spZ 189)).at E.nx (cQ cx 189)).new (cQ [iQ uQ 0,iQ uQ 0] 50)).at (E.nx+1) (r:Blk)).m.get E.nx=some (cQ cx 189):=gL;have g7:((((E.new (cQ spZ 189)).at E.nx (cQ cx 189)).new (cQ [iQ uQ 0,iQ uQ 0] 50)).at (E.nx+1) (r:Blk)).m.get (E.nx+1)=some (r:Blk):=Ap;have aB:=aj;obtain ⟨op,pv,nm,vl,a0,t0,tr,ah,aA,bf,bb,hx⟩:=aB;have aY:((((E.new (cQ spZ 189)).at E.nx (cQ cx 189)).new (cQ [iQ uQ 0,iQ uQ 0] 50)).at (E.nx+1) (r:Blk)).read E.nx 1 1=some [pv]:=(Ab g6).trans (by rw [ah];rfl);have aT:=aA.len
  simp only [seval,go_sem,e0,e4,J,O,Y,aJ,p2.st.read aK,w,xo,au,ov,aZ,aE,aY,aT];have nS:((((E.new (cQ spZ 189)).at E.nx (cQ cx 189)).new (cQ [iQ uQ 0,iQ uQ 0] 50)).at (E.nx+1) (r:Blk)).nx=E.nx+2:=rfl;generalize hSg:((((E.new (cQ spZ 189)).at E.nx (cQ cx 189)).new (cQ [iQ uQ 0,iQ uQ 0] 50)).at (E.nx+1) (r:Blk))=S at *;have D3:=D2.gro aq;have ao:∀ {i},E.nx≤i→¬ FP d b2 af i:=fun h1 hh=>by have:=D2.fp_lt _ hh;omega
  have aL:=aq.gt D2.s.1 am (fun h=>h);have aI:=aW lq fq;have be:=D2.le;refine Ao (fun j e h'=>(∃ G' kk,V.D.Pt m2 kk (I[i].path.drop j) hT∧Stp (fun i=>i=E.nx+1) S G2 h' G'∧h'.m.get (E.nx+1)=some (kk:Blk))∧j≤I[i].path.length∧e.get 0=some (jQ q 0)∧e.get 4=some (iQ wQ 0)∧e.get 6=some (jQ E.nx 0)∧e.get 7=some (jQ (E.nx+1) 0)∧e.get 10=some v∧e.get 11=some (iQ wQ I.length)∧e.get 12=some (iQ wQ i)∧e.get 21=some pv∧e.get 22=some (iQ wQ I[i].path.length)∧e.get 23=some (iQ wQ j)) (fun j=>I[i].path.length - j) 0 ?_ ?_
  ·exact ⟨⟨G2,r,aU,Stp.refl D3.s,g7⟩,Nat.zero_le _,by simp [Tr.get_set,e0,e4,J,O,Y]⟩
  clear e0 e4 J O Y;clear e;rintro j e h3 ⟨⟨G3,kk,aa,p3,aw⟩,hj,e0,e4,e6,e7,J,O,Y,ab,ac,ag⟩ aV;have D4:Dm h3 G3 d m2 af b2 (L+i * 64):=D3.loc (p3.mono fun i hi hh=>by subst hi;exact ao tM hh);have ay:=p3.gt D3.s.1 aL tM;have l3:=p3.nx;have aX:h3.read q 0 1=some [jQ d 0]:=(Ab ay).trans rfl;have ar:h3.read (E.nx+1) 0 2=some [iQ uQ kk.ix,iQ uQ kk.gen]:=(Ab aw).trans rfl;simp only [seval,go_sem,ab,ac,ag];refine Cr (fun Z=>?_) (fun Z=>?_)
  ·have Z:j < I[i].path.length:=by simpa using Z
   have wj:IntKind.i64.wrap ((j:Int)+1)=((j+1:Nat):Int):=by rw [show (j:Int)+1=((j+1:Nat):Int) by omega];exact Bz (by have:=aM _ (List.getElem_mem U);omega)
   rw [List.drop_eq_getElem_cons Z] at aa;obtain ⟨nd,c,a7,aQ,a8⟩:=aa;obtain ⟨pb,po,u1,u2⟩:=Arr.int p3.st (aA.mono (p3.le D3.s)) Z;obtain ⟨p,a⟩:=D4.all kk (by rw [a7];exact Option.some_ne_none _);simp only [seval,go_sem,e0,e4,e6,e7,J,O,Y,ab,ac,ag,u1,p3.st.read u2,ar,wj];refine Ae (Hk (q:=q) D4 a a7 aX) fun cv h4 ⟨G4,p4,oc⟩=>?_;obtain ⟨q',y1,y2,rfl,y3,y4,y5⟩:=oc.el aQ;have ax:=p4.gt D4.s.1 aw (fun h=>h);simp only [seval,go_sem,e0,e4,e6,e7,J,O,Y,ab,ac,ag,y4,y5,ax,wj];have n7:G4 (E.nx+1)=none:=by rw [p4.old _ tM,p3.old _ tM];exact D2.s.none tM
   exact aV (j+1) _ _ tM ⟨⟨G4,c,a8,(p3.trans (p4.mono fun _ h=>h.elim)).at (Or.inr rfl) (Ah p4.st.1 ax) n7,Ap⟩,Z,by simp [Tr.get_set,e0,e4,e6,e7,J,O,Y,ab,ac]⟩
  ·have Z:I[i].path.length≤j:=by simpa using Z
   have aS:j=I[i].path.length:=tM;subst aS;rw [List.drop_length] at aa;have hk:kk=hT:=aa.symm;subst hk;have u8:Gro h3 G3 (h3.up 8):=(Stp.refl D4.s).up;have aC:RSp G3 I[i] (spC op pv nm vl a0 t0 tr):=by rw [← ah];exact aj.mono (p3.le D3.s)
   obtain ⟨f,xs,bs,h4,c4,aH,h5,c5,G5,m5,ba,b5,aN,D5,p5,f5⟩:=Ays (D4.gro u8) az aC (u8.gt D4.s.1 ay (fun h=>h)) aI (by have:(i+1) * 64≤I.length * 64:=Nat.mul_le_mul_right _ U;omega);rw [← ah] at c5;have u9:Gro h3 G3 h4:=by rw [aH];exact u8.new
   have ak:=p3.gt D3.s.1 g6 tM;have an:∀ {g:H},g.m.get E.nx=some (cQ cx 189)→g.read E.nx 0 1=some [iQ vQ op]∧g.read E.nx 0 12=some cx:=fun {g} e=>⟨(Ab e).trans (by rw [ah];rfl),(Ab e).trans (by rw [← au];exact Aj)⟩;obtain ⟨a1,a2⟩:=an ak;obtain ⟨a3,a4⟩:=an (u9.gt D4.s.1 ak (fun h=>h));have av:=D4.gro u9;obtain ⟨a5,a6⟩:=an (p5.gt av.s.1 (u9.gt D4.s.1 ak (fun h=>h)) (ao (Nat.le_refl _)));have b1:=u9.rs D4.s.1 ar (fun h=>h);have aF:=p5.rs av.s.1 b1 (ao tM);have aG:FW ctx f (xs++gQ [iQ uQ kk.ix,iQ uQ kk.gen]::gQ cx::bs) h4=_:=c5;simp only [seval,go_sem,e0,e4,e6,e7,J,O,Y,ab,ac,ag,a1,a2,a3,a4,a5,a6,b1,aF,ar,xo,c4,aG,w];have z:Stp (FP d b2 af) E G2 h4 G3:=((aq.mono fun _ h=>h.elim).in p3 (fun i hi hh=>by omega)).trans (u9.mono fun _ h=>h.elim);have l9:=u9.nx;refine lp (i+1) _ _ tM ⟨⟨G5,m5,ba,b5,aN,?_,((p2.in z (fun i hi hh=>f2 i hi hh))).in p5 (fun i hi hh=>f2 i hi hh),fun i hi hh=>f2 i hi (f5 i tM hh)⟩,U,by simp [Tr.get_set,e0,J,O]⟩;rw [Nat.add_mul,Nat.one_mul,← Nat.add_assoc];exact D5
 ·have U:I.length≤i:=by simpa using U
  have aR:i=I.length:=tM;subst aR;rw [List.drop_length] at ai;simp only [seval,go_sem,e4];exact ⟨G2,m2,af,b2,ai,D2,p2,f2⟩
end
section
variable {h h':H} {G G':Fz} {d b L p q:Nat} {m:D.M} {sl:List Sl} {k k1 k2:Hd}
def spE:V.D.Sp→List AV
 | .drop n=>[sQ n,bQ true,sQ []]
 | .set n v=>[sQ n,bQ false,sQ v]
 | _=>[sQ [],bQ false,sQ []]
def Nb (l:List V.D.Sp):List AV:=l.flatMap spE
theorem Afm:∀ s:V.D.Sp,(spE s).length=3
 | .drop _ | .set _ _ | .txt _ | .free _ | .mnt _ _ | .mov _ _=>rfl
theorem spE_one:∀ s:V.D.Sp,Af (spE s)=true
 | .drop _ | .set _ _ | .txt _ | .free _ | .mnt _ _ | .mov _ _=>rfl
theorem Zm (l:List V.D.Sp):Af (Nb l)=true:=by
 induction l with
 | nil=>rfl
 | cons s l ih=>show Af (spE s++Nb l)=true;rw [A7,spE_one,ih];rfl
theorem Zn {a b:List V.D.Sp}:Nb (a++b)=Nb a++Nb b:=List.flatMap_append ..
theorem Sq {s:V.D.Sp}:Nb [s]=spE s:=by show spE s++[]=_;rw [List.append_nil]
structure DfB (h:H) (G:Fz) (q2 q3 q8 lo:Nat) (al bl:Als) (o:List V.D.Sp) (v:AV):Prop where
 s:St h G
 ob:OB h G q8 lo 234 179 3 o.length (Nb o) v
 l:∃ lv,h.read q2 0 1=some [lv]∧Arr G 2 lv al.length (Ax al)
 r:∃ lv,h.read q3 0 1=some [lv]∧Arr G 2 lv bl.length (Ax bl)
 ne:q2≠q8∧q3≠q8∧q2 < lo∧q3 < lo
 n:o.length≤100
variable {q2 q3 q8 lo:Nat} {al bl:Als} {o:List V.D.Sp} {v:AV}
theorem DfB.mv {o':List V.D.Sp} {E:AV} (A:DfB h G q2 q3 q8 lo al bl o v) (p:Stp (OW q8 lo) h G h' G) (Z:OB h' G q8 lo 234 179 3 o'.length (Nb o') E) (O:o'.length≤100):DfB h' G q2 q3 q8 lo al bl o' E:=by
 obtain ⟨lv,U,Y⟩:=A.l;obtain ⟨ev,I,J⟩:=A.r;have ne:=A.ne;exact ⟨p.st,Z,⟨lv,p.rs A.s.1 U (fun z=>by rcases z with z | z <;> omega),Y⟩,⟨ev,p.rs A.s.1 I (fun z=>by rcases z with z | z <;> omega),J⟩,ne,O⟩
theorem DfB.gro (A:DfB h G q2 q3 q8 lo al bl o v) (p:Gro h G h'):DfB h' G q2 q3 q8 lo al bl o v :=
 A.mv (p.mono fun _ h=>h.elim) (A.ob.mv p A.s.1 (fun _ h=>h.elim)) A.n
theorem name216 {a b:Str}:FW ctx 216 [gQ [sQ a,sQ b]] h=some (sQ a,h.new (cQ [sQ a,sQ b] 112)):=by
 have x:Ans ctx 216 [gQ [sQ a,sQ b]] h fun w h'=>w=sQ a∧h' = h.new (cQ [sQ a,sQ b] 112):=by
  refine aO Tryz.f216 ?_;simp only [Tryz.f216];simp only [seval,go_sem]
 obtain ⟨_,_,e,rfl,rfl⟩:=x;exact e
theorem e218a {i:Nat} (A:DfB h G q2 q3 q8 lo al bl o v) (hi:i < al.length) (hn:o.length < 100) :
  Ans ctx 218 [iQ wQ i,iQ wQ (-1),jQ q8 0,jQ q2 0,jQ q3 0] h fun _ h'=>Stp (OW q8 lo) h G h' G∧∃ z,DfB h' G q2 q3 q8 lo al bl (o++[.drop al[i].1]) z:=by
 refine aO Tryz.f218 ?_;simp only [Tryz.f218];obtain ⟨lv,l1,l2⟩:=A.l;obtain ⟨b,p,g1,Y⟩:=l2.attr A.s hi;have aa:=A.ob.le;have ac:=A.ob.lt;have r1:=A.ob.rd;have J:=A.ob.o.len;generalize hx:al[i]=ab at Y;obtain ⟨ka,kb⟩:=ab;have O:Gro h G ((h.up 10).at (h.nx+7) (cQ (spE (.drop ka)) 179)):=((Stp.refl A.s).up).at (Or.inl tM) (by simp only [Ai];omega) (A.s.none tM);have E:=A.ob.mv O A.s.1 (fun _ h=>h.elim);obtain ⟨z,h5,c2,o5,g5,l5,af,U,I⟩:=E.app (C:=ctx) (k:=0) (new:=spE (.drop ka)) O.st tM (Be (by rw [by179];omega) tM) (by rw [A7,Zm];rfl) rfl;have ae:=A.ne;have c1:decide ((-1:Int) < 0)=true:=rfl;have m0:h.read b (p+i * 2) 1=some [sQ ka]:=Fk (a:=0) (A.s.read Y) rfl;simp only [spE] at c2;simp only [seval,go_sem,c1,r1,l1,g1,m0,J,c2,g5,o5];have Z:Stp (OW q8 lo) h G (h5.at q8 (cQ [z] 234)) G:=(O.mono fun _ h=>h.elim).in U (fun _ _ h=>h);have hl:(o++[V.D.Sp.drop ka]).length=o.length+1:=by simp
 exact ⟨Z,z,A.mv Z (by rw [hl,Zn,Sq];exact I) tM⟩
theorem Axk {i:Int} {k:Nat} (A:DfB h G q2 q3 q8 lo al bl o v) (hk:k < bl.length) (hn:o.length < 100) (hi:i = -1∨∃ j:Nat,i=j∧∃ hj:j < al.length,al[j].2≠bl[k].2) :
  Ans ctx 218 [iQ wQ i,iQ wQ k,jQ q8 0,jQ q2 0,jQ q3 0] h fun _ h'=>Stp (OW q8 lo) h G h' G∧∃ z,DfB h' G q2 q3 q8 lo al bl (o++[.set bl[k].1 bl[k].2]) z:=by
 refine aO Tryz.f218 ?_;simp only [Tryz.f218];obtain ⟨lv,l1,l2⟩:=A.l;obtain ⟨rv,y1,y2⟩:=A.r;obtain ⟨b,p,g1,U⟩:=y2.attr A.s hk;generalize hx:bl[k]=ab at U hi;obtain ⟨ka,I⟩:=ab;have ck:decide ((k:Int) < 0)=false:=decide_eq_false tM;have m0:h.read b (p+k * 2) 1=some [sQ ka]:=Fk (a:=0) (A.s.read U) rfl;have m1:h.read b (p+(k * 2+1)) 1=some [sQ I]:=by rw [← Nat.add_assoc];exact Fk (a:=1) (A.s.read U) rfl
 have ag:=A.ob.le;have ah:=A.ob.lt;have r1:=A.ob.rd;have J:=A.ob.o.len;have p1:Gro h G (((h.up 16).up 15).at (h.nx+28) (cQ (spE (.set ka I)) 179)):=((Stp.refl A.s).up.up).at (Or.inl tM) (by simp only [Ai];omega) (A.s.none tM);have ac:=A.ob.mv p1 A.s.1 (fun _ h=>h.elim);obtain ⟨z,Z,c2,o5,g5,l5,ai,af,ae⟩:=ac.app (C:=ctx) (k:=0) (new:=spE (.set ka I)) p1.st tM (Be (by rw [by179];omega) tM) (by rw [A7,Zm];rfl) rfl;have p2:Stp (OW q8 lo) h G (Z.at q8 (cQ [z] 234)) G:=(p1.mono fun _ h=>h.elim).in af (fun _ _ h=>h);have hl:(o++[V.D.Sp.set ka I]).length=o.length+1:=by simp
 have fin:Stp (OW q8 lo) h G (Z.at q8 (cQ [z] 234)) G∧∃ v2,DfB (Z.at q8 (cQ [z] 234)) G q2 q3 q8 lo al bl (o++[.set ka I]) v2:=⟨p2,z,A.mv p2 (by rw [hl,Zn,Sq];exact ae) tM⟩;simp only [spE] at c2;rcases hi with rfl | ⟨j,rfl,hj,E⟩
 ·have c1:decide ((-1:Int) < 0)=true:=rfl;simp only [seval,go_sem,ck,c1,l1,y1,g1,m0,m1,r1,J,c2,g5,o5];exact fin
 ·have cj:decide ((j:Int) < 0)=false:=decide_eq_false tM;obtain ⟨b',p',O,Y⟩:=l2.attr A.s hj;have aa:h.read b' (p' + (j * 2+1)) 1=some [sQ al[j].2]:=by rw [← Nat.add_assoc];exact Fk (a:=1) (A.s.read Y) rfl
  simp only at E;simp only [seval,go_sem,ck,cj,l1,y1,g1,O,m0,m1,aa,E,r1,J,c2,g5,o5];exact fin
theorem e218c {j k:Nat} (A:DfB h G q2 q3 q8 lo al bl o v) (Y:j < al.length) (Z:k < bl.length) (U:al[j].2=bl[k].2) :
  Ans ctx 218 [iQ wQ j,iQ wQ k,jQ q8 0,jQ q2 0,jQ q3 0] h fun _ h'=>Gro h G h':=by
 refine aO Tryz.f218 ?_;simp only [Tryz.f218];obtain ⟨lv,l1,l2⟩:=A.l;obtain ⟨rv,y1,y2⟩:=A.r;obtain ⟨b,p,g1,O⟩:=y2.attr A.s Z;obtain ⟨b',p',z,D⟩:=l2.attr A.s Y;have J:decide ((k:Int) < 0)=false:=decide_eq_false tM;have I:decide ((j:Int) < 0)=false:=decide_eq_false tM;have m1:h.read b (p+(k * 2+1)) 1=some [sQ bl[k].2]:=by rw [← Nat.add_assoc];exact Fk (a:=1) (A.s.read O) rfl
 have E:h.read b' (p' + (j * 2+1)) 1=some [sQ bl[k].2]:=by rw [← U,← Nat.add_assoc];exact Fk (a:=1) (A.s.read D) rfl
 simp only [seval,go_sem,J,I,l1,y1,g1,z,m1,E];exact (Stp.refl A.s).up
end
section
variable {h h':H} {G G':Fz} {d b L p q:Nat} {m:D.M} {sl:List Sl} {k k1 k2:Hd}
variable {q2 q3 q8 lo:Nat} {al bl:Als} {o:List V.D.Sp} {v:AV}
abbrev dA (l r:Als):List V.D.Sp:=V.D.difA Op.bytesLess l r
theorem dA_r {r:Als} {b:Str × Str}:dA [] (b::r)=.set b.1 b.2::dA [] r:=rfl
theorem dA_l {l:Als} {a:Str × Str}:dA (a::l) []=.drop a.1::dA l []:=rfl
theorem dA_c {l r:Als} {a b:Str × Str}:dA (a::l) (b::r)=if Op.bytesLess a.1 b.1=true then .drop a.1::dA l (b::r) else if a.1=b.1 then (if a.2=b.2 then dA l r else .set b.1 b.2::dA l r) else .set b.1 b.2::dA (a::l) r:=rfl
theorem Avv {v0 lv rv:AV} (A:DfB h G q2 q3 q8 lo al bl [] v0) (hl:h.read q2 0 1=some [lv]) (hr:h.read q3 0 1=some [rv]) (h8:al.length+bl.length≤90) :
  Ans ctx 217 [lv,rv,.fn (.func 216) [] [],.fn (.func 216) [] [],.fn (.func 218) [] [jQ q8 0,jQ q2 0,jQ q3 0]] h fun _ h'=>Stp (OW q8 lo) h G h' G∧∃ v,DfB h' G q2 q3 q8 lo al bl (dA al bl) v:=by
 obtain ⟨lv',l1,la⟩:=A.l;rw [hl] at l1;cases l1;obtain ⟨ak,l1,ra⟩:=A.r;rw [hr] at l1;cases l1;have s:=A.s;refine aO Tryz.f217 ?_;simp only [Tryz.f217];simp only [seval,go_sem];have ll:=la.len;have rl:=ra.len;refine Ao (fun (ik:Nat × Nat) e h'=>(∃ v o,DfB h' G q2 q3 q8 lo al bl o v∧o.length≤ik.1+ik.2∧o++dA (al.drop ik.1) (bl.drop ik.2)=dA al bl)∧Stp (OW q8 lo) h G h' G∧ik.1≤al.length∧ik.2≤bl.length ∧
   (e.get 0=some lv∧e.get 1=some rv∧e.get 2=some (.fn (.func 216) [] [])∧e.get 3=some (.fn (.func 216) [] [])∧e.get 4=some (.fn (.func 218) [] [jQ q8 0,jQ q2 0,jQ q3 0]))∧e.get 10=some (iQ wQ ik.1)∧e.get 11=some (iQ wQ ik.2)) (fun ik=>al.length - ik.1+(bl.length - ik.2)) (0,0) ?_ ?_
 ·exact ⟨⟨v0,[],A,Nat.le_refl _,rfl⟩,Stp.refl s,Nat.zero_le _,Nat.zero_le _,by simp [Tr.get_set]⟩
 rintro ⟨i,k⟩ e h' ⟨⟨v,o,A',hn,J⟩,p,hi,hk,⟨O,U,Y,Z,e4⟩,z,E⟩ lp;simp only at hn J hi hk z E;have w:=wI i;have wk:=wI k;have step:∀ (i' k':Nat) (e:Env) (h2:H) (v2:AV) (o2:List V.D.Sp),al.length - i' + (bl.length - k') < al.length - i+(bl.length - k)→DfB h2 G q2 q3 q8 lo al bl o2 v2→o2.length≤i' + k'→o2++dA (al.drop i') (bl.drop k')=dA al bl→Stp (OW q8 lo) h G h2 G→i'≤al.length→k'≤bl.length →
   e.get 0=some lv∧e.get 1=some rv∧e.get 2=some (.fn (.func 216) [] [])∧e.get 3=some (.fn (.func 216) [] [])∧e.get 4=some (.fn (.func 218) [] [jQ q8 0,jQ q2 0,jQ q3 0])→e.get 10=some (iQ wQ i')→e.get 11=some (iQ wQ k')→Bq ctx 70 _ ⟨e,h2⟩ _ :=
  fun i' k' e' h2 v2 o2 hr a b c d f g y0 ai aj=>lp (i',k') e' h2 hr ⟨⟨v2,o2,a,b,c⟩,d,f,g,y0,ai,aj⟩
 clear lp;rcases Nat.lt_or_ge i al.length with aa | aa
 ·have ci:decide ((i:Int) < (al.length:Int))=true:=decide_eq_true tM;have af:decide ((i:Int)=(al.length:Int))=false:=decide_eq_false tM;have ac:=List.drop_eq_getElem_cons aa;rcases Nat.lt_or_ge k bl.length with I | I
  ·have ck:decide ((k:Int)=(bl.length:Int))=false:=decide_eq_false tM;have ag:=List.drop_eq_getElem_cons I;rw [ac,ag,dA_c] at J;obtain ⟨ab,ap,g1,g2⟩:=la.attr A'.s aa;obtain ⟨bb,bp,y1,y2⟩:=ra.attr A'.s I;have u1:Gro h' G ((h'.up 14).new (cQ [sQ al[i].1,sQ al[i].2] 112)):=(Stp.refl A'.s).up.new;have u2:Gro h' G (((h'.up 14).new (cQ [sQ al[i].1,sQ al[i].2] 112)).new (cQ [sQ bl[k].1,sQ bl[k].2] 112)):=u1.new;simp only [seval,go_sem,O,U,Y,Z,e4,z,E,ll,rl,ci,af,ck,g1,y1,A'.s.read g2,A'.s.read y2,name216,u1.st.read g2,u1.st.read y2,u2.st.read g2,u2.st.read y2,Ajc];have A3:=A'.gro u2;have p3:=p.in u2 (fun _ _ h=>h.elim);unfold cmpI
   by_cases c1:Op.bytesLess al[i].1 bl[k].1=true
   ·simp only [seval,go_sem,c1,if_true,O,U,Y,Z,e4,z,E];rw [if_pos c1] at J;refine Ae (e218a A3 aa tM) fun _ h2 ⟨p2,v2,A2⟩=>?_;simp only [seval,go_sem,O,U,Y,Z,e4,z,E,w];exact step (i+1) k _ _ _ _ tM A2 (by simp;omega) (by rw [List.append_assoc,ag];exact J) (p3.in p2 (fun _ _ h=>h)) tM tM (by simp [Tr.get_set,O,U,Y,Z,e4]) (by simp [Tr.get_set,z]) (by simp [Tr.get_set,E])
   ·rw [if_neg c1] at J
    by_cases c2:al[i].1=bl[k].1
    ·rw [if_pos c2] at J;simp only [seval,go_sem,if_neg c1,if_pos c2,O,U,Y,Z,e4,z,E]
     by_cases c3:al[i].2=bl[k].2
     ·rw [if_pos c3] at J;refine Ae (e218c A3 aa I c3) fun _ h2 p2=>?_;simp only [seval,go_sem,O,U,Y,Z,e4,z,E,w,wk];exact step (i+1) (k+1) _ _ _ _ tM (A3.gro p2) tM J (p3.in p2 (fun _ _ h=>h.elim)) tM tM (by simp [Tr.get_set,O,U,Y,Z,e4]) (by simp [Tr.get_set,z]) (by simp [Tr.get_set,E])
     ·rw [if_neg c3] at J;refine Ae (Axk A3 I tM (Or.inr ⟨i,rfl,aa,c3⟩)) fun _ h2 ⟨p2,v2,A2⟩=>?_;simp only [seval,go_sem,O,U,Y,Z,e4,z,E,w,wk];exact step (i+1) (k+1) _ _ _ _ tM A2 (by simp;omega) (by rw [List.append_assoc];exact J) (p3.in p2 (fun _ _ h=>h)) tM tM (by simp [Tr.get_set,O,U,Y,Z,e4]) (by simp [Tr.get_set,z]) (by simp [Tr.get_set,E])
    ·rw [if_neg c2] at J;simp only [seval,go_sem,c1,c2,if_true,if_false,O,U,Y,Z,e4,z,E];refine Ae (Axk A3 I tM (Or.inl rfl)) fun _ h2 ⟨p2,v2,A2⟩=>?_;simp only [seval,go_sem,O,U,Y,Z,e4,z,E,wk];exact step i (k+1) _ _ _ _ tM A2 (by simp;omega) (by rw [List.append_assoc,ac];exact J) (p3.in p2 (fun _ _ h=>h)) tM tM (by simp [Tr.get_set,O,U,Y,Z,e4]) (by simp [Tr.get_set,z]) (by simp [Tr.get_set,E])
  ·have ae:k=bl.length:=tM;subst ae;rw [ac,List.drop_length,dA_l] at J;simp only [seval,go_sem,O,U,Y,Z,e4,z,E,ll,rl,ci,af];refine Ae (e218a A' aa tM) fun _ h2 ⟨p2,v2,A2⟩=>?_;simp only [seval,go_sem,O,U,Y,Z,e4,z,E,w];exact step (i+1) bl.length _ _ _ _ tM A2 (by simp;omega) (by rw [List.append_assoc,List.drop_length];exact J) (p.in p2 (fun _ _ h=>h)) tM tM (by simp [Tr.get_set,O,U,Y,Z,e4]) (by simp [Tr.get_set,z]) (by simp [Tr.get_set,E])
 ·have ah:i=al.length:=tM;subst ah;have ci:decide ((al.length:Int) < (al.length:Int))=false:=decide_eq_false tM;rw [List.drop_length] at J;rcases Nat.lt_or_ge k bl.length with I | I
  ·have ck:decide ((k:Int) < (bl.length:Int))=true:=decide_eq_true tM;rw [List.drop_eq_getElem_cons I,dA_r] at J;simp only [seval,go_sem,O,U,Y,Z,e4,z,E,ll,rl,ci,ck];refine Ae (Axk A' I tM (Or.inl rfl)) fun _ h2 ⟨p2,v2,A2⟩=>?_;simp only [seval,go_sem,O,U,Y,Z,e4,z,E,wk];exact step al.length (k+1) _ _ _ _ tM A2 (by simp;omega) (by rw [List.append_assoc,List.drop_length];exact J) (p.in p2 (fun _ _ h=>h)) tM tM (by simp [Tr.get_set,O,U,Y,Z,e4]) (by simp [Tr.get_set,z]) (by simp [Tr.get_set,E])
  ·have ae:k=bl.length:=tM;subst ae;have ck:decide ((bl.length:Int) < (bl.length:Int))=false:=decide_eq_false tM;rw [List.drop_length] at J;have J:o=dA al bl:=by rw [← J];exact (List.append_nil _).symm
   simp only [seval,go_sem,O,U,Y,Z,e4,z,E,ll,rl,ci,ck];subst J;exact ⟨p,v,A'⟩
end
section
variable {h h':H} {G G':Fz} {d b L p q:Nat} {m:D.M} {sl:List Sl} {k k1 k2:Hd}
variable {q2 q3 q8 lo:Nat} {al bl:Als} {o:List V.D.Sp} {v:AV}
theorem ob314 {e:Env} {ps:List (Nat × Operand)}:Dn ctx e h 314 ps=match evp e ps with
  | some vs=>aggR h (lay (fun i=>some (i,1)) [(():AV),(():AV)] vs)
  | none=>none:=by
 unfold Dn;rw [Apy,Aqs];cases evp e ps with
 | none=>rfl
 | some vs=>simp only [s33,Nat.mul_one];rfl
theorem L4:∀ (al bl:Als),(dA al bl).length≤al.length+bl.length
 | [],bl=>by show (bl.map _).length≤_;rw [List.length_map];omega
 | a::al,[]=>by rw [dA_l,List.length_cons];have:=L4 al [];simp only [List.length_cons,List.length_nil] at this ⊢;omega
 | a::al,b::bl=>by
  rw [dA_c];have h1:=L4 al (b::bl);have h2:=L4 al bl;have h3:=L4 (a::al) bl;simp only [List.length_cons] at h1 h2 h3 ⊢;split
  ·simp only [List.length_cons];omega
  ·split
   ·split
    ·omega
    ·simp only [List.length_cons];omega
   ·simp only [List.length_cons];omega
theorem Aix {lv E:AV} (s:St h G) (la:Arr G 2 lv al.length (Ax al)) (ra:Arr G 2 E bl.length (Ax bl)) (Y:okA al) (Z:okA bl) :
  Ans ctx 195 [lv,E] h fun w h'=>∃ G' v,w=.tup [v,iQ wQ 0]∧Stp (fun _=>False) h G h' G'∧Arr G' 3 v (dA al bl).length (Nb (dA al bl)):=by
 refine aO Tryz.f195 ?_;simp only [Tryz.f195];have o1:=la.one;have o2:=ra.one;have p0:Gro h G ((h.new (cQ [lv] 33)).new (cQ [E] 33)):=(Stp.refl s).new.new;have r0:((h.new (cQ [lv] 33)).new (cQ [E] 33)).read h.nx 0 1=some [lv]:=rL;simp only [seval,go_sem,o1,o2,ob314,Q8,r0];have g0:((h.new (cQ [lv] 33)).new (cQ [E] 33)).m.get h.nx=some (cQ [lv] 33):=gL;have g1:=lG g0 (h.nx+1) (cQ [E] 33);have nS:((h.new (cQ [lv] 33)).new (cQ [E] 33)).nx=h.nx+2:=rfl;generalize hS:((h.new (cQ [lv] 33)).new (cQ [E] 33))=S at *;refine Ao (fun (i:Nat) e h'=>Gro S G h'∧i≤2∧e.get 2=some (jQ h.nx 0)∧e.get 3=some (jQ (h.nx+1) 0)∧e.get 13=some (gQ [lv,E])∧e.get 14=some (iQ wQ i)) (fun i=>2 - i) 0 ?_ ?_
 ·exact ⟨Stp.refl p0.st,tM,by simp [Tr.get_set]⟩
 rintro i e I ⟨p,hi,J,O,z,D⟩ lp
 match i,hi with
 | 0,_ =>
  have w:IntKind.i64.wrap ((0:Int)+1)=((1:Nat):Int):=by decide
  have w2:((0:Nat):Int)=0:=rfl;simp only [seval,go_sem,J,O,z,D,w,w2];have w3:IntKind.i64.wrap 1=1:=by decide
  have w4:IntKind.i64.wrap 2=2:=by decide
  refine Ae (Mv p.st la Y) fun _ h3 ⟨q1,U⟩=>?_;subst q1;simp only [seval,go_sem,J,O,z,D,w,w2];exact lp 1 _ _ tM ⟨p.trans U,tM,by simp [Tr.get_set,J],by simp [Tr.get_set,O],by simp [Tr.get_set,z],by simp [Tr.get_set,w3]⟩
 | 1,_ =>
  have w:IntKind.i64.wrap ((1:Int)+1)=((2:Nat):Int):=by decide
  have w2:((1:Nat):Int)=1:=rfl;simp only [seval,go_sem,J,O,z,D,w,w2];have w3:IntKind.i64.wrap 1=1:=by decide
  have w4:IntKind.i64.wrap 2=2:=by decide
  refine Ae (Mv p.st ra Z) fun _ h3 ⟨q1,U⟩=>?_;subst q1;simp only [seval,go_sem,J,O,z,D,w,w2];exact lp 2 _ _ tM ⟨p.trans U,tM,by simp [Tr.get_set,J],by simp [Tr.get_set,O],by simp [Tr.get_set,z],by simp [Tr.get_set,w4]⟩
 | 2,_ =>
  have w:decide (((2:Nat):Int) < 2)=false:=by decide
  have k0:=p.gt p0.st.1 g0 (fun h=>h);have k1:=p.gt p0.st.1 g1 (fun h=>h);have l2:=p.nx;have U:Gro S G (I.new (cQ [(():AV)] 234)):=p.new;have L0:(I.new (cQ [(():AV)] 234)).read h.nx 0 1=some [lv]:=by rw [Bc tM];exact (Ab k0).trans rfl
  have L1:(I.new (cQ [(():AV)] 234)).read (h.nx+1) 0 1=some [E]:=by rw [Bc tM];exact (Ab k1).trans rfl
  simp only [seval,go_sem,J,O,z,D,w,L0,L1];have A:DfB (I.new (cQ [(():AV)] 234)) G h.nx (h.nx+1) I.nx (I.nx+1) al bl [] (():AV) :=
   ⟨U.st,⟨Au,Or.inl ⟨rfl,rfl,rfl⟩,(fun j hj=>by rcases hj with ⟨_,e⟩ | e <;> cases e),p.st.none (Nat.le_refl _),tM,by simp only [Ac];omega⟩,⟨lv,L0,la⟩,⟨E,L1,ra⟩,tM,Nat.zero_le _⟩
  refine Ae (Avv A L0 L1 (by have:=Y.2;have:=Z.2;omega)) fun _ h3 ⟨p4,v3,A3⟩=>?_;have r8:=A3.ob.rd;have p5:=(p0.trans U).in p4 (W2:=OW I.nx (I.nx+1)) (fun j hj hw=>by rcases hw with hw | hw <;> omega);obtain ⟨G2,p6,aa,ax⟩:=A3.ob.o.frz2 p5 tM A3.ob.f;simp only [seval,go_sem,r8];refine Ae (clip219 ax) fun v4 h4 ⟨z2,q⟩=>?_;subst q;simp only [seval,go_sem];exact ⟨G2,v4,rfl,p6,z2⟩
end
section
variable {h h':H} {G G':Fz} {d b L p q:Nat} {m:D.M} {sl:List Sl} {k k1 k2:Hd}
theorem Mm:∀ l:List Nat,Af (l.map fun i:Nat=>AV.int wQ i)=true
 | []=>rfl
 | x::l=>by rw [List.map_cons,R0,Mm l];rfl
def RSa (G:Fz) (sa:V.D.Sp) (op:Nat) (nm vl:Str) (a t:Int) (tr:List AV):Prop:=tr.length=6∧Af tr=true∧match sa with
 | .drop n=>op=1∧nm=n
 | .set n v=>op=2∧nm=n∧vl=v
 | .txt v=>op=3∧vl=v
 | .free k=>op=4∧a=(k:Nat)
 | .mnt k t'=>op=5∧t=(k:Nat)∧RT G t' tr
 | .mov k j=>op=6∧a=(k:Nat)∧t=(j:Nat)
theorem RSa.sp {G G':Fz} (g:Fz.Le G G') {sa:V.D.Sp} {op:Nat} {nm J:Str} {a t:Int} {I:List AV} {path:List Nat} {E:AV} (r:RSa G sa op nm J a t I) (Y:Arr G' 1 E path.length (path.map fun i:Nat=>AV.int wQ i)):RSp G' ⟨path,sa⟩ (spC op E nm J a t I):=by
 obtain ⟨O,U,z⟩:=r;refine ⟨op,E,nm,J,a,t,I,rfl,Y,O,U,?_⟩;cases sa with
 | mnt k t=>exact ⟨z.1,z.2.1,z.2.2.mono g⟩
 | _=>exact z
theorem RSs.app {G:Fz}:∀ {l:List V.D.Sx} {cs:List AV} {s:V.D.Sx} {x:List AV},RSs G l cs→RSp G s x→RSs G (l++[s]) (cs++x)
 | [],cs,s,x,h,r=>by rw [show cs=[] from h];exact ⟨x,[],by simp,r,rfl⟩
 | a::l,cs,s,x,⟨y,z,h1,h2,h3⟩,r=>⟨y,z++x,by rw [h1,List.append_assoc],h2,RSs.app h3 r⟩
theorem RSs.one {G:Fz}:∀ {l:List V.D.Sx} {cs:List AV},RSs G l cs→Af cs=true
 | [],cs,h=>by rw [show cs=[] from h];rfl
 | s::l,cs,⟨x,r,h1,h2,h3⟩=>by rw [h1,A7,h2.one,RSs.one h3];rfl
structure Wr (h:H) (G:Fz) (q:Nat) (v:AV) (ss:List V.D.Sx):Prop where
 s:St h G
 g:h.m.get q=some (cQ [v] 191)
 gq:G q=none
 c:∃ cs,RSs G ss cs∧(v=(():AV)∧ss=[]∧cs=[]∨∃ j,v=.sr j 0 0 ss.length∧h.m.get j=some (oQ cs ss.length 189 12)∧G j=none∧j≠q)
abbrev WB (q:Nat) (v:AV):Nat→Prop:=fun i=>i=q∨VB v i
theorem Wr.vb {q:Nat} {v:AV} {J:List V.D.Sx} (A:Wr h G q v J) {i:Nat} (I:WB q v i):i < h.nx:=by
 rcases I with rfl | ⟨n,e⟩
 ·exact Ah A.s.1 A.g
 ·obtain ⟨cs,_,⟨z,_⟩ | ⟨j,z,E,_⟩⟩:=A.c
  ·rw [z] at e;cases e
  ·rw [z] at e;cases e;exact Ah A.s.1 E
theorem Wr.mv {W:Nat→Prop} {q:Nat} {v:AV} {J:List V.D.Sx} (A:Wr h G q v J) (p:Stp W h G h' G') (hw:∀ i,W i→¬ WB q v i):Wr h' G' q v J:=by
 have Y:=Ah A.s.1 A.g;refine ⟨p.st,p.gt A.s.1 A.g (fun h=>hw _ h (Or.inl rfl)),(p.old _ Y).trans A.gq,?_⟩;obtain ⟨cs,r,z⟩:=A.c;refine ⟨cs,r.mono (p.le A.s),?_⟩;rcases z with z | ⟨j,E,I,O,U⟩
 ·exact Or.inl z
 ·exact Or.inr ⟨j,E,p.gt A.s.1 I (fun h=>hw _ h (Or.inr ⟨_,E⟩)),(p.old _ (Ah A.s.1 I)).trans O,U⟩
theorem Jo {v:AV} {ss:List V.D.Sx} {sa:V.D.Sp} {op:Nat} {nm I:Str} {a t:Int} {tr:List AV} {path:List Nat} {pv:AV} (A:Wr h G q v ss) (hr:RSa G sa op nm I a t tr) (hp:Arr G 1 pv path.length (path.map fun i:Nat=>AV.int wQ i)) (hn:ss.length < 10000) (av:path.length≤100) :
  Ans ctx 157 [jQ q 0,gQ (spC op (():AV) nm I a t tr),pv] h fun _ h'=>∃ G' v',Stp (WB q v) h G h' G'∧Wr h' G' q v' (ss++[⟨path,sa⟩])∧∀ i,VB v' i→h.nx≤i:=by
 have lq:=Ah A.s.1 A.g;obtain ⟨cs,rs,ab⟩:=A.c;have own:Own h 0 189 12 v ss.length cs:=by
  rcases ab with ⟨e1,Z,e3⟩ | ⟨j,e1,Z,_⟩
  ·exact Or.inl ⟨e1,by rw [Z];rfl,e3⟩
  ·exact Or.inr (Or.inr ⟨j,Nat.zero_le _,e1,Z,rs.len⟩)
 have gv:∀ j,VB v j→G j=none∧j≠q:=fun j E=>by
  rcases ab with ⟨e1,_⟩ | ⟨j',e1,_,e3,e4⟩
  ·obtain ⟨_,e⟩:=E;rw [e1] at e;cases e
  ·obtain ⟨_,e⟩:=E;rw [e1] at e;cases e;exact ⟨e3,e4⟩
 refine aO Tryz.f157 ?_;simp only [Tryz.f157];have ho:=hr.2.1;have ae:=hr.1;have au:=hp.one;have p0:Gro h G (h.new (cQ (spC op (():AV) nm I a t tr) 189)):=(Stp.refl A.s).new;simp only [seval,go_sem,ho,ae];refine Ae (Abe p0.st hp tM (Mm path)) fun az O ⟨o1,p1⟩=>?_;have nG:∀ j,h.nx≤j→G j=none:=fun j E=>A.s.none E;obtain ⟨G2,p2,aw,ax⟩:=o1.frz2 p1 (Nat.le_refl _) (fun j E=>by
  rcases E with E | E
  ·have:=o1.vb E;simp only [Ac] at this;exact nG j tM
  ·rcases o1 with ⟨e,_⟩ | ⟨q',y,e,_⟩ | ⟨q',y,e,_⟩
   ·rw [e] at E;cases E
   ·rw [e] at E;cases E;simp only [Ac] at y;exact nG j tM
   ·rw [e] at E;cases E)
 obtain ⟨z,hx,Z,ag,ao⟩:=clip198 (h:=O) ax;rw [ao] at Z;have g0:=p1.gt p0.st.1 (i:=h.nx) Au (fun h=>h);have aa:=ag.one;have l1:=p1.nx;simp only [Ac] at l1;have U:(spC op z nm I a t tr).length=12:=by simp only [spC,List.length_cons,ae]
 have xo:Af (spC op z nm I a t tr)=true:=by simp only [spC,R0,Sc,Sb,aa,ho,Bool.and_self]
 have am:G2 h.nx=none:=(p2.old _ (by simp only [Ac];omega)).trans (nG _ (Nat.le_refl _));have q1:Stp (fun _=>False) h G (O.at h.nx (cQ (spC op z nm I a t tr) 189)) G2:=(p0.trans p2).at (Or.inl (Nat.le_refl _)) tM am;have ak:G2 (O.nx+6)=none:=q1.st.none (by simp only [Ag];omega);have Y:Stp (fun _=>False) h G (((O.at h.nx (cQ (spC op z nm I a t tr) 189)).up 11).at (O.nx+6) (cQ (spC op z nm I a t tr) 189)) G2:=(q1.up).at (Or.inl tM) (by simp only [Ai,Ag];omega) ak;have aj:=own.mv Y A.s.1 (fun _ _ h=>h);have an:=Y.gt A.s.1 A.g (fun h=>h);have r1:=(Ab (q1.gt A.s.1 A.g (fun h=>h)):_).trans (show Aq 0 1 (Blk.cells [v] 191).cs=some [v] from rfl);have lt:=lq;have ap:=own.len;have ac:=rs.one;obtain ⟨v',h5,c5,ai,ay,af,J⟩:=Di (C:=ctx) (k:=0) (new:=(spC op z nm I a t tr)) aj tM (Be (by rw [by189];omega) tM) (by rw [A7,ac,xo];rfl) (by rw [U]) (Nat.zero_le _) Y.st (fun j E=>(Y.old _ (A.vb (Or.inr E))).trans (gv j E).1);have o5:=ai.one;have g5:=af.gt Y.st.1 an (fun hh=>(gv _ hh).2 rfl);have ov:=overZ U;have rX:(O.at h.nx (cQ (spC op z nm I a t tr) 189)).read h.nx 0 12=some (spC op z nm I a t tr):=(Ab Ap).trans (by rw [← U];exact Aj);have a0:(((O.at h.nx (cQ (spC op z nm I a t tr) 189)).up 11).at (O.nx+6) (cQ (spC op z nm I a t tr) 189)).read h.nx 0 12=some (spC op z nm I a t tr):=(Ab ((An tM).trans ((Az).trans Ap))).trans (by rw [← U];exact Aj);have aq:O.read q 0 1=some [v]:=by
  rw [Ck tM] at r1;exact r1
 have n1:(q=h.nx)=False:=eq_false tM;have n2:(q=O.nx+6)=False:=eq_false tM;have n3:(h.nx=O.nx+6)=False:=eq_false tM;have n4:(h.nx=q)=False:=eq_false tM;have tk:K8 6 tr=some tr:=by rw [P9,if_pos tM,List.take_of_length_le tM]
 simp only [seval,go_sem,Z,g0,aa,tk,ho,ae,r1,aq,rX,ov,xo,U,ap,c5,g5,o5,n1,n2,n3,n4];have ah:G2 q=none:=(Y.old _ lq).trans A.gq;have ar:Stp (WB q v) _ G2 (h5.at q (cQ [v'] 191)) G2:=(af.mono (W':=WB q v) fun _ h=>Or.inr h).at (Or.inr (Or.inl rfl)) (Ah af.st.1 g5) ah;have qf:=(Y.mono (W':=WB q v) fun _ h=>h.elim).in ar (fun _ _ h=>h);have le:=Y.le A.s;have hl:(ss++[(⟨path,sa⟩:V.D.Sx)]).length=ss.length+(0+1):=by simp
 simp only [Ag,Ai] at J;refine ⟨G2,v',qf,⟨qf.st,Ap,ah,_,(rs.mono le).app (hr.sp le ag),Or.inr ⟨O.nx+11,?_,?_,?_,?_⟩⟩,fun i hi=>?_⟩
 ·rw [J,hl]
 ·rcases ai with ⟨e,_⟩ | ⟨_,_,e,_⟩ | ⟨q',_,e,Z,_⟩
  ·rw [J] at e;cases e
  ·rw [J] at e;cases e
  ·rw [J] at e;cases e;rw [An tM,hl];exact Z
 ·exact Y.st.none (by simp only [Ag,Ai];omega)
 ·omega
 ·obtain ⟨_,e⟩:=hi;rw [J] at e;cases e;omega
end
end Go.V
