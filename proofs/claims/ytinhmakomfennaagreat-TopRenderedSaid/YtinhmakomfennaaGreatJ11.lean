/- Own lemmas. -/
import Derived.Test.YtinhmakomfennaaGreatJ10
set_option linter.unusedSimpArgs false
set_option linter.unusedVariables false
set_option linter.unusedSectionVars false
set_option maxRecDepth 10000
set_option maxHeartbeats 2000000
namespace Go.V
open AV renaming int→iQ,ptr→jQ,str→sQ,bool→bQ,raw→kQ,agg→gQ
open Blk renaming cells→cQ,row→oQ
open IntKind renaming u32→uQ,i64→wQ,u8→vQ
open Go Go.Proofs
open D (Hd Nd HT Als Str)
attribute [local go_sem] Nj Nh Kd Hz Ng Hy Ni H0 Akm Sy Kc Ke Alp Alo Aln Alm Acp Acq Kg Akk Akl Ane Akn Ako Akf Akg Akh Akp Kf Nz Iq N1 Ky N0 Tz Ty T1 T0 N2 Nl H1 Nk Kk S9 Kj Ald Nn Ki S7 Ta Akq Np Akv Aku Akt Akr Ala Akz Aky Akx Akw Aks S8 r_b Aoq Alc Alb Apt Sj Kv H7 Oa Kw Ajx Lt F8 J2 N4 H8 N3 K1 Ud Kz Aoa N5 e_nil Ue Anq N6 Anu Ant Anr Anz Anx Anw Anv Uc e_b H.eta Je Ai Ac Acg Zt Abz Aby Ib Ha Q4 Tl Amo Amn Ams Amq Amr Ed O6 Apk Apw Tx Ts Tt Acr Z0 Acv Acu Ann Anm Ano T4 T3 Apq Apo App Apr Uq Apn Aof N7 K3 Aoc Aod Aoi S3 Alr Aoh Aog Aol Aop Aom Aoo Aon de Aok Aoj vj Alk All Nf Aki Tf Th Td Uo Un Anb Amz Ana T5 Ale Apm Ag Ami Amg Q2 Amd Qv Bc Qw Ck Ca Bh Cd Bb Az pt_u Alg Akj T6 Anl Anj Ank Gt Aed Ang Abn Aeu Apc Apb Aoy Apa Aot Aov Aox Aou Aow Aoz Aos S4 Lh Ug Aoe Abi Ti Apg Apd Amu Apl Sc Amc Sb Alv Aly Alu Alx Amb Alw Alt Ama Alz Abj R0 gd Il envOf O3 Fw En rd1 I6 O1 O4 I4 Nr chr oUn I2 Da Sg Lj elem Tr.get_set bin Y1 Y0 Abg asB Aaf nat? O5 Eo Jc Jd Fb I9 nth Cm tb mgJ Rn E9 O8 K9 Ld I3 Bv O2 I5 Hr Jg wr Fx Fu opt Bs Ji Br Gj Hn G7 Fv Eh Jq Lg Hm zOk append Oq Lk Em rep eqL Option.getD
attribute [local go_sem] a3 a4 a5 a9 a22 a24 a25 a27 a28 a29 a31 a33 a34 a36 a37 a40 a41 a43 a45 a46 a48 a50 a53 a55 a70 a77 a85 a100 a103 a106 a110 a112 a119 a121 a124 a130 a179 a180 a181 a189 a195 a200 a205 a212 a234 a243 a251 a256 a274 a279 s1 s2 s3 s4 s5 s9 s22 s24 s25 s27 s28 s29 s31 s33 s34 s36 s37 s40 s41 s43 s45 s46 s48 s50 s53 s55 s70 s77 s85 s100 s103 s105 s106 s110 Ake s119 s121 s124 s130 Auc s180 s181 Aub s195 s200 s205 s212 s232 s234 s243 Aua s256 s274 s279 u3 u9 u22 u25 u28 u29 u33 u34 u40 u41 u48 u53 u77 u103 u106 Aqx u131 u180 Aqw u216 Aqv u243 Aqu Aqt Aqs Ais Air Aiq Aip Aio Ain Aim Ail Aik Aij Aii Aih Aig Aif Aie Aid Aic Aib Aia Ahz Ahy Ahx Ahw Ahv Ahu Aht Ahs Ahr Ahq Ahp Yp Yn Ym Yl Yk Yj Yi Yh Yg Yf Ye Yd Yb Ya X9 X8 X7 X5 X4 X3 X0 Xz Xy Xx Xw Xv Xu Xt Xs Xr Xq Xn Xm Xl Xk Xj Xi Xh Xg z3 z4 z9 z28 z29 z31 z33 z34 z36 z37 z41 z43 z50 z53 z55 z70 z77 z85 z100 z103 z106 z108 z110 z112 z118 z119 z121 z126 z130 z179 z180 z181 z189 z191 z204 z205 z212 z216 z232 z234 z243 z251 Aqa z256 Apz Abs z279 Apy k31 Aha Agz Agy Agx Agw Agv k36 Agu Agt Ags Agr Agq Agp k43 Ago Agn Agm Agl k50 Agk Agj k55 Agi Agh Agg Agf Age Agd Agc Agb Aga k70 Afz k108 Wt Ws Wq Wp k112 Wo Wn k118 Wm k126 Wl Wk k130 Wj Wi Wh k179 Wg We Wd k189 Wc Wb V9 V8 V7 V6 V5 k212 V4 V3 V2 V1 k232 V0 Vz k251 Vy k279 Vx Vw Vv Vu e4 e33 e46 e50 l50 e53 e77 e112 l112 e144
attribute [local go_sem] Nat.mul_one Nat.one_mul Nat.add_eq_left Nat.left_eq_add Nat.le_refl Nat.lt_irrefl Nat.zero_le Nat.not_le not_false_eq_true not_true_eq_false Bool.false_eq_true Bool.not_true Bool.not_false List.length_cons List.length_nil List.nil_append List.cons_append Nat.zero_add Nat.add_zero Nat.add_assoc decide_true decide_false true_and and_true List.getElem?_cons_succ List.getElem?_cons_zero bne_self_eq_false beq_self_eq_true Bool.not_eq_true decide_not exists_eq_left exists_eq_left' Option.some.injEq List.all_cons List.all_nil Bool.and_true Bool.true_and Bool.false_and Bool.and_false Bool.and_self Bool.false_or Bool.or_false Bool.true_or Bool.or_true
section
variable {h h':H} {G G':Fz} {d b L p q:Nat} {m:D.M} {sl:List Sl} {k k1 k2:Hd}
theorem Afl:∀ (l:List V.D.Sp) (j:Nat) (hj:j < l.length),((Nb l).drop (j * 3)).take 3=spE l[j]
 | s::l,0,_=>by
  have:=Afm s;show ((spE s++Nb l).drop (0 * 3)).take 3=_;rw [Nat.zero_mul,List.drop_zero,← this,List.take_left']
  ·rfl
  ·rfl
 | s::l,j+1,hj=>by
  have:=Afm s;show ((spE s++Nb l).drop ((j+1) * 3)).take 3=_;rw [show (j+1) * 3=(spE s).length+j * 3 by omega,List.drop_append];simp only [List.drop_eq_nil_of_le (show (spE s).length≤(spE s).length+j * 3 by omega),List.nil_append,Nat.add_sub_cancel_left];exact Afl l j (Nat.lt_of_succ_lt_succ hj)
theorem Arr.edt {h:H} (s:St h G) {l:List V.D.Sp} {v:AV} {j:Nat} (a:Arr G 3 v l.length (Nb l)) (z:j < l.length):∃ b o,ixA 3 j v=some (jQ b (o+j * 3))∧G.read b (o+j * 3) 3=some (spE l[j]):=by
 obtain ⟨b,o,E,I⟩:=a.el s z;exact ⟨b,o,E,by rw [Fz.cut I tM,Afl l j z]⟩
structure WStp (h:H) (G:Fz) (q:Nat) (v:AV) (h':H) (G':Fz) (v':AV):Prop where
 st:Stp (WB q v) h G h' G'
 nw:∀ i,VB v' i→h.nx≤i∨VB v i
theorem WStp.trans {q:Nat} {v I Y:AV} {O:H} {J:Fz} {Z:List V.D.Sx} (a:WStp h G q v h' G' I) (A:Wr h' G' q I Z) (b:WStp h' G' q I O J Y):WStp h G q v O J Y :=
 ⟨a.st.in b.st (fun i U E=>by
  rcases E with E | E
  ·exact Or.inl E
  ·rcases a.nw i E with z | z
   ·omega
   ·exact Or.inr z),fun i U=>by
  rcases b.nw i U with z | z
  ·exact Or.inl (Nat.le_trans a.st.nx z)
  ·exact a.nw i z⟩
theorem WStp.gro {q:Nat} {v E:AV} {D:H} {z:Fz} (a:WStp h G q v h' G' E) (p:Stp (fun _=>False) h' G' D z):WStp h G q v D z E :=
 ⟨a.st.trans (p.mono fun _ h=>h.elim),a.nw⟩
theorem own153 {v:AV} {ss:List V.D.Sx} {o n:T} {X Y:List AV} {path:List Nat} {pv:AV} (A:Wr h G q v ss) (hX:RT G o X) (hY:RT G n Y) (ap:okA o.attrs) (aq:okA n.attrs) (a0:Arr G 1 pv path.length (path.map fun i:Nat=>AV.int wQ i)) (hn:ss.length+20 < 10000) (an:path.length≤100) :
  Ans ctx 153 [jQ q 0,gQ X,gQ Y,pv] h fun _ h'=>∃ G' v',WStp h G q v h' G' v'∧Wr h' G' q v' (ss++(V.D.ownS Op.bytesLess o n).map (V.D.Sx.mk path)):=by
 have xo:=hX.one;have yo:=hY.one;have x6:=hX.len;have y6:=hY.len;obtain ⟨ag,ai,ah,O,oal,aA⟩:=o;obtain ⟨ac,af,ae,U,nal,a8⟩:=n;obtain ⟨xa,xc,aG,rfl,au,_,_⟩:=hX;obtain ⟨ya,yc,aH,rfl,av,_,_⟩:=hY;have ap:okA oal:=ap;have aq:okA nal:=aq;have o8:=ap.2;have n8:=aq.2;have au:Arr G 2 xa oal.length (Ax oal):=au;have av:Arr G 2 ya nal.length (Ax nal):=av;refine aO Tryz.f153 ?_;simp only [Tryz.f153];have p0:∀ {A B},Gro h G ((h.new A).new B):=(Stp.refl A.s).new.new
 by_cases ht:O=U
 ·subst ht;simp only [seval,go_sem,xo,yo];have W0:WStp h G q v ((h.new (cQ [iQ vQ ag,sQ ai,sQ ah,xa,sQ O,xc] 36)).new (cQ [iQ vQ ac,sQ af,sQ ae,ya,sQ O,yc] 36)) G v:=⟨p0.mono fun _ h=>h.elim,fun _ h=>Or.inr h⟩;have A0:=A.mv (p0 (A:=(cQ [iQ vQ ag,sQ ai,sQ ah,xa,sQ O,xc] 36)) (B:=(cQ [iQ vQ ac,sQ af,sQ ae,ya,sQ O,yc] 36))) (fun _ h=>h.elim);have ak:Fz.Le G G:=Fz.Le.refl;have aw:ss.length≤ss.length+1:=tM;refine Ae (Aix A0.s (au.mono ak) (av.mono ak) ap aq) fun _ h3 ⟨G3,dv,e3,p3,ax⟩=>?_;subst e3;have A3:=A0.mv p3 (fun _ h=>h.elim);have w3:=W0.gro p3;have a6:=p3.le A0.s;have ay:=ax.len;simp only [seval,go_sem,ay];have dl:=L4 oal nal;refine Ao (fun (i:Nat) e h'=>(∃ G4 v4,WStp h G q v h' G4 v4∧Wr h' G4 q v4 (ss++((dA oal nal).take i).map (V.D.Sx.mk path))∧Fz.Le G3 G4∧h3.nx≤h'.nx)∧i≤(dA oal nal).length∧e.get 0=some (jQ q 0)∧e.get 3=some pv∧e.get 31=some dv∧e.get 32=some (iQ wQ (dA oal nal).length)∧e.get 33=some (iQ wQ i)) (fun i=>(dA oal nal).length - i) 0 ?_ ?_
  ·exact ⟨⟨G3,_,w3,by simpa using A3,Fz.Le.refl,Nat.le_refl _⟩,Nat.zero_le _,by simp [Tr.get_set]⟩
  rintro i e h4 ⟨⟨G4,v4,w4,Z,aa,aD⟩,hi,e0,e3,E,I,e33⟩ lp;simp only [seval,go_sem,E,I,e33];refine Cr (fun z=>?_) (fun z=>?_)
  ·have z:i < (dA oal nal).length:=by simpa using z
   have w:=wI i;obtain ⟨cb,co,am,J⟩:=Arr.edt Z.s (ax.mono aa) z;have aj:(dA oal nal).take (i+1)=(dA oal nal).take i++[(dA oal nal)[i]]:=List.take_succ_eq_append_getElem z;have ab:=V.D.difA_mem oal nal _ (List.getElem_mem z);have ar:=(a0.mono (ak.trans a6)).mono aa;have ao:(ss++((dA oal nal).take i).map (V.D.Sx.mk path)).length < 10000:=by have:=aw;rw [List.length_append,List.length_map,List.length_take];omega
   generalize (dA oal nal)[i]=sa at J aj ab;have pq:∀ {B},Gro h4 G4 ((h4.new (cQ [sQ [],bQ false,sQ []] 179)).at h4.nx B):=fun {B}=>((Stp.refl Z.s).new).at (Or.inl (Nat.le_refl _)) (by simp only [Ac];omega) (Z.s.none (Nat.le_refl _));rcases ab with ⟨a,_,rfl⟩ | ⟨a,_,rfl⟩
   ·have J:G4.read cb (co+i * 3) 3=some [sQ a.1,bQ true,sQ []]:=J;simp only [seval,go_sem,e0,e3,E,I,e33,am,Z.s.read J,w];have A5:=Z.mv (pq (B:=(cQ [sQ a.1,bQ true,sQ []] 179))) (fun _ h=>h.elim);refine Ae (Jo (sa:=.drop a.1) A5 ⟨rfl,rfl,rfl,rfl⟩ (ar) ao an) fun _ h5 ⟨G5,v5,p5,A6,n6⟩=>?_;simp only [seval,go_sem,e0,e3,E,I,e33,w];have wz:=(w4.gro (pq (B:=(cQ [sQ a.1,bQ true,sQ []] 179)))).trans A5 ⟨p5,fun i hi=>Or.inl (n6 i hi)⟩;refine lp (i+1) _ _ tM ⟨⟨G5,v5,wz,?_,aa.trans (p5.le A5.s),?_⟩,z,by simp [Tr.get_set,e0,e3,E,I]⟩
    ·rw [aj,List.map_append,← List.append_assoc];exact A6
    ·have:=p5.nx;simp only [Ag,Ac] at this;omega
   ·have J:G4.read cb (co+i * 3) 3=some [sQ a.1,bQ false,sQ a.2]:=J;simp only [seval,go_sem,e0,e3,E,I,e33,am,Z.s.read J,w];have A5:=Z.mv (pq (B:=(cQ [sQ a.1,bQ false,sQ a.2] 179))) (fun _ h=>h.elim);refine Ae (Jo (sa:=.set a.1 a.2) A5 ⟨rfl,rfl,rfl,rfl,rfl⟩ (ar) ao an) fun _ h5 ⟨G5,v5,p5,A6,n6⟩=>?_;simp only [seval,go_sem,e0,e3,E,I,e33,w];have wz:=(w4.gro (pq (B:=(cQ [sQ a.1,bQ false,sQ a.2] 179)))).trans A5 ⟨p5,fun i hi=>Or.inl (n6 i hi)⟩;refine lp (i+1) _ _ tM ⟨⟨G5,v5,wz,?_,aa.trans (p5.le A5.s),?_⟩,z,by simp [Tr.get_set,e0,e3,E,I]⟩
    ·rw [aj,List.map_append,← List.append_assoc];exact A6
    ·have:=p5.nx;simp only [Ag,Ac] at this;omega
  ·have z:(dA oal nal).length≤i:=by simpa using z
   have az:i=(dA oal nal).length:=tM;subst az;rw [List.take_length] at Z;simp only [seval,go_sem];refine ⟨G4,v4,w4,?_⟩;have:V.D.ownS Op.bytesLess (.nd ag ai ah O oal aA) (.nd ac af ae O nal a8)=dA oal nal:=by show (if O=O then [] else _)++_=_;rw [if_pos rfl,List.nil_append];rfl
   rw [this];exact Z
 ·simp only [seval,go_sem,xo,yo,ht];refine Ae (Jo (sa:=.txt U) (A.mv p0 (fun _ h=>h.elim)) ⟨rfl,rfl,rfl,rfl⟩ a0 tM an) fun _ h2 ⟨G2,v2,p2,A2,n2⟩=>?_;have W0:WStp h G q v h2 G2 v2:=(WStp.gro ⟨Stp.refl A.s,fun _ h=>Or.inr h⟩ (p0 (A:=(cQ [iQ vQ ag,sQ ai,sQ ah,xa,sQ O,xc] 36)) (B:=(cQ [iQ vQ ac,sQ af,sQ ae,ya,sQ U,yc] 36)))).trans (A.mv p0 (fun _ h=>h.elim)) ⟨p2,fun i hi=>Or.inl (n2 i hi)⟩;have a7:∀ {i},WB q v i→i < h.nx:=A.vb;have aB:=p2.gt (p0 (A:=(cQ [iQ vQ ag,sQ ai,sQ ah,xa,sQ O,xc] 36)) (B:=(cQ [iQ vQ ac,sQ af,sQ ae,ya,sQ U,yc] 36))).st.1 (i:=h.nx) (b:=(cQ [iQ vQ ag,sQ ai,sQ ah,xa,sQ O,xc] 36)) gL (fun hh=>by have:=a7 hh;omega);have aC:=p2.gt (p0 (A:=(cQ [iQ vQ ag,sQ ai,sQ ah,xa,sQ O,xc] 36)) (B:=(cQ [iQ vQ ac,sQ af,sQ ae,ya,sQ U,yc] 36))).st.1 (i:=h.nx+1) (b:=(cQ [iQ vQ ac,sQ af,sQ ae,ya,sQ U,yc] 36)) gL (fun hh=>by have:=a7 hh;omega);have aw:(ss++[(⟨path,.txt U⟩:V.D.Sx)]).length≤ss.length+1:=by simp
  have ak:=W0.st.le A.s;have aE:h2.read h.nx 3 1=some [xa]:=(Ab aB).trans rfl;have aF:h2.read (h.nx+1) 3 1=some [ya]:=(Ab aC).trans rfl;simp only [seval,go_sem,aE,aF];refine Ae (Aix A2.s (au.mono ak) (av.mono ak) ap aq) fun _ h3 ⟨G3,dv,e3,p3,ax⟩=>?_;subst e3;have A3:=A2.mv p3 (fun _ h=>h.elim);have w3:=W0.gro p3;have a6:=p3.le A2.s;have ay:=ax.len;simp only [seval,go_sem,ay];have dl:=L4 oal nal;refine Ao (fun (i:Nat) e h'=>(∃ G4 v4,WStp h G q v h' G4 v4∧Wr h' G4 q v4 ((ss++[(⟨path,.txt U⟩:V.D.Sx)])++((dA oal nal).take i).map (V.D.Sx.mk path))∧Fz.Le G3 G4∧h3.nx≤h'.nx)∧i≤(dA oal nal).length∧e.get 0=some (jQ q 0)∧e.get 3=some pv∧e.get 31=some dv∧e.get 32=some (iQ wQ (dA oal nal).length)∧e.get 33=some (iQ wQ i)) (fun i=>(dA oal nal).length - i) 0 ?_ ?_
  ·exact ⟨⟨G3,_,w3,by simpa using A3,Fz.Le.refl,Nat.le_refl _⟩,Nat.zero_le _,by simp [Tr.get_set]⟩
  rintro i e h4 ⟨⟨G4,v4,w4,Z,aa,aD⟩,hi,e0,e3,E,I,e33⟩ lp;simp only [seval,go_sem,E,I,e33];refine Cr (fun z=>?_) (fun z=>?_)
  ·have z:i < (dA oal nal).length:=by simpa using z
   have w:=wI i;obtain ⟨cb,co,am,J⟩:=Arr.edt Z.s (ax.mono aa) z;have aj:(dA oal nal).take (i+1)=(dA oal nal).take i++[(dA oal nal)[i]]:=List.take_succ_eq_append_getElem z;have ab:=V.D.difA_mem oal nal _ (List.getElem_mem z);have ar:=(a0.mono (ak.trans a6)).mono aa;have ao:((ss++[(⟨path,.txt U⟩:V.D.Sx)])++((dA oal nal).take i).map (V.D.Sx.mk path)).length < 10000:=by have:=aw;rw [List.length_append,List.length_map,List.length_take];omega
   generalize (dA oal nal)[i]=sa at J aj ab;have pq:∀ {B},Gro h4 G4 ((h4.new (cQ [sQ [],bQ false,sQ []] 179)).at h4.nx B):=fun {B}=>((Stp.refl Z.s).new).at (Or.inl (Nat.le_refl _)) (by simp only [Ac];omega) (Z.s.none (Nat.le_refl _));rcases ab with ⟨a,_,rfl⟩ | ⟨a,_,rfl⟩
   ·have J:G4.read cb (co+i * 3) 3=some [sQ a.1,bQ true,sQ []]:=J;simp only [seval,go_sem,e0,e3,E,I,e33,am,Z.s.read J,w];have A5:=Z.mv (pq (B:=(cQ [sQ a.1,bQ true,sQ []] 179))) (fun _ h=>h.elim);refine Ae (Jo (sa:=.drop a.1) A5 ⟨rfl,rfl,rfl,rfl⟩ (ar) ao an) fun _ h5 ⟨G5,v5,p5,A6,n6⟩=>?_;simp only [seval,go_sem,e0,e3,E,I,e33,w];have wz:=(w4.gro (pq (B:=(cQ [sQ a.1,bQ true,sQ []] 179)))).trans A5 ⟨p5,fun i hi=>Or.inl (n6 i hi)⟩;refine lp (i+1) _ _ tM ⟨⟨G5,v5,wz,?_,aa.trans (p5.le A5.s),?_⟩,z,by simp [Tr.get_set,e0,e3,E,I]⟩
    ·rw [aj,List.map_append,← List.append_assoc];exact A6
    ·have:=p5.nx;simp only [Ag,Ac] at this;omega
   ·have J:G4.read cb (co+i * 3) 3=some [sQ a.1,bQ false,sQ a.2]:=J;simp only [seval,go_sem,e0,e3,E,I,e33,am,Z.s.read J,w];have A5:=Z.mv (pq (B:=(cQ [sQ a.1,bQ false,sQ a.2] 179))) (fun _ h=>h.elim);refine Ae (Jo (sa:=.set a.1 a.2) A5 ⟨rfl,rfl,rfl,rfl,rfl⟩ (ar) ao an) fun _ h5 ⟨G5,v5,p5,A6,n6⟩=>?_;simp only [seval,go_sem,e0,e3,E,I,e33,w];have wz:=(w4.gro (pq (B:=(cQ [sQ a.1,bQ false,sQ a.2] 179)))).trans A5 ⟨p5,fun i hi=>Or.inl (n6 i hi)⟩;refine lp (i+1) _ _ tM ⟨⟨G5,v5,wz,?_,aa.trans (p5.le A5.s),?_⟩,z,by simp [Tr.get_set,e0,e3,E,I]⟩
    ·rw [aj,List.map_append,← List.append_assoc];exact A6
    ·have:=p5.nx;simp only [Ag,Ac] at this;omega
  ·have z:(dA oal nal).length≤i:=by simpa using z
   have az:i=(dA oal nal).length:=tM;subst az;rw [List.take_length] at Z;simp only [seval,go_sem];refine ⟨G4,v4,w4,?_⟩;have:ss++(V.D.ownS Op.bytesLess (.nd ag ai ah O oal aA) (.nd ac af ae U nal a8)).map (V.D.Sx.mk path)=ss++[(⟨path,.txt U⟩:V.D.Sx)]++(dA oal nal).map (V.D.Sx.mk path):=by show ss++((if O=U then [] else [V.D.Sp.txt U])++dA oal nal).map _=_;rw [if_neg ht,List.map_append,List.append_assoc];rfl
   rw [this];exact Z
end
section
variable {h h':H} {G G':Fz} {d b L p q:Nat} {m:D.M} {sl:List Sl} {k k1 k2:Hd}
theorem Akd {n f:Nat} {xs O:List AV} (s:St h G) (hn:n≤100000) (hf:∀ h' (i:Nat),Gro h G h'→i < n→Ans ctx f (xs++([iQ wQ i]++O)) h' fun w U=>(∃ b,w=bQ b)∧Gro h' G U) :
  Ans ctx 230 [iQ wQ n,.fn (.func f) xs O] h fun w h'=>∃ r:Nat,r≤n∧w=iQ wQ r∧Gro h G h':=by
 refine aO Tryz.f230 ?_;simp only [Tryz.f230];simp only [seval,go_sem];refine Ao (fun (E:Nat × Nat) e h'=>Gro h G h'∧E.1≤E.2∧E.2≤n∧e.get 1=some (.fn (.func f) xs O)∧e.get 5=some (iQ wQ E.1)∧e.get 6=some (iQ wQ E.2)) (fun E=>E.2 - E.1) (0,n) ?_ ?_
 ·exact ⟨Stp.refl s,Nat.zero_le _,Nat.le_refl _,by simp [Tr.get_set]⟩
 rintro ⟨i,j⟩ e U ⟨p,Y,hj,I,D,J⟩ lp;simp only at Y hj D J;simp only [seval,go_sem,I,D,J];refine Cr (fun z=>?_) (fun z=>?_)
 ·have z:i < j:=by simpa using z
  have w:IntKind.i64.wrap ((i:Int)+j)=((i+j:Nat):Int):=by rw [show (i:Int)+j=((i+j:Nat):Int) by omega];exact Bz tM
  have w2:IntKind.u64.wrap ((i+j:Nat):Int)=((i+j:Nat):Int):=Ll tM;have w3:((i+j:Nat):Int) / 2=(((i+j) / 2:Nat):Int):=tM;have w4:IntKind.i64.wrap (((i+j) / 2:Nat):Int)=(((i+j) / 2:Nat):Int):=Bz tM;have w5:IntKind.i64.wrap ((((i+j) / 2:Nat):Int)+1)=(((i+j) / 2+1:Nat):Int):=by rw [show (((i+j) / 2:Nat):Int)+1=(((i+j) / 2+1:Nat):Int) by omega];exact Bz tM
  simp only [seval,go_sem,I,D,J,w,w2,w3,w4];refine Ae (hf U ((i+j) / 2) p tM) fun _ h3 ⟨⟨b,e⟩,Z⟩=>?_;subst e;cases b with
  | true =>
   simp only [seval,go_sem,I,D,J,w5];exact lp (i,(i+j) / 2) _ _ (by simp only;omega) ⟨p.trans Z,by simp only;omega,by simp only;omega,by simp [Tr.get_set,I],by simp [Tr.get_set,D],by simp [Tr.get_set]⟩
  | false =>
   simp only [seval,go_sem,I,D,J,w5];exact lp ((i+j) / 2+1,j) _ _ (by simp only;omega) ⟨p.trans Z,by simp only;omega,by simp only;omega,by simp [Tr.get_set,I],by simp [Tr.get_set,D],by simp [Tr.get_set,J]⟩
 ·have z:j≤i:=by simpa using z
  simp only [seval,go_sem,D];exact ⟨i,tM,rfl,p⟩
abbrev IC (l:List Int):List AV:=l.map (AV.int wQ)
theorem I7:∀ {l:List Int} {i:Nat} (hi:i < l.length),Aq i 1 (IC l)=some [iQ wQ l[i]]
 | _::_,0,_=>rfl
 | _::l,i+1,hi=>I7 (l:=l) (Nat.lt_of_succ_lt_succ hi)
theorem Nx:∀ {l:List Int} {i:Nat} {x:Int},i < l.length→Dt i [iQ wQ x] (IC l)=some (IC (l.set i x))
 | _::_,0,_,_=>rfl
 | y::l,i+1,x,hi=>by
  show Dq (some (iQ wQ y)) (Dt i [iQ wQ x] (IC l))=_;rw [Nx (l:=l) (Nat.lt_of_succ_lt_succ hi)];rfl
theorem ic_z:∀ n:Nat,rep [AV.int wQ 0] n=IC (List.replicate n 0)
 | 0=>rfl
 | n+1=>by rw [Auu,ic_z n];rfl
theorem Arr.ints {h:H} (s:St h G) {l:List Int} {v:AV} {j:Nat} (a:Arr G 1 v l.length (IC l)) (E:j < l.length):∃ b o,ixA 1 j v=some (jQ b (o+j))∧G.read b (o+j) 1=some [iQ wQ l[j]]:=by
 obtain ⟨b,o,z,D⟩:=a.el s E;rw [Nat.mul_one] at z D;refine ⟨b,o,z,?_⟩;rw [Fz.cut D tM,← List.map_drop,List.drop_eq_getElem_cons E];rfl
theorem leq231 {D z E q6 m n i j:Nat} {ts l:List Int} {v:AV} (s:St h G) (O:Arr G 1 v l.length (IC l)) (r4:h.read D 0 1=some [.sl q6 0 m n]) (Z:h.read z 0 1=some [v]) (r5:h.read E 0 1=some [iQ wQ j]) (I:h.m.get q6=some (cQ (IC ts) 3)) (U:i < m) (hm:m≤ts.length) (Y:j < l.length) :
  Ans ctx 231 [iQ wQ i,jQ D 0,jQ z 0,jQ E 0] h fun w J=>(∃ b,w=bQ b)∧Gro h G J:=by
 refine aO Tryz.f231 ?_;simp only [Tryz.f231];obtain ⟨b,o,y1,y2⟩:=O.ints s Y;have r6:h.read q6 i 1=some [iQ wQ (ts[i]' tM)]:=(Ab I).trans (I7 tM);have ix:ixA 1 i (.sl q6 0 m n)=some (jQ q6 i):=by rw [Ed U,Nat.zero_add,Nat.mul_one]
 simp only [seval,go_sem,r4,Z,r5,y1,s.read y2,r6,ix];exact ⟨⟨_,rfl⟩,(Stp.refl s).up⟩
theorem sl_ext {q r n:Nat} (z:r+1≤n):Al ctx h 77 (.sl q 0 r n) none (some (r+1)) (some n)=some (some (.sl q 0 (r+1) n),h):=by
 unfold Al;simp only [u77,s3,Lt,Bs,Option.getD,Br,F8];simp only [Nat.zero_le,decide_true,Nat.le_refl,Bool.and_true,Bool.true_and,decide_eq_true (show r+1≤n by omega),val,decide_eq_true (show 0 < 1 by omega)];unfold G7;cases n with
 | zero=>omega
 | succ n=>simp [Nat.beq]
theorem wr_n {x:Int} (z:-9223372036854775808≤x) (D:x < 9223372036854775808):IntKind.i64.wrap x=x:=by simp [IntKind.wrap,IntKind.signed,IntKind.bits];omega
theorem Aeb {v:AV} {l:List Int} (s:St h G) (ha:Arr G 1 v l.length (IC l)) (hl:0 < l.length) (h8:l.length≤4096) :
  Ans ctx 221 [v] h fun w h'=>∃ (q2:Nat) (z:List Int),w=.sl q2 0 l.length l.length∧h.nx≤q2∧h'.m.get q2=some (cQ (IC z) 3)∧z.length=l.length∧(∀ x,x∈z→0≤x∧x≤l.length)∧Gro h G h':=by
 refine aO Tryz.f221 ?_;simp only [Tryz.f221];have o1:=ha.one;have aj:=ha.len;have r0:∀ {h2:H},h2.m.get h.nx=some (cQ [v] 77)→h2.read h.nx 0 1=some [v]:=fun e=>(Ab e).trans rfl;have c1:decide (bytes ctx 3 * l.length≤281474976710656)=true:=decide_eq_true (by rw [by3];omega);have c2:decide (l.length≤9223372036854775807)=true:=decide_eq_true tM;have w:IntKind.i64.wrap ((l.length:Int) - 1)=((l.length - 1:Nat):Int):=by rw [show (l.length:Int) - 1=((l.length - 1:Nat):Int) by omega];exact Bz tM
 have ra:(h.new (cQ [v] 77)).read h.nx 0 1=some [v]:=r0 Au;have rb:((h.new (cQ [v] 77)).new (cQ (rep [iQ wQ 0] l.length) 3)).read h.nx 0 1=some [v]:=r0 gL;have rc:((((h.new (cQ [v] 77)).new (cQ (rep [iQ wQ 0] l.length) 3)).new (cQ (rep [iQ wQ 0] l.length) 3)).new (cQ [(():AV)] 77)).read h.nx 0 1=some [v]:=r0 gL;have rd:(((((h.new (cQ [v] 77)).new (cQ (rep [iQ wQ 0] l.length) 3)).new (cQ (rep [iQ wQ 0] l.length) 3)).new (cQ [(():AV)] 77)).at (h.nx+3) (cQ [.sl (h.nx+2) 0 0 l.length] 77)).read h.nx 0 1=some [v]:=r0 gL;simp only [seval,go_sem,o1,aj,c1,c2,w,ra,rb,rc,rd];refine Ao (fun (k:Nat) e h'=>(∃ (m:Nat) (ts z:List Int) (D:Nat),m+k≤l.length∧ts.length=l.length∧z.length=l.length∧(∀ x:Int,x∈z→0≤x∧x≤(l.length:Int))∧Gro h G h'∧h.nx+4≤D∧e.get 5=some (jQ D 0)∧h'.m.get D=some (cQ [iQ wQ ((k:Int) - 1)] 3) ∧
   h'.m.get h.nx=some (cQ [v] 77)∧h'.m.get (h.nx+1)=some (cQ (IC z) 3)∧h'.m.get (h.nx+2)=some (cQ (IC ts) 3)∧h'.m.get (h.nx+3)=some (cQ [.sl (h.nx+2) 0 m l.length] 77))∧k≤l.length∧e.get 1=some (jQ h.nx 0)∧e.get 3=some (.sl (h.nx+1) 0 l.length l.length)∧e.get 4=some (jQ (h.nx+3) 0)) id l.length ?_ ?_
 ·refine ⟨⟨0,List.replicate l.length 0,List.replicate l.length 0,h.nx+4,tM,List.length_replicate,List.length_replicate,fun x hx=>by rw [List.mem_replicate] at hx;omega,?_,Nat.le_refl _,by simp [Tr.get_set],?_,?_,?_,?_,?_⟩,Nat.le_refl _,by simp [Tr.get_set],by simp [Tr.get_set],by simp [Tr.get_set]⟩
  ·exact (((((Stp.refl s).new.new.new.new).at (Or.inl tM) (by simp only [Ac];omega) (s.none tM)).new).at (Or.inl tM) (by simp only [Ac,Ag];omega) (s.none tM))
  ·rw [show ((l.length:Int) - 1)=((l.length - 1:Nat):Int) by omega];exact Ap
  ·exact gL
  ·rw [← ic_z];exact gL
  ·rw [← ic_z];exact gL
  ·exact gL
 clear ra rb rc rd;rintro k e h2 ⟨⟨m,ts,z,D,hm,ak,ab,aa,p,l5,e5,g5,g0,g1,g2,g3⟩,hk,I,J,e4⟩ lp;have s2:=p.st;have r5:h2.read D 0 1=some [iQ wQ ((k:Int) - 1)]:=(Ab g5).trans rfl;have ax:=Ah s2.1 g5;cases k with
 | zero =>
  have c:decide (0≤((0:Nat):Int) - 1)=false:=by decide
  simp only [seval,go_sem,I,J,e4,e5,r5,c];exact ⟨h.nx+1,z,rfl,tM,g1,ab,aa,p⟩
 | succ j =>
  have ej:(((j+1:Nat):Int) - 1)=(j:Int):=tM;rw [ej] at r5 g5;have c:decide (0≤(j:Int))=true:=decide_eq_true tM;have hj:j < l.length:=tM;have r3:h2.read (h.nx+3) 0 1=some [.sl (h.nx+2) 0 m l.length]:=(Ab g3).trans rfl;simp only [seval,go_sem,I,J,e4,e5,r5,c,r3];refine Ae (Akd s2 tM fun h' i' p' ao=>?_) fun _ h3 ⟨r,hr,er,U⟩=>?_
  ·have rr:∀ {j o n cs},h2.read j o n=some cs→h'.read j o n=some cs:=fun e=>p'.rs s2.1 e (fun h=>h);exact leq231 (l:=l) (ts:=ts) (q6:=h.nx+2) (m:=m) (n:=l.length) p'.st ha (rr r3) (rr (r0 g0)) (rr r5) (p'.gt s2.1 g2 (fun h=>h)) ao tM hj
  subst er;have O:=U.gt s2.1 g5 (fun h=>h);have k0:=U.gt s2.1 g0 (fun h=>h);have k1:=U.gt s2.1 g1 (fun h=>h);have k2:=U.gt s2.1 g2 (fun h=>h);have k3:=U.gt s2.1 g3 (fun h=>h);have l3:=U.nx;have l0:=p.nx;have Z:=wI r;have wj:IntKind.i64.wrap ((j:Int) - 1)=(j:Int) - 1:=wr_n tM tM;obtain ⟨zb,zo,z1,z2⟩:=ha.ints s hj;have E:∀ x:Int,x∈z.set j ((r+1:Nat):Int)→0≤x∧x≤(l.length:Int):=fun x hx=>by
   rcases List.mem_or_eq_of_mem_set hx with hx | rfl
   ·exact aa x hx
   ·omega
  have ah:h3.read (h.nx+3) 0 1=some [.sl (h.nx+2) 0 m l.length]:=(Ab k3).trans rfl
  by_cases hrm:r=m
  ·subst hrm;have ay:D≠h.nx+3:=tM;simp only [seval,go_sem,I,J,e4,e5,ah,Z];have au:=sl_ext (h:=h3) (q:=h.nx+2) (r:=r) (n:=l.length) tM;have am:=k3;have av:h3.read h.nx 0 1=some [v]:=r0 k0;have aw:h3.read D 0 1=some [iQ wQ j]:=(Ab O).trans rfl;have ar:=k2;have aq:=k1;have ap:=k0;simp only [seval,go_sem,I,J,e4,e5,ah,Z,au,am];replace O:(h3.at (h.nx+3) (cQ [.sl (h.nx+2) 0 (r+1) l.length] 77)).m.get D=some (cQ [iQ wQ j] 3):=(An tM).trans O;replace k0:(h3.at (h.nx+3) (cQ [.sl (h.nx+2) 0 (r+1) l.length] 77)).m.get h.nx=some (cQ [v] 77):=(An tM).trans k0;replace k1:(h3.at (h.nx+3) (cQ [.sl (h.nx+2) 0 (r+1) l.length] 77)).m.get (h.nx+1)=some (cQ (IC z) 3):=(An tM).trans k1;replace k2:(h3.at (h.nx+3) (cQ [.sl (h.nx+2) 0 (r+1) l.length] 77)).m.get (h.nx+2)=some (cQ (IC ts) 3):=(An tM).trans k2;have k3:(h3.at (h.nx+3) (cQ [.sl (h.nx+2) 0 (r+1) l.length] 77)).m.get (h.nx+3)=some (cQ [.sl (h.nx+2) 0 (r+1) l.length] 77):=Ap;have Y:Gro h G (h3.at (h.nx+3) (cQ [.sl (h.nx+2) 0 (r+1) l.length] 77)):=(p.trans U).at (Or.inl tM) (Ah U.st.1 am) (s.none tM);have lM:=Y.nx;have t5:(h3.at (h.nx+3) (cQ [.sl (h.nx+2) 0 (r+1) l.length] 77)).read D 0 1=some [iQ wQ j]:=(Ab O).trans rfl;have t0:(h3.at (h.nx+3) (cQ [.sl (h.nx+2) 0 (r+1) l.length] 77)).read h.nx 0 1=some [v]:=r0 k0;have t3:(h3.at (h.nx+3) (cQ [.sl (h.nx+2) 0 (r+1) l.length] 77)).read (h.nx+3) 0 1=some [.sl (h.nx+2) 0 (r+1) l.length]:=(Ab k3).trans rfl;have tv:=Y.st.read z2;have nq:(D=h.nx+2)=False:=eq_false tM;have ag:(D=h.nx+1)=False:=eq_false tM
   have n1:(h.nx+3=h.nx+2)=False:=eq_false tM;have n2:(h.nx=h.nx+2)=False:=eq_false tM;have ae:ixA 1 r (.sl (h.nx+2) 0 (r+1) l.length)=some (jQ (h.nx+2) r):=by rw [Ed tM,Nat.zero_add,Nat.mul_one]
   have ac:ixA 1 j (.sl (h.nx+1) 0 l.length l.length)=some (jQ (h.nx+1) j):=by rw [Ed hj,Nat.zero_add,Nat.mul_one]
   have pr:=Nx (l:=ts) (i:=r) (x:=l[j]) tM;have pj:=Nx (l:=z) (i:=j) (x:=((r+1:Nat):Int)) tM;have af:((((h3.at (h.nx+3) (cQ [.sl (h.nx+2) 0 (r+1) l.length] 77)).up 8).at (h.nx+2) (cQ (IC (ts.set r l[j])) 3))).m.get (h.nx+1)=some (cQ (IC z) 3):=(An tM).trans (Az.trans k1);have ai:(((((h3.at (h.nx+3) (cQ [.sl (h.nx+2) 0 (r+1) l.length] 77)).up 8).at (h.nx+2) (cQ (IC (ts.set r l[j])) 3)).at (h.nx+1) (cQ (IC (z.set j ((r+1:Nat):Int))) 3))).read D 0 1=some [iQ wQ j]:=(Ab ((An tM).trans ((An tM).trans (Az.trans O)))).trans rfl;have lq:=Ah Y.st.1 O;have nn:(D=(h3.at (h.nx+3) (cQ [.sl (h.nx+2) 0 (r+1) l.length] 77)).nx+8)=False:=eq_false tM;simp only [seval,go_sem,I,J,e4,e5,t5,t0,t3,z1,tv,nq,ag,n1,n2,ae,ac,pr,pj,k2,k1,af,ai,nn,Z,wj,av,aw,aq,ar];refine lp j _ _ (by simp) ⟨⟨r+1,ts.set r l[j],z.set j ((r+1:Nat):Int),h3.nx+8,tM,by rw [List.length_set];exact ak,by rw [List.length_set];exact ab,E,?_,tM,by simp [Tr.get_set],Ap,?_,?_,?_,?_⟩,tM,by simp [Tr.get_set,I],by simp [Tr.get_set,J],by simp [Tr.get_set,e4]⟩
   ·exact (((((Y.up.at (Or.inl tM) (by simp only [Ai];omega) (s.none tM)).at (Or.inl tM) (by simp only [Ai,Ag];omega) (s.none tM)).new).at (Or.inl tM) (by simp only [Ai,Ag,Ac];omega) (s.none tM)).at (Or.inl tM) (by simp only [Ai,Ag,Ac];omega) (s.none tM))
   ·simp (disch:=first | omega | (simp only [Ac,Ag,Ai] <;> omega) | fail) only [Bh,Ca,Cd,Bb,Az];exact ap
   ·exact gL
   ·exact gL
   ·exact gL
  ·have an:decide ((r:Int)=(m:Int))=false:=decide_eq_false tM;simp only [seval,go_sem,I,J,e4,e5,ah,an];have Y:Gro h G h3:=p.trans U;have lM:=Y.nx;have t5:h3.read D 0 1=some [iQ wQ j]:=(Ab O).trans rfl;have t0:h3.read h.nx 0 1=some [v]:=r0 k0;have t3:h3.read (h.nx+3) 0 1=some [.sl (h.nx+2) 0 m l.length]:=(Ab k3).trans rfl;have tv:=Y.st.read z2;have nq:(D=h.nx+2)=False:=eq_false tM;have ag:(D=h.nx+1)=False:=eq_false tM;have n1:(h.nx+3=h.nx+2)=False:=eq_false tM;have n2:(h.nx=h.nx+2)=False:=eq_false tM;have ae:ixA 1 r (.sl (h.nx+2) 0 m l.length)=some (jQ (h.nx+2) r):=by rw [Ed tM,Nat.zero_add,Nat.mul_one]
   have ac:ixA 1 j (.sl (h.nx+1) 0 l.length l.length)=some (jQ (h.nx+1) j):=by rw [Ed hj,Nat.zero_add,Nat.mul_one]
   have pr:=Nx (l:=ts) (i:=r) (x:=l[j]) tM;have pj:=Nx (l:=z) (i:=j) (x:=((r+1:Nat):Int)) tM;have af:(((h3.up 8).at (h.nx+2) (cQ (IC (ts.set r l[j])) 3))).m.get (h.nx+1)=some (cQ (IC z) 3):=(An tM).trans (Az.trans k1);have ai:((((h3.up 8).at (h.nx+2) (cQ (IC (ts.set r l[j])) 3)).at (h.nx+1) (cQ (IC (z.set j ((r+1:Nat):Int))) 3))).read D 0 1=some [iQ wQ j]:=(Ab ((An tM).trans ((An tM).trans (Az.trans O)))).trans rfl;have lq:=Ah Y.st.1 O;have nn:(D=h3.nx+8)=False:=eq_false tM;simp only [seval,go_sem,I,J,e4,e5,t5,t0,t3,z1,tv,nq,ag,n1,n2,ae,ac,pr,pj,k2,k1,af,ai,nn,Z,wj];refine lp j _ _ (by simp) ⟨⟨m,ts.set r l[j],z.set j ((r+1:Nat):Int),h3.nx+8,tM,by rw [List.length_set];exact ak,by rw [List.length_set];exact ab,E,?_,tM,by simp [Tr.get_set],Ap,?_,?_,?_,?_⟩,tM,by simp [Tr.get_set,I],by simp [Tr.get_set,J],by simp [Tr.get_set,e4]⟩
   ·exact (((((Y.up.at (Or.inl tM) (by simp only [Ai];omega) (s.none tM)).at (Or.inl tM) (by simp only [Ai,Ag];omega) (s.none tM)).new).at (Or.inl tM) (by simp only [Ai,Ag,Ac];omega) (s.none tM)).at (Or.inl tM) (by simp only [Ai,Ag,Ac];omega) (s.none tM))
   ·simp (disch:=first | omega | (simp only [Ac,Ag,Ai] <;> omega) | fail) only [Bh,Ca,Cd,Bb,Az];exact k0
   ·exact gL
   ·exact gL
   ·simp (disch:=first | omega | (simp only [Ac,Ag,Ai] <;> omega) | fail) only [Bh,Ca,Cd,Bb,Az];exact k3
end
section
variable {h h':H} {G G':Fz} {d b L p q:Nat} {m:D.M} {sl:List Sl} {k k1 k2:Hd}
theorem max222 {n:Nat} {D:List Int} (s:St h G) (g:h.m.get q=some (cQ (IC D) 3)) (hl:D.length=n) (U:0 < n) (h8:n≤4096) (Y:∀ x:Int,x∈D→0≤x∧x≤(n:Int)) :
  Ans ctx 222 [.sl q 0 n n] h fun w h'=>∃ x:Nat,w=iQ wQ x∧x≤n∧Gro h G h':=by
 refine aO Tryz.f222 ?_;simp only [Tryz.f222];have c1:decide ((n:Int) < 1)=false:=decide_eq_false tM;have rd:∀ {O:H} {i:Nat} (E:i < n),O.m.get q=some (cQ (IC D) 3)→O.read q i 1=some [iQ wQ (D[i]' tM)]:=fun E e=>(Ab e).trans (I7 tM);have ix:∀ {i:Nat},i < n→ixA 1 i (.sl q 0 n n)=some (jQ q i):=fun E=>by rw [Ed E,Nat.zero_add,Nat.mul_one]
 have r0:=rd U g;have i0:=ix U;simp only [seval,go_sem,c1,r0,i0];refine Ao (fun (i:Nat) e h'=>(∃ x:Nat,x≤n∧e.get 3=some (iQ wQ x))∧h' = h∧1≤i∧i≤n∧e.get 0=some (.sl q 0 n n)∧e.get 4=some (iQ wQ i)) (fun i=>n - i) 1 ?_ ?_
 ·obtain ⟨y1,y2⟩:=Y _ (List.getElem_mem (show 0 < D.length by omega));exact ⟨⟨(D[0]' tM).toNat,tM,by simp [Tr.get_set];omega⟩,rfl,Nat.le_refl _,U,by simp [Tr.get_set],by simp [Tr.get_set]⟩
 rintro i e O ⟨⟨x,hx,J⟩,rfl,Z,E,I,e4⟩ lp;have w:=wI i;simp only [seval,go_sem,I,J,e4];refine Cr (fun z=>?_) (fun z=>?_)
 ·have z:i < n:=by simpa using z
  have ri:=rd z g;have ii:=ix z;obtain ⟨y1,y2⟩:=Y _ (List.getElem_mem (show i < D.length by omega));simp only [seval,go_sem,I,J,e4,ri,ii,w];refine lp (i+1) _ _ tM ⟨⟨(max (x:Int) (D[i]' tM)).toNat,tM,by simp [Tr.get_set];omega⟩,rfl,tM,z,by simp [Tr.get_set,I],by simp [Tr.get_set]⟩
 ·simp only [seval,go_sem,J];exact ⟨x,rfl,hx,Stp.refl s⟩
theorem Awl {n:Nat} {xs rest:List Int} {x y:Int} {c:Nat} (g:h.m.get q=some (cQ (IC (xs++y::rest)) 3)) (D:xs.length=n):J3 h q 0 n 1 c 1 [iQ wQ x]=some (.sl q 0 (n+1) c,h.at q (cQ (IC (xs++x::rest)) 3)):=by
 have z:=Nx (l:=xs++y::rest) (i:=n) (x:=x) (by rw [List.length_append,List.length_cons];omega);have hs:(xs++y::rest).set n x=xs++x::rest:=by subst D;simp
 rw [hs] at z;unfold J3;rw [Nat.mul_one,Nat.zero_add,Nq g];unfold Blk.put Z4;simp only [z,show Af [AV.int wQ x]=true from rfl]
theorem Aea {v:AV} {l:List Int} (s:St h G) (ha:Arr G 1 v l.length (IC l)) (h8:l.length≤4096) :
  Ans ctx 197 [v] h fun w h'=>∃ (w1:AV) (ix:List Nat),w=.tup [w1,iQ wQ 0]∧Gro h G h'∧(∀ i,i∈ix→i < l.length)∧ix.Pairwise (· < ·)∧ix.Pairwise (fun a b=>l.getD a 0 < l.getD b 0) ∧
   (w1=(():AV)∧ix=[]∨∃ (q6 c:Nat) (rest:List Int),w1=.sl q6 0 ix.length c∧h.nx≤q6∧h'.m.get q6=some (cQ (IC (ix.map (fun i:Nat=>(i:Int))++rest)) 3)):=by
 refine aO Tryz.f197 ?_;simp only [Tryz.f197];have aa:=ha.len;have c1:decide ((4096:Int) < (l.length:Int))=false:=decide_eq_false tM;rcases Nat.eq_zero_or_pos l.length with hz | ae
 ·have c2:decide ((l.length:Int)=0)=true:=decide_eq_true tM;simp only [seval,go_sem,aa,c1,c2];exact ⟨_,[],rfl,Stp.refl s,fun _ h=>(by cases h),.nil,.nil,Or.inl ⟨rfl,rfl⟩⟩
 ·have c2:decide ((l.length:Int)=0)=false:=decide_eq_false tM;simp only [seval,go_sem,aa,c1,c2];refine Ae (Aeb s ha ae h8) fun _ h1 ⟨q2,ls,e1,aq,g2,aj,hp,p1⟩=>?_;subst e1;simp only [seval,go_sem];refine Ae (max222 p1.st g2 aj ae h8 hp) fun _ h2 ⟨mx,e2,ap,p2⟩=>?_;subst e2;have cb:decide (bytes ctx 3 * mx≤281474976710656)=true:=decide_eq_true (by rw [by3];omega);have ah:decide (mx≤9223372036854775807)=true:=decide_eq_true tM;simp only [seval,go_sem,aa,cb,ah];have ac:=p1.trans p2;have l2:=ac.nx;refine Ao (fun (i:Nat) e h'=>∃ (ix:List Nat) (rest:List Int) (k:Nat),(ix.length+k=mx∧rest.length=k∧Gro h G h'∧h'.m.get q2=some (cQ (IC ls) 3)∧h'.m.get h2.nx=some (cQ (IC (ix.map (fun i:Nat=>(i:Int))++rest)) 3)∧(∀ j,j∈ix→j < i)∧ix.Pairwise (· < ·)∧ix.Pairwise (fun a b=>l.getD a 0 < l.getD b 0)) ∧
    i≤l.length∧e.get 0=some v∧e.get 4=some (.sl q2 0 l.length l.length)∧e.get 5=some (iQ wQ k)∧e.get 6=some (.sl h2.nx 0 ix.length mx)∧e.get 21=some v∧e.get 22=some (iQ wQ l.length)∧e.get 23=some (iQ wQ i)) (fun i=>l.length - i) 0 ?_ ?_
  ·refine ⟨[],List.replicate mx 0,mx,⟨by simp,List.length_replicate,ac.new,?_,?_,fun _ h=>(by cases h),.nil,.nil⟩,Nat.zero_le _,by simp [Tr.get_set]⟩
   ·rw [Bh (by have:=Ah ac.st.1 (p2.gt p1.st.1 g2 (fun h=>h));omega)];exact p2.gt p1.st.1 g2 (fun h=>h)
   ·rw [List.map_nil,List.nil_append,← ic_z];exact Au
  rintro i e h3 ⟨ix,rest,k,⟨hk,hr,p3,k2,k6,O,pw,pv⟩,hi,e0,e4,e5,e6,I,J,Z⟩ lp;simp only [seval,go_sem,I,J,Z];refine Cr (fun D=>?_) (fun D=>?_)
  ·have D:i < l.length:=by simpa using D
   have w:=wI i;obtain ⟨zb,zo,z1,z2⟩:=ha.ints s D;have zr:=p3.st.read z2;cases k with
   | zero =>
    simp only [seval,go_sem,e0,e4,e5,e6,I,J,Z,z1,zr];exact ⟨_,ix,rfl,p3,fun j E=>Nat.lt_of_lt_of_le (O j E) hi,pw,pv,Or.inr ⟨h2.nx,mx,rest,rfl,l2,k6⟩⟩
   | succ k =>
    have ck:decide (((k+1:Nat):Int)=0)=false:=decide_eq_false tM;have rl:h3.read q2 i 1=some [iQ wQ (ls[i]' tM)]:=(Ab k2).trans (I7 tM);have il:ixA 1 i (.sl q2 0 l.length l.length)=some (jQ q2 i):=by rw [Ed D,Nat.zero_add,Nat.mul_one]
    have wk:IntKind.i64.wrap (((k+1:Nat):Int) - 1)=(k:Int):=by rw [show ((k+1:Nat):Int) - 1=(k:Int) by omega];exact Bz tM
    by_cases hne:(ls[i]' tM)=((k+1:Nat):Int)
    ·rcases List.eq_nil_or_concat ix with rfl | ⟨z,a,rfl⟩
     ·obtain ⟨y,U,rfl⟩:∃ y r,rest=y::r:=by cases rest with | nil=>cases hr | cons y r=>exact ⟨y,r,rfl⟩
      have ak:=Ah p3.st.1 k6;have am:=Ah p3.st.1 k2;have an:q2 < h2.nx:=Ah ac.st.1 (p2.gt p1.st.1 g2 (fun h=>h));have fa:=Awl (h:=(h3.new (cQ [iQ wQ i] 3))) (q:=h2.nx) (x:=i) (c:=mx) ((Bh tM).trans k6) (n:=([]:List Nat).length) (by rw [List.length_map]);have af:decide (1≤mx)=true:=decide_eq_true (by simp at hk;omega);simp only [List.length_nil] at fa;simp only [seval,go_sem,e0,e4,e5,e6,I,J,Z,z1,zr,ck,rl,il,hne,af,fa,w,wk];refine lp (i+1) _ _ tM ⟨([]:List Nat)++[i],U,k,⟨by simp at hk ⊢;omega,by simpa using hr,?_,?_,?_,fun j E=>?_,?_,?_⟩,D,by simp [Tr.get_set,e0],by simp [Tr.get_set,e4],by simp [Tr.get_set],by simp [Tr.get_set],by simp [Tr.get_set,I],by simp [Tr.get_set,J],by simp [Tr.get_set]⟩
      ·exact p3.new.at (Or.inl l2) (by simp only [Ac];omega) (s.none tM)
      ·rw [An tM,Bh tM];exact k2
      ·rw [List.map_append (l₁:=([]:List Nat)) (l₂:=[i]),List.append_assoc];exact Ap
      ·rcases List.mem_append.1 E with E | E
       ·exact Nat.lt_succ_of_lt (O j E)
       ·rw [List.mem_singleton] at E;omega
      ·exact List.pairwise_append.2 ⟨pw,List.pairwise_singleton _ _,fun x Y y hy=>by rw [List.mem_singleton] at hy;rw [hy];exact O x Y⟩
      ·exact List.pairwise_append.2 ⟨pv,List.pairwise_singleton _ _,fun x Y y hy=>by rw [List.mem_singleton] at hy;rw [hy];exact by cases Y⟩
     ·have la:a < l.length:=Nat.lt_trans (O a (by simp)) D;rw [List.concat_eq_append] at hk k6 O pw pv e6;have hN:(z++[a]).length=z.length+1:=by simp
      have c0:decide ((0:Int) < ((z++[a]).length:Int))=true:=decide_eq_true tM;have wl:IntKind.i64.wrap (((z++[a]).length:Int) - 1)=(z.length:Int):=by rw [show ((z++[a]).length:Int) - 1=(z.length:Int) by omega];exact Bz tM
      have ia:ixA 1 z.length (.sl h2.nx 0 (z++[a]).length mx)=some (jQ h2.nx z.length):=by rw [Ed tM,Nat.zero_add,Nat.mul_one]
      have ra:h3.read h2.nx z.length 1=some [iQ wQ a]:=by
       rw [Ab k6,Ib,I7 (by simp)];simp
      obtain ⟨ab,ao,a1,a2⟩:=ha.ints s la;have ar:=p3.st.read a2
      by_cases hv:l[a] < l[i]
      ·have cv:decide (l[i]≤l[a])=false:=decide_eq_false tM;have gd:∀ {j:Nat} (E:j < l.length),l.getD j 0=l[j]:=fun E=>by simp [List.getD,E]
       have ag:∀ x,x∈z++[a]→l.getD x 0 < l.getD i 0:=fun x Y=>by
        rcases List.mem_append.1 Y with Y | Y
        ·exact Int.lt_trans ((List.pairwise_append.1 pv).2.2 x Y a (List.mem_singleton.2 rfl)) (by rw [gd la,gd D];exact hv)
        ·rw [List.mem_singleton] at Y;rw [Y,gd la,gd D];exact hv
       obtain ⟨y,U,rfl⟩:∃ y r,rest=y::r:=by cases rest with | nil=>cases hr | cons y r=>exact ⟨y,r,rfl⟩
       have ak:=Ah p3.st.1 k6;have am:=Ah p3.st.1 k2;have an:q2 < h2.nx:=Ah ac.st.1 (p2.gt p1.st.1 g2 (fun h=>h));have fa:=Awl (h:=(h3.new (cQ [iQ wQ i] 3))) (q:=h2.nx) (x:=i) (c:=mx) ((Bh tM).trans k6) (n:=(z++[a]).length) (by rw [List.length_map]);have af:decide ((z++[a]).length+1≤mx)=true:=decide_eq_true (by simp at hk;omega);simp only [seval,go_sem,e0,e4,e5,e6,I,J,Z,z1,zr,ck,rl,il,hne,c0,wl,ia,ra,a1,ar,cv,af,fa,w,wk];refine lp (i+1) _ _ tM ⟨z++[a]++[i],U,k,⟨by simp at hk ⊢;omega,by simpa using hr,?_,?_,?_,fun j E=>?_,?_,?_⟩,D,by simp [Tr.get_set,e0],by simp [Tr.get_set,e4],by simp [Tr.get_set],by simp [Tr.get_set],by simp [Tr.get_set,I],by simp [Tr.get_set,J],by simp [Tr.get_set]⟩
       ·exact p3.new.at (Or.inl l2) (by simp only [Ac];omega) (s.none tM)
       ·rw [An tM,Bh tM];exact k2
       ·rw [List.map_append (l₁:=(z++[a])) (l₂:=[i]),List.append_assoc];exact Ap
       ·rcases List.mem_append.1 E with E | E
        ·exact Nat.lt_succ_of_lt (O j E)
        ·rw [List.mem_singleton] at E;omega
       ·exact List.pairwise_append.2 ⟨pw,List.pairwise_singleton _ _,fun x Y y hy=>by rw [List.mem_singleton] at hy;rw [hy];exact O x Y⟩
       ·exact List.pairwise_append.2 ⟨pv,List.pairwise_singleton _ _,fun x Y y hy=>by rw [List.mem_singleton] at hy;rw [hy];exact ag x Y⟩
      ·have cv:decide (l[i]≤l[a])=true:=decide_eq_true tM;simp only [seval,go_sem,e0,e4,e5,e6,I,J,Z,z1,zr,ck,rl,il,hne,c0,wl,ia,ra,a1,ar,cv,w];exact lp (i+1) _ _ tM ⟨z++[a],rest,k+1,⟨hk,hr,p3,k2,k6,fun j E=>Nat.lt_succ_of_lt (O j E),pw,pv⟩,D,by simp [Tr.get_set,e0],by simp [Tr.get_set,e4],by simp [Tr.get_set,e5],by simp [Tr.get_set,e6],by simp [Tr.get_set,I],by simp [Tr.get_set,J],by simp [Tr.get_set]⟩
    ·have ai:decide ((ls[i]' tM)=((k+1:Nat):Int))=false:=decide_eq_false hne;simp only [seval,go_sem,e0,e4,e5,e6,I,J,Z,z1,zr,ck,rl,il,ai,w];exact lp (i+1) _ _ tM ⟨ix,rest,k+1,⟨hk,hr,p3,k2,k6,fun j E=>Nat.lt_succ_of_lt (O j E),pw,pv⟩,D,by simp [Tr.get_set,e0],by simp [Tr.get_set,e4],by simp [Tr.get_set,e5],by simp [Tr.get_set,e6],by simp [Tr.get_set,I],by simp [Tr.get_set,J],by simp [Tr.get_set]⟩
  ·have D:l.length≤i:=by simpa using D
   simp only [seval,go_sem,e6];exact ⟨_,ix,rfl,p3,fun j E=>Nat.lt_of_lt_of_le (O j E) hi,pw,pv,Or.inr ⟨h2.nx,mx,rest,rfl,l2,k6⟩⟩
end
section
variable {h h':H} {G G':Fz} {d b L p q:Nat} {m:D.M} {sl:List Sl} {k k1 k2:Hd}
theorem by4:bytes ctx 4=1:=kR
theorem u281:und ctx 281=some (.map 3 4):=kR
theorem Tp:∀ {es:List (AV × AV × Nat)} {vl:List Int} {x:Int},es.map (·.1)=vl.map (AV.int wQ)→x ∉ vl→lookup es wQ x=some none
 | [],_,_,_,_=>rfl
 | (a,b,c)::es,[],_,h,_=>by cases h
 | (a,b,c)::es,y::vl,x,h,hx=>by
  rw [List.map_cons,List.map_cons,List.cons.injEq] at h;obtain ⟨h1,h2⟩:=h;simp only at h1;subst h1;have:¬ x=y:=fun e=>hx (e ▸ List.mem_cons_self ..);unfold lookup;simp only [decide_true,decide_eq_false this];exact Tp h2 fun h=>hx (List.mem_cons_of_mem _ h)
theorem W8:∀ l:List Int,Af (IC l)=true
 | []=>rfl
 | _::l=>W8 l
theorem Ayc:∀ {l:List Bool} {i:Nat} {x:Bool},i < l.length→Dt i [bQ x] (l.map AV.bool)=some ((l.set i x).map AV.bool)
 | _::_,0,_,_=>rfl
 | y::l,i+1,x,hi=>by
  show Dq (some (bQ y)) (Dt i [bQ x] (l.map AV.bool))=_;rw [Ayc (l:=l) (Nat.lt_of_succ_lt_succ hi)];rfl
theorem bc_z:∀ n:Nat,rep [AV.bool false] n=(List.replicate n false).map AV.bool
 | 0=>rfl
 | n+1=>by rw [Auu,bc_z n];rfl
theorem Ajm {n:Nat}:∀ {l:List Nat} {b:Nat},l.Pairwise (· < ·)→(∀ i,i∈l→b≤i∧i < n)→l=[]∨l.length+b≤n
 | [],_,_,_=>Or.inl rfl
 | a::l,b,h,hb=>by
  obtain ⟨h1,h2⟩:=List.pairwise_cons.1 h;have ha:=hb a (List.mem_cons_self ..);rcases Ajm (b:=a+1) h2 (fun i hi=>⟨h1 i hi,(hb i (List.mem_cons_of_mem _ hi)).2⟩) with e | e
  ·subst e;right;simp;omega
  ·right;rw [List.length_cons];omega
def Bg (ms:List Int) (i:Nat):List Nat:=(List.range i).filter fun k=>decide (0≤ms.getD k (-1))
theorem Uz {ms:List Int} {i:Nat}:Bg ms (i+1)=Bg ms i++(if 0≤ms.getD i (-1) then [i] else []):=by
 unfold Bg;rw [List.range_succ,List.filter_append];congr 1
 by_cases h:0≤ms.getD i (-1)
 ·rw [if_pos h,List.filter_cons,if_pos (decide_eq_true h)];rfl
 ·rw [if_neg h,List.filter_cons,if_neg (by simpa using h)];rfl
theorem Jh {ms:List Int} {i k:Nat} (h:k∈Bg ms i):k < i∧0≤ms.getD k (-1):=by
 unfold Bg at h;rw [List.mem_filter,List.mem_range] at h;exact ⟨h.1,by simpa using h.2⟩
theorem So (ms:List Int):∀ i,(Bg ms i).length≤i
 | 0=>Nat.le_refl _
 | i+1=>by rw [Uz,List.length_append];have:=So ms i;split <;> simp <;> omega
abbrev ics (l:List Nat):List Int:=l.map fun i:Nat=>(i:Int)
abbrev ivs (ms:List Int) (l:List Nat):List Int:=l.map fun i=>ms.getD i (-1)
theorem stay155 {v:AV} {ms:List Int} (s:St h G) (ha:Arr G 1 v ms.length (IC ms)) (h8:ms.length≤100) (hm:∀ x:Int,x∈ms→-1≤x) (hi:∀ i k,i < ms.length→k < ms.length→0≤ms.getD i (-1)→ms.getD i (-1)=ms.getD k (-1)→i=k) :
  Ans ctx 155 [v] h fun w h'=>∃ (q8:Nat) (st:List Bool),w=.sl q8 0 ms.length ms.length∧h'.m.get q8=some (cQ (st.map AV.bool) 4)∧st.length=ms.length∧V.D.StOK ms st∧Gro h G h'∧h.nx≤q8:=by
 refine aO Tryz.f155 ?_;simp only [Tryz.f155];have ai:=ha.len;have c1:decide ((4096:Int) < (ms.length:Int))=false:=decide_eq_false tM;simp only [seval,go_sem,ai,c1,Amf];have nG:∀ j,h.nx≤j→G j=none:=fun j O=>s.none O;refine Ao (fun (i:Nat) e h'=>∃ (vs vv:AV) (es:List (AV × AV × Nat)) (U:Nat),(Own h' (h.nx+1) 3 1 vs (Bg ms i).length (IC (ics (Bg ms i)))∧Own h' (h.nx+1) 3 1 vv (Bg ms i).length (IC (ivs ms (Bg ms i)))∧(∀ j,VB vs j→¬ VB vv j)∧es.map (·.1)=(ivs ms (Bg ms i)).map (AV.int wQ)∧h'.m.get h.nx=some (.mapb es U)∧Gro h G h') ∧
   e.get 0=some v∧e.get 3=some vs∧e.get 4=some vv∧e.get 5=some (.mp h.nx)∧e.get 17=some v∧e.get 18=some (iQ wQ ms.length)∧e.get 19=some (iQ wQ i)∧i≤ms.length) (fun i=>ms.length - i) 0 ?_ ?_
 ·refine ⟨_,_,[],0,⟨Or.inl ⟨rfl,rfl,rfl⟩,Or.inl ⟨rfl,rfl,rfl⟩,fun j O=>(by obtain ⟨_,e⟩:=O;cases e),rfl,?_,?_⟩,by simp [Tr.get_set],by simp [Tr.get_set],by simp [Tr.get_set],by simp [Tr.get_set],by simp [Tr.get_set],by simp [Tr.get_set],by simp [Tr.get_set],Nat.zero_le _⟩
  ·exact Au
  ·exact (Stp.refl s).new
 rintro i e I ⟨vs,vv,es,U,⟨o3,o4,dj,hk,gm,p⟩,e0,e3,e4,e5,Y,Z,ab,aK⟩ lp;have sl:=So ms i;simp only [seval,go_sem,Y,Z,ab];refine Cr (fun J=>?_) (fun J=>?_)
 ·have J:i < ms.length:=by simpa using J
  have w:=wI i;obtain ⟨zb,zo,z1,z2⟩:=ha.ints s J;have zr:=p.st.read z2;have mi:=hm _ (List.getElem_mem J);have ac:ms.getD i (-1)=ms[i]:=by simp [List.getD,J]
  have cn:decide (ms[i] < -1)=false:=decide_eq_false tM;have aQ:ms[i] ∉ ivs ms (Bg ms i):=fun hx=>by
   obtain ⟨k,aN,aP⟩:=List.mem_map.1 hx;obtain ⟨h1,I⟩:=Jh aN;have:=hi k i tM J I (by rw [aP,ac]);omega
  have lk:lookup es wQ ms[i]=some none:=Tp hk aQ
  by_cases hp:0≤ms[i]
  ·have cp:decide (0≤ms[i])=true:=decide_eq_true hp;have l3:=o3.len;have l4:=o4.len;have bm:=p.nx;have ar:=Ah p.st.1 gm;have pM:Gro h G (I.at h.nx (.mapb (es++[(iQ wQ ms[i],bQ true,U)]) (U+1))):=p.at (Or.inl (Nat.le_refl _)) ar (nG _ (Nat.le_refl _));have aG:({ m:=I.m.set h.nx (.mapb (es++[(iQ wQ ms[i],bQ true,U)]) (U+1)),nx:=I.nx }:H)=(I.at h.nx (.mapb (es++[(iQ wQ ms[i],bQ true,U)]) (U+1))):=rfl;have pW:Stp (fun j=>j=h.nx) I G ((I.at h.nx (.mapb (es++[(iQ wQ ms[i],bQ true,U)]) (U+1))).new (cQ [iQ wQ i] 3)) G:=((Stp.refl (W:=fun j=>j=h.nx) p.st).at (Or.inr rfl) ar (nG _ (Nat.le_refl _))).new;obtain ⟨bf,h5,c5,a6,aX,ah,aa⟩:=Di (C:=ctx) (k:=0) (new:=[iQ wQ i]) (o3.mv pW p.st.1 (fun q hq hh=>by omega)) tM (Be (by rw [by3];omega) tM) (by rw [A7,W8];rfl) rfl (by simp only [Ac,Ag];omega) pW.st (fun j O=>nG _ (by have:=o3.vb O;omega));simp only [Ac,Ag] at aX aa;have aZ:Own (h5.new (cQ [iQ wQ ms[i]] 3)) (h.nx+1) 3 1 vv (Bg ms i).length (IC (ivs ms (Bg ms i))):=by
    rcases o4 with o | ⟨q,x1,x2,x3,x4,x5⟩ | ⟨q,x1,x2,x3,x4⟩
    ·exact Or.inl o
    ·refine Or.inr (Or.inl ⟨q,x1,x2,x3,x4,?_⟩);rw [Bh (by have:=Ah p.st.1 x5;omega)];refine ah.gt pW.st.1 (pW.gt p.st.1 x5 tM) (fun hh=>?_);obtain ⟨n,e⟩:=hh;rw [e] at o3;rcases o3 with ⟨z,_⟩ | ⟨_,_,z,_⟩ | ⟨q',_,z,z2,_⟩ <;> cases z
     rw [x5] at z2;cases z2
    ·refine Or.inr (Or.inr ⟨q,x1,x2,?_,x4⟩);rw [Bh (by have:=Ah p.st.1 x3;omega)];exact ah.gt pW.st.1 (pW.gt p.st.1 x3 tM) (fun hh=>dj q hh ⟨_,x2⟩)
   have s5:St (h5.new (cQ [iQ wQ ms[i]] 3)) G:=(ah.new).st;obtain ⟨bg,h6,c6,a7,aY,ap,a0⟩:=Di (C:=ctx) (k:=0) (new:=[iQ wQ ms[i]]) aZ tM (Be (by rw [by3];omega) tM) (by rw [A7,W8];rfl) rfl (by simp only [Ac];omega) s5 (fun j O=>nG _ (by have:=o4.vb O;omega));simp only [Ac] at aY a0;have w5:=a6.one;have w6:=a7.one;simp only [seval,go_sem,e3,e4,e5,Y,Z,ab,z1,zr,cn,cp,u281,gm,lk,Aaj,okV,l3,l4,aG,c5,c6,w];have hs:Bg ms (i+1)=Bg ms i++[i]:=by rw [Uz,ac,if_pos hp]
   have af:(Bg ms (i+1)).length=(Bg ms i).length+(0+1):=by rw [hs];simp
   have p6:Gro h G h6:=(((pM.new (b:=cQ [iQ wQ i] 3)).in ah (fun j O hh=>by have:=o3.vb hh;omega)).new (b:=cQ [iQ wQ ms[i]] 3)).in ap (fun j O hh=>by have:=o4.vb hh;omega);refine lp (i+1) _ _ tM ⟨bf,bg,es++[(iQ wQ ms[i],bQ true,U)],U+1,⟨?_,?_,fun j O aL=>?_,?_,?_,p6⟩,by simp [Tr.get_set,e0],by simp [Tr.get_set],by simp [Tr.get_set],by simp [Tr.get_set,e5],by simp [Tr.get_set,Y],by simp [Tr.get_set,Z],by simp [Tr.get_set],J⟩
   ·rw [af,hs,show IC (ics (Bg ms i++[i]))=IC (ics (Bg ms i))++[iQ wQ i] by simp];rcases a6 with ⟨e,_⟩ | ⟨_,_,e,_⟩ | ⟨q',x1,x2,x3,x4⟩
    ·rw [aa] at e;cases e
    ·rw [aa] at e;cases e
    ·rw [aa] at x2;cases x2;refine Or.inr (Or.inr ⟨_,x1,aa,ap.gt s5.1 ((Bh tM).trans x3) (fun hh=>?_),x4⟩);have:=VB.lt o4 p.st.1 (Or.inl hh);omega
   ·rw [af,hs,show IC (ivs ms (Bg ms i++[i]))=IC (ivs ms (Bg ms i))++[iQ wQ ms[i]] by simp only [IC,ivs,List.map_append,List.map_cons,List.map_nil,ac]];exact a7
   ·obtain ⟨_,e⟩:=O;obtain ⟨_,e2⟩:=aL;rw [aa] at e;rw [a0] at e2;simp only [AV.sr.injEq] at e e2;omega
   ·rw [hs,List.map_append,hk];simp only [ivs,List.map_append,List.map_cons,List.map_nil,ac]
   ·have g2:((I.at h.nx (.mapb (es++[(iQ wQ ms[i],bQ true,U)]) (U+1))).new (cQ [iQ wQ i] 3)).m.get h.nx=some (.mapb (es++[(iQ wQ ms[i],bQ true,U)]) (U+1)):=(Bh (by simp only [Ag];omega)).trans Ap;have g3:=ah.gt pW.st.1 g2 (fun hh=>by have:=o3.vb hh;omega);exact ap.gt s5.1 ((Bh tM).trans g3) (fun hh=>by have:=o4.vb hh;omega)
  ·have cp:decide (0≤ms[i])=false:=decide_eq_false hp;simp only [seval,go_sem,e3,e4,e5,Y,Z,ab,z1,zr,cn,cp,u281,gm,lk,Aaj,okV,w];have hs:Bg ms (i+1)=Bg ms i:=by rw [Uz,ac,if_neg hp,List.append_nil]
   exact lp (i+1) _ _ tM ⟨vs,vv,es,U,by rw [hs];exact ⟨o3,o4,dj,hk,gm,p⟩,by simp [Tr.get_set,e0],by simp [Tr.get_set,e3],by simp [Tr.get_set,e4],by simp [Tr.get_set,e5],by simp [Tr.get_set,Y],by simp [Tr.get_set,Z],by simp [Tr.get_set],J⟩
 ·have J:ms.length≤i:=by simpa using J
  have aJ:i=ms.length:=tM;subst aJ;have cb:decide (bytes ctx 4 * ms.length≤281474976710656)=true:=decide_eq_true (by rw [by4];omega);have aA:decide (ms.length≤9223372036854775807)=true:=decide_eq_true tM;simp only [seval,go_sem,e0,e3,e4,e5,Y,Z,ab,ai,cb,aA];obtain ⟨G2,a8,_,ax⟩:=o4.frz2 p tM (fun j O=>nG j (by
   rcases O with O | O
   ·have:=o4.vb O;omega
   ·rcases o4 with ⟨e,_⟩ | ⟨q',y,e,_⟩ | ⟨q',y,e,_⟩
    ·rw [e] at O;cases O
    ·rw [e] at O;cases O;omega
    ·rw [e] at O;cases O))
  have n8:G2 I.nx=none:=a8.st.none (Nat.le_refl _);have pz:Stp (fun _=>False) h G (I.new (cQ (rep [bQ false] ms.length) 4)) G2:=a8.new;have ao:(ivs ms (Bg ms ms.length)).length=(Bg ms ms.length).length:=List.length_map ..;refine Ae (Aea pz.st (ao.symm ▸ ax) tM) fun _ h5 ⟨w1,ix,aB,p5,aw,pw,pv,hw⟩=>?_;subst aB;have l2:=p.nx;have aU:Db w1=some ix.length:=by
   rcases hw with ⟨rfl,rfl⟩ | ⟨q6,c,rest,rfl,_⟩ <;> rfl
  simp only [seval,go_sem,e0,e3,e4,e5,Y,Z,ab,aU];have g8:=p5.gt pz.st.1 (i:=I.nx) Au (fun h=>h);refine Ao (fun (j:Nat) e h'=>(∃ st:List Bool,st.length=ms.length∧(∀ k,st.getD k false=true↔∃ a,a∈ix.take j∧(Bg ms ms.length)[a]?=some k)∧h'.m.get I.nx=some (cQ (st.map AV.bool) 4)∧Stp (fun i=>i=I.nx) h5 G2 h' G2)∧j≤ix.length∧e.get 3=some vs∧e.get 8=some (.sl I.nx 0 ms.length ms.length)∧e.get 54=some w1∧e.get 55=some (iQ wQ ix.length)∧e.get 56=some (iQ wQ j)) (fun j=>ix.length - j) 0 ?_ ?_
  ·refine ⟨⟨List.replicate ms.length false,List.length_replicate,fun k=>?_,by rw [← bc_z];exact g8,Stp.refl p5.st⟩,Nat.zero_le _,by simp [Tr.get_set,e3]⟩;simp [List.getD,List.getElem?_replicate];split <;> simp
  rintro j e h6 ⟨⟨st,af,ag,gs,p6⟩,O,f3,f8,aj,ak,aq⟩ aV;simp only [seval,go_sem,aj,ak,aq];refine Cr (fun E=>?_) (fun E=>?_)
  ·have E:j < ix.length:=by simpa using E
   have wj:IntKind.i64.wrap ((j:Int)+1)=((j+1:Nat):Int):=by rw [show (j:Int)+1=((j+1:Nat):Int) by omega];exact Bz (by
    rcases Ajm (b:=0) pw (fun i hi=>⟨Nat.zero_le _,aw i hi⟩) with e | e
    ·rw [e] at E;exact absurd E (by simp)
    ·rw [ao] at e;omega)
   have ae:=aw _ (List.getElem_mem E);rw [ao] at ae;rcases hw with ⟨_,e⟩ | ⟨q6,c,rest,ew,aW,g6⟩
   ·rw [e] at E;exact absurd E (by simp)
   simp only [Ac] at aW;have aD:=p6.gt p5.st.1 g6 tM;have r6:h6.read q6 j 1=some [iQ wQ (ix[j]:Nat)]:=by
    rw [Ab aD,Ib,I7 (by simp;omega)];simp [List.getElem_append_left,E]
   have i6:ixA 1 j w1=some (jQ q6 j):=by rw [ew,Ed E,Nat.zero_add,Nat.mul_one]
   obtain ⟨q3,x1,x2,x3⟩:∃ q3,I.nx > q3∧vs=.sr q3 0 0 (Bg ms ms.length).length∧I.m.get q3=some (oQ (IC (ics (Bg ms ms.length))) (Bg ms ms.length).length 3 1):=by
    rcases o3 with ⟨_,e,_⟩ | ⟨_,_,_,e,_⟩ | ⟨q3,_,x2,x3,_⟩
    ·omega
    ·omega
    ·exact ⟨q3,Ah p.st.1 x3,x2,x3⟩
   have aC:=p6.gt p5.st.1 (p5.gt pz.st.1 ((Bh tM).trans x3) (fun h=>h)) tM;have r3:h6.read q3 ix[j] 1=some [iQ wQ ((Bg ms ms.length)[ix[j]]:Nat)]:=by
    rw [Ab aC,Ha,I7 (by simpa using ae)];simp
   have i3:ixA 1 ix[j] vs=some (jQ q3 ix[j]):=by rw [x2,O6 ae,Nat.zero_add,Nat.mul_one]
   have aS:=(Jh (List.getElem_mem ae)).1;have i8:ixA 1 (Bg ms ms.length)[ix[j]] (.sl I.nx 0 ms.length ms.length)=some (jQ I.nx (Bg ms ms.length)[ix[j]]):=by rw [Ed aS,Nat.zero_add,Nat.mul_one]
   have bp:=Ayc (l:=st) (i:=(Bg ms ms.length)[ix[j]]) (x:=true) tM;simp only [seval,go_sem,f3,f8,aj,ak,aq,i6,r6,i3,r3,i8,gs,bp,wj];refine aV (j+1) _ _ tM ⟨⟨st.set (Bg ms ms.length)[ix[j]] true,by rw [List.length_set];exact af,fun k=>?_,Ap,p6.at (Or.inr rfl) (Ah p6.st.1 gs) n8⟩,E,by simp [Tr.get_set,f3,f8,aj,ak]⟩;have aT:ix.take (j+1)=ix.take j++[ix[j]]:=List.take_succ_eq_append_getElem E;rw [aT];have hx:(Bg ms ms.length)[ix[j]]?=some (Bg ms ms.length)[ix[j]]:=List.getElem?_eq_getElem ae
   by_cases hk:k=(Bg ms ms.length)[ix[j]]
   ·constructor
    ·intro _;exact ⟨ix[j],List.mem_append.2 (Or.inr (List.mem_singleton.2 rfl)),by rw [hx,hk]⟩
    ·intro _;rw [hk];simp [List.getD,List.getElem?_set,show (Bg ms ms.length)[ix[j]] < st.length by omega]
   ·have e1:(st.set (Bg ms ms.length)[ix[j]] true).getD k false=st.getD k false:=by
     simp [List.getD,List.getElem?_set,Ne.symm hk]
    rw [e1,ag k];constructor
    ·rintro ⟨a,h1,I⟩;exact ⟨a,List.mem_append.2 (Or.inl h1),I⟩
    ·rintro ⟨a,h1,I⟩;rcases List.mem_append.1 h1 with h1 | h1
     ·exact ⟨a,h1,I⟩
     ·rw [List.mem_singleton] at h1;rw [h1,hx] at I;exact absurd (Option.some.inj I).symm hk
  ·have E:ix.length≤j:=by simpa using E
   have aM:j=ix.length:=tM;subst aM;rw [List.take_length] at ag;simp only [seval,go_sem,f8];refine ⟨I.nx,st,rfl,gs,af,?_,?_,l2⟩
   ·have be:(Bg ms ms.length).Pairwise (· < ·):=List.Pairwise.filter _ List.pairwise_lt_range;refine ⟨hi,fun i aK hs=>?_,?_⟩
    ·obtain ⟨a,_,I⟩:=(ag i).1 hs;exact (Jh (List.mem_of_getElem? I)).2
    ·unfold V.D.stl;rw [List.pairwise_map];refine List.Pairwise.imp_of_mem (fun {a b} au av bj=>?_) (List.Pairwise.filter _ (List.pairwise_lt_range' ..));rw [List.mem_filter] at au av;obtain ⟨ia,aE,am⟩:=(ag a).1 au.2;obtain ⟨ib,aH,an⟩:=(ag b).1 av.2;obtain ⟨aF,bh⟩:=List.getElem?_eq_some_iff.1 am;obtain ⟨aI,bk⟩:=List.getElem?_eq_some_iff.1 an;have bl:ia < ib:=by
      rcases Nat.lt_trichotomy ia ib with h | h | h
      ·exact h
      ·subst h;omega
      ·have:=List.pairwise_iff_getElem.1 be ib ia aI aF h;omega
     obtain ⟨pa,ay,rfl⟩:=List.mem_iff_getElem.1 aE;obtain ⟨pb,az,rfl⟩:=List.mem_iff_getElem.1 aH;have aR:pa < pb:=by
      rcases Nat.lt_trichotomy pa pb with h | h | h
      ·exact h
      ·subst h;omega
      ·have:=List.pairwise_iff_getElem.1 pw pb pa az ay h;omega
     have hv:=List.pairwise_iff_getElem.1 pv pa pb ay az aR;have ea:(ivs ms (Bg ms ms.length)).getD ix[pa] 0=ms.getD a (-1):=by simp [List.getD,am]
     have eb:(ivs ms (Bg ms ms.length)).getD ix[pb] 0=ms.getD b (-1):=by simp [List.getD,an]
     rw [ea,eb] at hv;have ba:=(Jh (List.mem_of_getElem? am)).2;have bb:=(Jh (List.mem_of_getElem? an)).2;unfold V.D.tok;rw [if_pos ba,if_pos bb];exact hv
   ·exact Stp.less s ((pz.trans p5).in p6 (fun i hi hh=>by omega))
end
section
variable {h h':H} {G G':Fz} {d b L p q:Nat} {m:D.M} {sl:List Sl} {k k1 k2:Hd}
structure IR (h:H) (s:AV) (l:List Int):Prop where
 len:Db s=some l.length
 at':∀ j (hj:j < l.length),∃ b o,ixA 1 j s=some (jQ b o)∧h.read b o 1=some [iQ wQ l[j]]
theorem IR.cells {l:List Int} (g:h.m.get q=some (cQ (IC l) 3)):IR h (.sl q 0 l.length l.length) l :=
 ⟨rfl,fun j z=>⟨q,j,by rw [Ed z,Nat.zero_add,Nat.mul_one],(Ab g).trans (I7 z)⟩⟩
theorem IR.own {lo n:Nat} {v:AV} {l:List Int} (o:Own h lo 3 1 v n (IC l)) (D:n=l.length):IR h v l:=by
 subst D;refine ⟨o.len,fun j z=>?_⟩;rcases o with ⟨_,e,_⟩ | ⟨_,_,_,e,_⟩ | ⟨q,_,rfl,g,_⟩
 ·omega
 ·omega
 ·exact ⟨q,j,by rw [O6 z,Nat.zero_add,Nat.mul_one],(Ab g).trans (I7 z)⟩
theorem Tu {v:Int}:∀ {l:List Int} {i:Nat} (hi:i < l.length),l[i]=v→(∀ j (hj:j < l.length),j < i→l[j]≠v)→V.D.ixI v l=i
 | x::l,0,_,h,_=>by unfold V.D.ixI;rw [if_pos (show x=v from h)]
 | x::l,i+1,hi,h,hn=>by
  have h0:=hn 0 (by simp) tM;unfold V.D.ixI;rw [if_neg (show ¬ x=v from h0),Tu (l:=l) (i:=i) (Nat.lt_of_succ_lt_succ hi) h fun j hj hj2=>hn (j+1) (by simpa using hj) tM]
theorem Awf {s:AV} {l:List Int} {v:Int} (r:IR h s l) (hn:l.length≤100000):Ans ctx 159 [s,iQ wQ v] h fun w h'=>w=iQ wQ (if v∈l then (V.D.ixI v l:Int) else -1)∧h' = h:=by
 refine aO Tryz.f159 ?_;simp only [Tryz.f159];have hl:=r.len;simp only [seval,go_sem,hl];refine Ao (fun (i:Nat) e h'=>h' = h∧i≤l.length∧(∀ j (U:j < l.length),j < i→l[j]≠v)∧e.get 0=some s∧e.get 1=some (iQ wQ v)∧e.get 7=some (iQ wQ l.length)∧e.get 8=some (iQ wQ i)) (fun i=>l.length - i) 0 ?_ ?_
 ·exact ⟨rfl,Nat.zero_le _,fun _ _ h=>absurd h (Nat.not_lt_zero _),by simp [Tr.get_set]⟩
 rintro i e h2 ⟨rfl,hi,E,I,J,O,Y⟩ lp;have w:=wI i;simp only [seval,go_sem,I,J,O,Y];refine Cr (fun z=>?_) (fun z=>?_)
 ·have z:i < l.length:=by simpa using z
  obtain ⟨b,o,Z,z2⟩:=r.at' i z
  by_cases hv:v=l[i]
  ·have cv:decide (v=l[i])=true:=decide_eq_true hv;simp only [seval,go_sem,I,J,O,Y,Z,z2,cv];rw [if_pos (hv ▸ List.getElem_mem z)];rw [Tu z hv.symm E]
  ·have cv:decide (v=l[i])=false:=decide_eq_false hv;simp only [seval,go_sem,I,J,O,Y,Z,z2,cv,w];exact lp (i+1) _ _ tM ⟨rfl,z,fun j U aa=>by
    rcases Nat.lt_or_ge j i with h | h
    ·exact E j U h
    ·have:j=i:=tM;subst this;exact Ne.symm hv,by simp [Tr.get_set,I],by simp [Tr.get_set,J],by simp [Tr.get_set,O],by simp [Tr.get_set]⟩
 ·have z:l.length≤i:=by simpa using z
  simp only [seval,go_sem];rw [if_neg fun hm=>by
   obtain ⟨j,U,e⟩:=List.mem_iff_getElem.1 hm;exact E j U tM e]
theorem has156 {s:AV} {l:List Int} {v:Int} (r:IR h s l) (D:l.length≤100000):Ans ctx 156 [s,iQ wQ v] h fun w h'=>w=bQ (decide (v∈l))∧h' = h:=by
 refine aO Tryz.f156 ?_;simp only [Tryz.f156];simp only [seval,go_sem];refine Ae (Awf r D) fun _ E ⟨e,z⟩=>?_;subst e z
 by_cases hv:v∈l
 ·simp only [seval,go_sem,if_pos hv,decide_eq_true hv];rw [decide_eq_true (Int.natCast_nonneg _)]
 ·simp only [seval,go_sem,if_neg hv,decide_eq_false hv]
  try decide
theorem IR.gro {s:AV} {l:List Int} (r:IR h s l) (I:h.Ok) (p:Stp (fun _=>False) h G h' G'):IR h' s l :=
 ⟨r.len,fun j E=>by obtain ⟨b,o,z,D⟩:=r.at' j E;exact ⟨b,o,z,p.rs I D (fun h=>h)⟩⟩
theorem Ayd:∀ {l:List Bool} {i:Nat} (hi:i < l.length),Aq i 1 (l.map AV.bool)=some [bQ l[i]]
 | _::_,0,_=>rfl
 | _::l,i+1,hi=>Ayd (l:=l) (Nat.lt_of_succ_lt_succ hi)
theorem Abm {ms l:List Int} {E:List Bool} {lv:AV} {i q8 q9 O U:Nat} {mv:AV} (s:St h G) (g8:h.m.get q8=some (cQ [mv] 77)) (rm:IR h mv ms) (g9:h.m.get q9=some (cQ [.sl U 0 ms.length ms.length] 243)) (gs:h.m.get U=some (cQ (E.map AV.bool) 4)) (ah:E.length=ms.length)
  (ac:h.m.get O=some (cQ [lv] 77)) (rl:IR h lv l) (hl:l.length≤1000) (hi:i < ms.length) (h8:ms.length≤1000) (hk:∀ k,i < k→k < ms.length→V.D.stB' E k=true→0≤ms.getD k (-1)∧ms.getD k (-1)∈l) :
  Ans ctx 158 [iQ wQ i,jQ q8 0,jQ q9 0,jQ O 0] h fun w h'=>w=iQ wQ (V.D.ahd ms E i l:Nat)∧Gro h G h':=by
 refine aO Tryz.f158 ?_;simp only [Tryz.f158];have w:∀ {k:Nat},k≤1000→IntKind.i64.wrap ((k:Int)+1)=((k+1:Nat):Int):=fun {k} hk=>by rw [show (k:Int)+1=((k+1:Nat):Int) by omega];exact Bz tM
 have w0:=w (k:=i) tM;have r8:h.read q8 0 1=some [mv]:=(Ab g8).trans rfl;have r9:h.read q9 0 1=some [.sl U 0 ms.length ms.length]:=(Ab g9).trans rfl;have ab:h.read O 0 1=some [lv]:=(Ab ac).trans rfl;have ml:=rm.len;have ll:=rl.len;simp only [seval,go_sem,w0];refine Ao (fun (k:Nat) e h'=>h' = h∧i+1≤k∧k≤ms.length∧V.D.stl ms E (i+1)=V.D.stl ms E k∧e.get 1=some (jQ q8 0)∧e.get 2=some (jQ q9 0)∧e.get 3=some (jQ O 0)∧e.get 6=some (iQ wQ k)) (fun k=>ms.length - k) (i+1) ?_ ?_
 ·exact ⟨rfl,Nat.le_refl _,hi,rfl,by simp [Tr.get_set]⟩
 rintro k e h2 ⟨rfl,af,ag,I,e1,e2,Y,e6⟩ lp;simp only [seval,go_sem,e1,e2,Y,e6,r8,ml];refine Cr (fun z=>?_) (fun z=>?_)
 ·have z:k < ms.length:=by simpa using z
  have wk:=w (k:=k) tM;have rs:h2.read U k 1=some [bQ (E[k]' tM)]:=(Ab gs).trans (Ayd tM);have is:ixA 1 k (.sl U 0 ms.length ms.length)=some (jQ U k):=by rw [Ed z,Nat.zero_add,Nat.mul_one]
  have J:V.D.stB' E k=E[k]' tM :=by unfold V.D.stB';simp [List.getD,show k < E.length by omega]
  obtain ⟨mb,mo,m1,m2⟩:=rm.at' k z;cases hb:E[k]' tM with
  | true =>
   rw [hb] at rs J;obtain ⟨ae,aa⟩:=hk k tM z J;have Z:ms.getD k (-1)=ms[k]:=by simp [List.getD,z]
   obtain ⟨_,h3,c3,rfl,rfl⟩:=Awf (h:=h2.up 7) (v:=ms[k]) (rl.gro s.1 (Stp.refl (W:=fun _=>False) s).up) tM;simp only [seval,go_sem,e1,e2,Y,e6,r8,r9,ab,rs,is,m1,m2,c3];have tk:V.D.tok ms k=ms[k]:=by unfold V.D.tok;rw [if_pos ae,Z]
   have:V.D.ahd ms E i l=V.D.ixI ms[k] l:=by
    unfold V.D.ahd;rw [I,V.D.stl_step z,J,if_pos rfl,tk];rfl
   rw [Z] at aa;rw [this,if_pos aa];exact ⟨rfl,(Stp.refl s).up⟩
  | false =>
   rw [hb] at rs J;simp only [seval,go_sem,e1,e2,Y,e6,r8,r9,rs,is,wk];refine lp (k+1) _ _ tM ⟨rfl,tM,z,?_,by simp [Tr.get_set,e1],by simp [Tr.get_set,e2],by simp [Tr.get_set,Y],by simp [Tr.get_set]⟩;rw [I,V.D.stl_step z,J];rfl
 ·have z:ms.length≤k:=by simpa using z
  simp only [seval,go_sem,Y,ab,ll];have:V.D.ahd ms E i l=l.length:=by
   unfold V.D.ahd;rw [I,V.D.stl_end tM]
  rw [this];exact ⟨rfl,Stp.refl s⟩
end
section
variable {h h':H} {G G':Fz} {d b L p q:Nat} {m:D.M} {sl:List Sl} {k k1 k2:Hd}
theorem Awj {lo n i j:Nat} {s:AV} {l:List Int} {x:Int} (o:Own h lo 3 1 s n (IC l)) (hn:l.length=n) (st:St h G) (hg:∀ q,VB s q→G q=none) (hi:i≤n) (hj:∀ q,VB s q→q≠j) (h7:n≤10000000) (Z:h.read j 0 1=some [iQ wQ x]) (hx:∃ cs t,h.m.get j=some (cQ cs t)) :
  ∃ h',FW ctx 160 [s,iQ wQ i,.sl j 0 1 1] h=some (.sr h.nx 0 0 (n+1),h')∧h'.m.get h.nx=some (oQ (IC (V.D.insI l i x)) (n+1) 3 1)∧Stp (VB s) h G h' G∧h'.nx=h.nx+1:=by
 have J:Gz i 1 (IC l) [iQ wQ x]=IC (V.D.insI l i x):=by
  unfold Gz V.D.insI;rw [Nat.mul_one,← List.map_take,← List.map_drop];simp [IC]
 have O:Eo (i:Int)=some i:=rfl;have z:Af [iQ wQ x]=true:=rfl;have E:Aee h j=true:=by obtain ⟨cs,t,hx⟩:=hx;unfold Aee;rw [hx]
 rcases o with ⟨rfl,rfl,Y⟩ | ⟨q,hq,rfl,rfl,Y,U⟩ | ⟨q,hq,rfl,U,_⟩
 ·have I:i=0:=tM;subst I;refine ⟨h.new (oQ (IC (V.D.insI l 0 x)) 1 3 1),Fa ?_,Au,(Stp.refl st).new,rfl⟩;show some (I8 3 1 [(():AV),iQ wQ (0:Nat),.sl j 0 1 1] h)=_;unfold I8;simp only [Mj,O,Z,z,E,Bool.and_self];rw [← J,Y];rfl
 ·have I:i=0:=tM;subst I;refine ⟨h.new (oQ (IC (V.D.insI l 0 x)) 1 3 1),Fa ?_,Au,(Stp.refl st).new,rfl⟩;show some (I8 3 1 [.sl q 0 0 0,iQ wQ (0:Nat),.sl j 0 1 1] h)=_;have aa:h.read q 0 0=some []:=by unfold H.read;rw [U];rfl
  unfold I8;simp only [Mj,O,Z,z,E,Bool.and_self,aa];rw [← J,Y];rfl
 ·refine ⟨(h.dl q).new (oQ (IC (V.D.insI l i x)) (n+1) 3 1),Fa ?_,Au,((Stp.refl st).dl (Or.inr ⟨n,rfl⟩) (hg q ⟨n,rfl⟩)).new,rfl⟩;show some (I8 3 1 [.sr q 0 0 n,iQ wQ i,.sl j 0 1 1] h)=_;have ab:Nat.beq q j=false:=by rw [J2];exact decide_eq_false (hj q ⟨n,rfl⟩)
  have ac:Hg 3 1 n q h=some (IC l):=by
   unfold Hg;simp only [U,Nat.beq_refl];rfl
  unfold I8;simp only [Mj,O,Z,z,E,Bool.and_self];unfold Awg;simp only [Nat.ble_eq_true_of_le hi,Nat.ble_eq_true_of_le h7,ab,ac,Bool.not_false,Bool.and_self];rw [← J];rfl
theorem del162 {lo n i:Nat} {s:AV} {l:List Int} (o:Own h lo 3 1 s n (IC l)) (hn:l.length=n) (st:St h G) (U:∀ q,VB s q→G q=none) (Y:i < n) :
  ∃ h',FW ctx 162 [s,iQ wQ i,iQ wQ (i+1:Nat)] h=some (.sr h.nx 0 0 (n - 1),h')∧h'.m.get h.nx=some (oQ (IC (V.D.delI l i)) (n - 1) 3 1)∧Stp (VB s) h G h' G∧h'.nx=h.nx+1:=by
 have z:(IC l).take (i * 1)++(IC l).drop ((i+1) * 1)=IC (V.D.delI l i):=by
  unfold V.D.delI;rw [Nat.mul_one,Nat.mul_one,← List.map_take,← List.map_drop];simp [IC]
 rcases o with ⟨rfl,rfl,O⟩ | ⟨q,Z,rfl,rfl,O,J⟩ | ⟨q,Z,rfl,J,_⟩
 ·omega
 ·omega
 ·refine ⟨(h.dl q).new (oQ (IC (V.D.delI l i)) (n - 1) 3 1),Fa ?_,Au,((Stp.refl st).dl (Or.inr ⟨n,rfl⟩) (U q ⟨n,rfl⟩)).new,rfl⟩;show some (Ow 3 1 [iQ wQ 0] [.sr q 0 0 n,iQ wQ i,iQ wQ (i+1:Nat)] h)=_;have E:∀ j:Nat,Eo (j:Int)=some j:=fun _=>rfl;have I:Hg 3 1 n q h=some (IC l):=by
   unfold Hg;simp only [J,Nat.beq_refl];rfl
  unfold Ow;simp only [Mj,E,Nat.beq_refl];unfold Axn;simp only [Nat.ble_eq_true_of_le (show i+1≤n from Y),I];rw [z];rfl
structure NB (h:H) (G:Fz) (q a8 a9 a10 bx qm qs n:Nat) (v lv:AV) (ss:List V.D.Sx) (l ms:List Int) (st:List Bool) (X Y:List AV):Prop where
 w:Wr h G q v ss
 g8:h.m.get a8=some (cQ [.sl qm 0 n n] 77)
 g9:h.m.get a9=some (cQ [.sl qs 0 n n] 243)
 g10:h.m.get a10=some (cQ [lv] 77)
 n10:G a10=none
 gx:h.m.get bx=some (cQ X 36)
 gy:h.m.get (bx+1)=some (cQ Y 36)
 fm:G qm=some (cQ (IC ms) 3)
 fs:G qs=some (cQ (st.map AV.bool) 4)
 lt:bx+1 < a8∧a8 < a9∧a9 < a10
 nw:∀ i,i=bx∨i=bx+1∨i=a8∨i=a9∨i=a10→¬ WB q v i
 c:(lv=(():AV)∧l=[])∨∃ j,lv=.sr j 0 0 l.length∧h.m.get j=some (oQ (IC l) l.length 3 1)∧G j=none∧a10 < j∧¬ WB q v j
section
variable {a8 a9 a10 bx qm qs n:Nat} {v lv:AV} {ss:List V.D.Sx} {l ms:List Int} {st:List Bool} {X Y:List AV}
theorem NB.own (B:NB h G q a8 a9 a10 bx qm qs n v lv ss l ms st X Y):Own h (a10+1) 3 1 lv l.length (IC l):=by
 rcases B.c with ⟨z,D⟩ | ⟨j,z,D,_,E,_⟩
 ·subst D;exact Or.inl ⟨z,rfl,rfl⟩
 ·exact Or.inr (Or.inr ⟨j,E,z,D,by simp⟩)
theorem NB.vb (B:NB h G q a8 a9 a10 bx qm qs n v lv ss l ms st X Y) {j:Nat} (O:VB lv j):G j=none∧a10 < j∧¬ WB q v j∧j < h.nx:=by
 obtain ⟨k,e⟩:=O;rcases B.c with ⟨z,_⟩ | ⟨U,z,D,E,I,J⟩
 ·rw [z] at e;cases e
 ·rw [z] at e;cases e;exact ⟨E,I,J,Ah B.w.s.1 D⟩
theorem NB.wr {h':H} {G':Fz} {U:AV} {I:List V.D.Sx} (B:NB h G q a8 a9 a10 bx qm qs n v lv ss l ms st X Y) (w:WStp h G q v h' G' U) (A:Wr h' G' q U I):NB h' G' q a8 a9 a10 bx qm qs n U lv I l ms st X Y:=by
 have O:=B.w.s.1;have keep:∀ {i b},h.m.get i=some b→¬ WB q v i→h'.m.get i=some b∧¬ WB q U i:=fun {i b} g hn=>⟨w.st.gt O g hn,fun z=>by
  rcases z with z | z
  ·exact hn (Or.inl z)
  ·rcases w.nw i z with J | J
   ·have:=Ah O g;omega
   ·exact hn (Or.inr J)⟩
 have k8:=keep B.g8 (B.nw _ (by simp));have k9:=keep B.g9 (B.nw _ (by simp));have E:=keep B.g10 (B.nw _ (by simp));have kx:=keep B.gx (B.nw _ (by simp));have ky:=keep B.gy (B.nw _ (by simp));have le:=w.st.le B.w.s;refine ⟨A,k8.1,k9.1,E.1,(w.st.old _ (Ah O B.g10)).trans B.n10,kx.1,ky.1,le _ _ B.fm,le _ _ B.fs,B.lt,fun i hi=>?_,?_⟩
 ·rcases hi with rfl | rfl | rfl | rfl | rfl
  ·exact kx.2
  ·exact ky.2
  ·exact k8.2
  ·exact k9.2
  ·exact E.2
 ·rcases B.c with hc | ⟨j,J,Z,h3,h4,h5⟩
  ·exact Or.inl hc
  ·exact Or.inr ⟨j,J,(keep Z h5).1,(w.st.old _ (Ah O Z)).trans h3,h4,(keep Z h5).2⟩
theorem NB.gro {h':H} {G':Fz} (B:NB h G q a8 a9 a10 bx qm qs n v lv ss l ms st X Y) (p:Stp (fun _=>False) h G h' G'):NB h' G' q a8 a9 a10 bx qm qs n v lv ss l ms st X Y :=
 B.wr (WStp.gro ⟨Stp.refl B.w.s,fun _ h=>Or.inr h⟩ p) (B.w.mv p (fun _ h=>h.elim))
theorem NB.set {E:H} {l':List Int} {j:Nat} (B:NB h G q a8 a9 a10 bx qm qs n v lv ss l ms st X Y) (p:Stp (VB lv) h G E G) (Z:h.nx≤j) (g:E.m.get j=some (oQ (IC l') l'.length 3 1)) :
  NB (E.at a10 (cQ [.sr j 0 0 l'.length] 77)) G q a8 a9 a10 bx qm qs n v (.sr j 0 0 l'.length) ss l' ms st X Y∧Stp (fun i=>i=a10∨VB lv i) h G (E.at a10 (cQ [.sr j 0 0 l'.length] 77)) G:=by
 have J:=B.w.s.1;have aa:=Ah J B.g10;have O:∀ {i},i≤a10→¬ VB lv i:=fun {i} h1 z=>by have:=(B.vb z).2.1;omega
 have lt:=B.lt;have D:Stp (fun i=>i=a10∨VB lv i) h G (E.at a10 (cQ [.sr j 0 0 l'.length] 77)) G:=(p.mono (W':=fun i=>i=a10∨VB lv i) fun _ h=>Or.inr h).at (Or.inr (Or.inl rfl)) (by have:=p.nx;omega) B.n10;have U:∀ {i},(i=a10∨VB lv i)→¬ WB q v i:=fun {i} I=>by
  rcases I with rfl | I
  ·exact B.nw _ (by simp)
  ·exact (B.vb I).2.2.1
 refine ⟨⟨B.w.mv D (fun i I=>U I),D.gt J B.g8 (fun z=>?_),D.gt J B.g9 (fun z=>?_),Ap,B.n10,D.gt J B.gx (fun z=>?_),D.gt J B.gy (fun z=>?_),B.fm,B.fs,B.lt,B.nw,Or.inr ⟨j,rfl,?_,B.w.s.none Z,tM,fun z=>by have:=B.w.vb z;omega⟩⟩,D⟩
 ·rcases z with z | z
  ·omega
  ·exact O tM z
 ·rcases z with z | z
  ·omega
  ·exact O tM z
 ·rcases z with z | z
  ·omega
  ·exact O tM z
 ·rcases z with z | z
  ·omega
  ·exact O tM z
 ·rw [An tM];exact g
end
end
section
variable {h h':H} {G G':Fz} {d b L p q:Nat} {m:D.M} {sl:List Sl} {k k1 k2:Hd}
def Mch:Prop:=∀ {h:H} {G:Fz} {a b:AV} {cc dd:List AV} {o n:List T},St h G→Arr G 6 a o.length cc→RTs G o cc→Arr G 6 b n.length dd→RTs G n dd→okTs o=true→okTs n=true→Dp [] o=true→Dp [] n=true→o.length≤16→n.length≤16 →
 Ans ctx 154 [a,b] h fun w h'=>∃ ms:List Int,w=.sl h.nx 0 n.length n.length∧h'.m.get h.nx=some (cQ (IC ms) 3)∧V.D.MatchOK o n ms∧Gro h G h'
def Ajr (d:Nat):Prop:=∀ {h:H} {G:Fz} {q:Nat} {v:AV} {ss:List V.D.Sx} {o n:T} {X Y:List AV} {path:List Nat} {pv:AV},Wr h G q v ss→RT G o X→RT G n Y→A8 o→A8 n→dep n≤d→Arr G 1 pv path.length (path.map fun i:Nat=>AV.int wQ i)→ss.length+50 * siz n≤9000→path.length+d≤90 →
 Ans ctx 109 [jQ q 0,gQ X,gQ Y,pv] h fun _ h'=>∃ G' v' l,WStp h G q v h' G' v'∧Wr h' G' q v' (ss++l)∧V.D.DS Op.bytesLess d o n path l∧l.length≤50 * siz n
theorem Pv {t:T} (h:A8 t):Dp [] t.ch=true:=by
 obtain ⟨kd,E,ky,I,al,ch⟩:=t
 by_cases hk:kd=2
 ·obtain ⟨_,_,_,D,_⟩:=Fp h hk;subst D;rfl
 ·have z:=(On h.1).1;rw [Cc,if_neg hk,Cz] at z;simp only [Bool.and_eq_true] at z;exact z.2.2.2.2.2.2.2
theorem J5 {t:T} (h:A8 t):okA t.attrs∧t.ch.length≤16:=by
 obtain ⟨kd,I,ky,J,al,ch⟩:=t
 by_cases hk:kd=2
 ·obtain ⟨_,_,D,z,_⟩:=Fp h hk;subst D z;exact ⟨⟨rfl,Nat.zero_le _⟩,Nat.zero_le _⟩
 ·obtain ⟨_,_,_,z,E⟩:=Ih h hk;exact ⟨z,E⟩
theorem Pp {ms:List Int}:∀ {l:List Int} {k:Nat} {v:Int},V.D.frS ms k (l++[v])=V.D.frS ms k l++(if v∈ms then [] else [.free (k+(l.filter fun v=>decide (v∈ms)).length)])
 | [],k,v=>by
  show V.D.frS ms k [v]=_;unfold V.D.frS
  by_cases h:v∈ms
  ·rw [if_pos h,if_pos h];rfl
  ·rw [if_neg h,if_neg h];rfl
 | x::l,k,v=>by
  rw [List.cons_append];unfold V.D.frS
  by_cases h:x∈ms
  ·rw [if_pos h,if_pos h,Pp,List.filter_cons,if_pos (decide_eq_true h),List.length_cons,show k+1+(l.filter fun v=>decide (v∈ms)).length=k+((l.filter fun v=>decide (v∈ms)).length+1) by omega]
  ·rw [if_neg h,if_neg h,Pp,List.filter_cons,if_neg (show ¬ decide (x∈ms)=true by simpa using h),List.cons_append]
theorem W7 {n:Nat}:V.D.ints (n+1)=V.D.ints n++[(n:Int)]:=by
 unfold V.D.ints;rw [List.range_succ,List.map_append];rfl
theorem Kt {ms:List Int}:∀ {l:List Int} {k:Nat},(V.D.frS ms k l).length≤l.length
 | [],_=>Nat.le_refl _
 | x::l,k=>by
  unfold V.D.frS
  by_cases h:x∈ms
  ·rw [if_pos h,List.length_cons];have:=Kt (ms:=ms) (l:=l) (k:=k+1);omega
  ·rw [if_neg h,List.length_cons,List.length_cons];have:=Kt (ms:=ms) (l:=l) (k:=k);omega
theorem H5 {n:Nat}:(V.D.ints n).length=n:=by unfold V.D.ints;simp
theorem nd_step (hM:Mch) {d:Nat} (ih:Ajr d):Ajr (d+1):=by
 intro h G q v ss o n X Y path pv A hX hY vo vn hd aU ef ee;have xo:=hX.one;have yo:=hY.one;have x6:=hX.len;have y6:=hY.len;obtain ⟨cE,bH⟩:=J5 vo;obtain ⟨cF,bG⟩:=J5 vn;have sp:=Mb n;have dv:Aq 0 6 X=some X:=by rw [← x6];exact Aj
 have dx:Aq 0 6 Y=some Y:=by rw [← y6];exact Aj
 refine aO Tryz.f109 ?_;simp only [Tryz.f109];have p0:Gro h G ((h.new (cQ X 36)).new (cQ Y 36)):=(Stp.refl A.s).new.new;have rx:((h.new (cQ X 36)).new (cQ Y 36)).read h.nx 0 6=some X:=(Ab (b:=cQ X 36) gL).trans dv;have ry:((h.new (cQ X 36)).new (cQ Y 36)).read (h.nx+1) 0 6=some Y:=(Ab (b:=cQ Y 36) gL).trans dx;have bZ:((h.new (cQ X 36)).new (cQ Y 36)).m.get h.nx=some (cQ X 36):=gL;have dg:=lG bZ (h.nx+1) (cQ Y 36);simp only [seval,go_sem,xo,yo,x6,y6,rx,ry];have A0:=A.mv p0 (fun _ h=>h.elim);refine Ae (own153 A0 hX hY cE cF aU tM tM) fun _ J ⟨G1,v1,W1,A1⟩=>?_;have aM:∀ {i},WB q v i→i < h.nx:=A.vb;have b3:=W1.st.gt p0.st.1 bZ (fun O=>by have:=aM O;omega);have aZ:=W1.st.gt p0.st.1 dg (fun O=>by have:=aM O;omega);obtain ⟨az,a7,a6,a8,aq,E⟩:=o;obtain ⟨ag,ai,ah,aj,af,nch⟩:=n;obtain ⟨xa,xc,eq,rfl,eg,bC,bt⟩:=hX;obtain ⟨ya,yc,er,rfl,ei,bD,bu⟩:=hY;have dN:J.read h.nx 5 1=some [xc]:=(Ab b3).trans rfl;have dP:J.read (h.nx+1) 5 1=some [yc]:=(Ab aZ).trans rfl;simp only [seval,go_sem,dN,dP];have bF:=p0.le A.s;have aK:=W1.st.le A0.s;have d9:=(On vo.1).2;have d8:=(On vn.1).2;have bH:E.length≤16:=bH;have bG:nch.length≤16:=bG;refine Ae (hM A1.s (bC.mono aK) (bt.mono aK) (bD.mono aK) (bu.mono aK) d9 d8 (Pv vo) (Pv vn) bH bG) fun _ h2 ⟨ms,em,gm,ac,p2⟩=>?_;subst em;have bB:=ac.len;have bN:WStp h G q v J G1 v1:=(WStp.gro ⟨Stp.refl A.s,fun _ h=>Or.inr h⟩ p0).trans A0 W1;have pf:=p2.frz (i:=J.nx) (Nat.le_refl _) gm;generalize hG2:G1.add J.nx (cQ (IC ms) 3)=G2 at pf;have bX:G2 J.nx=some (cQ (IC ms) 3):=by rw [← hG2];exact Fz.add_at
 have am:Arr G2 1 (.sl J.nx 0 nch.length nch.length) ms.length (IC ms):=by
  rw [bB];refine Or.inr ⟨J.nx,0,Or.inl ⟨_,Nat.le_refl _,rfl⟩,?_⟩;rw [Fz.rd_b bX,Nat.mul_one,← bB,show ms.length=(IC ms).length by simp];exact Aj
 have l1:=bN.st.nx;have l2:=p2.nx;have dW:=pf.gt A1.s.1 b3 (fun h=>h);have dX:=pf.gt A1.s.1 aZ (fun h=>h);have ek:=Ah A1.s.1 aZ;have bj:Gro h2 G2 ((h2.new (cQ [(():AV)] 77)).at h2.nx (cQ [.sl J.nx 0 nch.length nch.length] 77)):=((Stp.refl pf.st).new).at (Or.inl (Nat.le_refl _)) (by simp only [Ac];omega) (pf.st.none (Nat.le_refl _));have r8:((h2.new (cQ [(():AV)] 77)).at h2.nx (cQ [.sl J.nx 0 nch.length nch.length] 77)).read h2.nx 0 1=some [.sl J.nx 0 nch.length nch.length]:=(Ab Ap).trans rfl;simp only [seval,go_sem,r8];refine Ae (stay155 bj.st am tM (fun x hx=>?_) ac.inj) fun _ z ⟨q8,st,e3,df,cy,aJ,p3,cC⟩=>?_
 ·obtain ⟨j,hj,e⟩:=List.mem_iff_getElem.1 hx;have gd:ms.getD j (-1)=x:=by rw [← e];simp [List.getD,hj]
  rcases ac.rng j hj with J | ⟨k,_,_,J,_⟩
  ·rw [gd] at J;omega
  ·rw [gd] at J;omega
 subst e3;rw [bB] at *;have l3:=p3.nx;simp only [Ac,Ag] at l3;simp only [Ac,Ag] at cC;have aG:=p3.frz (i:=q8) (by simp only [Ac,Ag];exact cC) df;generalize hG3:G2.add q8 (cQ (st.map AV.bool) 4)=G3 at aG;have bY:G3 q8=some (cQ (st.map AV.bool) 4):=by rw [← hG3];exact Fz.add_at
 have dS:=aG.st.lt bY;have cL:Gro z G3 (((z.new (cQ [(():AV)] 243)).at z.nx (cQ [.sl q8 0 nch.length nch.length] 243)).new (cQ [(():AV)] 77)):=(((Stp.refl aG.st).new).at (Or.inl (Nat.le_refl _)) (by simp only [Ac];omega) (aG.st.none (Nat.le_refl _))).new;have aR:Stp (fun _=>False) J G1 (((z.new (cQ [(():AV)] 243)).at z.nx (cQ [.sl q8 0 nch.length nch.length] 243)).new (cQ [(():AV)] 77)) G3:=((pf.trans bj).trans aG).trans cL;have W5:WStp h G q v (((z.new (cQ [(():AV)] 243)).at z.nx (cQ [.sl q8 0 nch.length nch.length] 243)).new (cQ [(():AV)] 77)) G3 v1:=bN.gro aR;have A5:=A1.mv aR (fun _ h=>h.elim);have c3:=aR.gt A1.s.1 b3 (fun h=>h);have dw:=aR.gt A1.s.1 aZ (fun h=>h);have di:(((z.new (cQ [(():AV)] 243)).at z.nx (cQ [.sl q8 0 nch.length nch.length] 243)).new (cQ [(():AV)] 77)).m.get h2.nx=some (cQ [.sl J.nx 0 nch.length nch.length] 77):=(((aG.trans cL)).gt bj.st.1 Ap (fun h=>h));have cf:(((z.new (cQ [(():AV)] 243)).at z.nx (cQ [.sl q8 0 nch.length nch.length] 243)).new (cQ [(():AV)] 77)).m.get z.nx=some (cQ [.sl q8 0 nch.length nch.length] 243):=gL;have cd:=lG cf (z.nx+1) (cQ [(():AV)] 77);have en:(((z.new (cQ [(():AV)] 243)).at z.nx (cQ [.sl q8 0 nch.length nch.length] 243)).new (cQ [(():AV)] 77)).nx=z.nx+2:=rfl;have dO:(((z.new (cQ [(():AV)] 243)).at z.nx (cQ [.sl q8 0 nch.length nch.length] 243)).new (cQ [(():AV)] 77)).read h.nx 5 1=some [xc]:=(Ab c3).trans rfl;have ct:=bC.len;simp only [seval,go_sem,dO,ct];have aV:=aR.le A1.s;generalize hS5:(((z.new (cQ [(():AV)] 243)).at z.nx (cQ [.sl q8 0 nch.length nch.length] 243)).new (cQ [(():AV)] 77))=S5 at *
 have cX:NB S5 G3 q h2.nx z.nx (z.nx+1) h.nx J.nx q8 nch.length v1 (():AV) (ss++(V.D.ownS Op.bytesLess (.nd az a7 a6 a8 aq E) (.nd ag ai ah aj af nch)).map (V.D.Sx.mk path)) [] ms st [iQ vQ az,sQ a7,sQ a6,xa,sQ a8,xc] [iQ vQ ag,sQ ai,sQ ah,ya,sQ aj,yc]:=by
  refine ⟨A5,di,cf,cd,?_,c3,dw,(aG.le bj.st) _ _ bX,bY,tM,fun i hi O=>?_,Or.inl ⟨rfl,rfl⟩⟩
  ·exact aG.st.none tM
  ·have h4:i < J.nx:=A1.vb O;rcases hi with rfl | rfl | rfl | rfl | rfl
   ·rcases O with O | O
    ·have:=aM (Or.inl O);omega
    ·rcases W1.nw _ O with h5 | h5
     ·simp only [Ac] at h5;omega
     ·have:=aM (Or.inr h5);omega
   ·rcases O with O | O
    ·have:=aM (Or.inl O);omega
    ·rcases W1.nw _ O with h5 | h5
     ·simp only [Ac] at h5;omega
     ·have:=aM (Or.inr h5);omega
   ·omega
   ·omega
   ·omega
 have aF:((V.D.ownS Op.bytesLess (.nd az a7 a6 a8 aq E) (.nd ag ai ah aj af nch)).map (V.D.Sx.mk path)).length≤17:=by
  rw [List.length_map];unfold V.D.ownS;rw [List.length_append];have J:(dA aq af).length≤aq.length+af.length:=L4 aq af;have h2:aq.length≤8:=cE.2;have z:af.length≤8:=cF.2;have h4:(V.D.difA Op.bytesLess (T.nd az a7 a6 a8 aq E).attrs (T.nd ag ai ah aj af nch).attrs).length≤16:=by
   show (dA aq af).length≤16;omega
  split <;> simp <;> omega
 refine Ao (fun (i:Nat) e h'=>(∃ G4 v4 lv,WStp h G q v h' G4 v4∧NB h' G4 q h2.nx z.nx (z.nx+1) h.nx J.nx q8 nch.length v4 lv (ss++(V.D.ownS Op.bytesLess (.nd az a7 a6 a8 aq E) (.nd ag ai ah aj af nch)).map (V.D.Sx.mk path)++(V.D.frS ms 0 (V.D.ints i)).map (V.D.Sx.mk path)) ((V.D.ints i).filter fun v=>decide (v∈ms)) ms st [iQ vQ az,sQ a7,sQ a6,xa,sQ a8,xc] [iQ vQ ag,sQ ai,sQ ah,ya,sQ aj,yc]∧Fz.Le G3 G4)∧i≤E.length∧(e.get 0=some (jQ q 0)∧e.get 3=some pv∧e.get 5=some (jQ h.nx 0)∧e.get 6=some (jQ (h.nx+1) 0)∧e.get 8=some (jQ h2.nx 0)∧e.get 9=some (jQ z.nx 0)∧e.get 10=some (jQ (z.nx+1) 0))∧e.get 31=some xc∧e.get 32=some (iQ wQ E.length)∧e.get 33=some (iQ wQ i)) (fun i=>E.length - i) 0 ?_ ?_
 ·refine ⟨⟨G3,v1,(():AV),W5,?_,Fz.Le.refl⟩,Nat.zero_le _,by simp [Tr.get_set]⟩;have e1:V.D.ints 0=[]:=rfl;rw [e1];show NB S5 G3 q h2.nx z.nx (z.nx+1) h.nx J.nx q8 nch.length v1 _ (ss++(V.D.ownS Op.bytesLess (.nd az a7 a6 a8 aq E) (.nd ag ai ah aj af nch)).map (V.D.Sx.mk path)++[]) [] ms st _ _;rw [List.append_nil];exact cX
 rintro i e h4 ⟨⟨G4,v4,lv,W4,B4,bf⟩,hi,⟨e0,e3,e5,e6,e8,e9,Z⟩,aC,aD,e33⟩ lp;simp only [seval,go_sem,aC,aD,e33];have r8:h4.read h2.nx 0 1=some [.sl J.nx 0 nch.length nch.length]:=(Ab B4.g8).trans rfl;have cN:h4.read (z.nx+1) 0 1=some [lv]:=(Ab B4.g10).trans rfl;have dy:IR h4 (.sl J.nx 0 nch.length nch.length) ms:=by
  have:=IR.cells (B4.w.s.2 _ _ B4.fm);rw [ac.len] at this;exact this
 refine Cr (fun I=>?_) (fun I=>?_)
 ·have I:i < E.length:=by simpa using I
  have w:=wI i;simp only [seval,go_sem,e0,e3,e5,e6,e8,e9,Z,aC,aD,e33,r8];refine Ae (has156 (v:=(i:Int)) dy (by rw [ac.len];omega)) fun _ h5 ⟨eb,eh⟩=>?_;subst eb eh;have kl:((V.D.ints i).filter fun v=>decide (v∈ms)).length≤i:=by
   have:=List.length_filter_le (fun v=>decide (v∈ms)) (V.D.ints i);rw [H5] at this;exact this
  by_cases ab:(i:Int)∈ms
  ·have cm:decide ((i:Int)∈ms)=true:=decide_eq_true ab;have ll:=B4.own.len;have bA:((V.D.ints i).filter fun v=>decide (v∈ms))++[(i:Int)]=(V.D.ints (i+1)).filter fun v=>decide (v∈ms):=by rw [W7,List.filter_append,List.filter_cons,if_pos cm];rfl
   have b5:V.D.frS ms 0 (V.D.ints (i+1))=V.D.frS ms 0 (V.D.ints i):=by rw [W7,Pp,if_pos ab,List.append_nil]
   have pn:Gro h5 G4 (h5.new (cQ [iQ wQ i] 3)):=(Stp.refl B4.w.s).new;have B5:=B4.gro pn;obtain ⟨lv',U,c6,cH,eo,cO,bb⟩:=Di (C:=ctx) (k:=0) (new:=[iQ wQ i]) B5.own tM (Be (by rw [by3];omega) tM) (by rw [A7,W8];rfl) rfl (by have:=Ah B4.w.s.1 B4.g10;simp only [Ac];omega) B5.w.s (fun j hj=>(B5.vb hj).1);have dr:U.m.get (h5.new (cQ [iQ wQ i] 3)).nx=some (oQ (IC (((V.D.ints i).filter fun v=>decide (v∈ms))++[(i:Int)])) (((V.D.ints i).filter fun v=>decide (v∈ms))++[(i:Int)]).length 3 1):=by
    rcases cH with ⟨e,_⟩ | ⟨_,_,e,_⟩ | ⟨q',_,e,e2,_⟩
    ·rw [bb] at e;cases e
    ·rw [bb] at e;cases e
    ·rw [bb] at e;cases e;rw [e2];simp
   obtain ⟨B6,p6⟩:=B5.set cO (Nat.le_refl _) dr;have o6:=cH.one;have bT:=cO.gt B5.w.s.1 B5.g10 (fun O=>by have:=(B5.vb O).2.1;omega);simp only [seval,go_sem,e0,e3,e5,e6,e8,e9,Z,aC,aD,e33,cm,cN,ll,c6,o6,bT,w];have dt:lv' = .sr (h5.new (cQ [iQ wQ i] 3)).nx 0 0 (((V.D.ints i).filter fun v=>decide (v∈ms))++[(i:Int)]).length:=by rw [bb];simp
   rw [dt];refine lp (i+1) _ _ tM ⟨⟨G4,v4,.sr (h5.new (cQ [iQ wQ i] 3)).nx 0 0 (((V.D.ints i).filter fun v=>decide (v∈ms))++[(i:Int)]).length,⟨(W4.gro pn).st.in p6 (fun j hj O=>?_),W4.nw⟩,?_,bf⟩,I,by simp [Tr.get_set,e0,e3,e5,e6,e8,e9,Z],by simp [Tr.get_set,aC],by simp [Tr.get_set,aD],by simp [Tr.get_set]⟩
   ·rcases O with O | O
    ·omega
    ·have:=(B5.vb O).2.1;omega
   ·rw [b5,← bA];exact B6
  ·have cm:decide ((i:Int)∈ms)=false:=decide_eq_false ab;have ll:=B4.own.len;simp only [seval,go_sem,e0,e3,e5,e6,e8,e9,Z,aC,aD,e33,cm,cN,ll];have b5:V.D.frS ms 0 (V.D.ints (i+1))=V.D.frS ms 0 (V.D.ints i)++[.free ((V.D.ints i).filter fun v=>decide (v∈ms)).length]:=by rw [W7,Pp,if_neg ab,Nat.zero_add]
   have bA:((V.D.ints i).filter fun v=>decide (v∈ms))=(V.D.ints (i+1)).filter fun v=>decide (v∈ms):=by rw [W7,List.filter_append,List.filter_cons,if_neg (by rw [cm];exact Bool.false_ne_true)];exact (List.append_nil _).symm
   have aI:=Kt (ms:=ms) (l:=V.D.ints i) (k:=0);rw [H5] at aI;have bJ:siz (.nd ag ai ah aj af nch)=1+sizs nch:=rfl;refine Ae (Jo (sa:=.free ((V.D.ints i).filter fun v=>decide (v∈ms)).length) B4.w ⟨rfl,rfl,rfl,rfl⟩ (aU.mono ((bF.trans aK).trans (aV.trans bf))) (by simp only [List.length_append,List.length_map];simp only [List.length_map] at aF;omega) tM) fun _ U ⟨G6,v6,p6,A6,n6⟩=>?_;have w6:WStp h5 G4 q v4 U G6 v6:=⟨p6,fun i hi=>Or.inl (n6 i hi)⟩;simp only [seval,go_sem,e0,e3,e5,e6,e8,e9,Z,aC,aD,e33,w];refine lp (i+1) _ _ tM ⟨⟨G6,v6,lv,W4.trans B4.w w6,?_,bf.trans (p6.le B4.w.s)⟩,I,by simp [Tr.get_set,e0,e3,e5,e6,e8,e9,Z],by simp [Tr.get_set,aC],by simp [Tr.get_set,aD],by simp [Tr.get_set]⟩;rw [b5,← bA,List.map_append,← List.append_assoc];exact B4.wr w6 A6
 ·have I:E.length≤i:=by simpa using I
  have b6:i=E.length:=tM;subst b6;have dQ:h4.read (h.nx+1) 5 1=some [yc]:=(Ab B4.gy).trans rfl;have c4:=bD.len;simp only [seval,go_sem,e0,e3,e5,e6,e8,e9,Z,dQ,c4];have cq:∀ i,i < ms.length→-1≤ms.getD i (-1)∧ms.getD i (-1) < E.length:=fun i hi=>by
   rcases ac.rng i hi with J | ⟨k,_,_,J,h2,_⟩
   ·rw [J];omega
   ·have:=(List.getElem?_eq_some_iff.1 h2).1;have z:k < E.length:=this;rw [J];omega
  have cG:V.D.Ord ms st 0 ((V.D.ints E.length).filter fun v=>decide (v∈ms)):=V.D.Ord.init aJ (fun i hi=>(cq i hi).2) (fun i hi=>(cq i hi).1);refine Ao (fun (i:Nat) e h'=>(∃ G6 v6 aP l aB,WStp h G q v h' G6 v6∧NB h' G6 q h2.nx z.nx (z.nx+1) h.nx J.nx q8 nch.length v6 aP (ss++(V.D.ownS Op.bytesLess (.nd az a7 a6 a8 aq E) (.nd ag ai ah aj af nch)).map (V.D.Sx.mk path)++(V.D.frS ms 0 (V.D.ints E.length)).map (V.D.Sx.mk path)++aB) l ms st [iQ vQ az,sQ a7,sQ a6,xa,sQ a8,xc] [iQ vQ ag,sQ ai,sQ ah,ya,sQ aj,yc]∧Fz.Le G3 G6∧V.D.Ord ms st i l∧l.length≤E.length+i ∧
    (∀ rest,V.D.LP ms st nch path (fun i k sub=>∃ o n,E[(ms.getD i (-1)).toNat]?=some o∧nch[i]?=some n∧V.D.DS Op.bytesLess d o n (path++[k]) sub) i l rest→V.D.LP ms st nch path (fun i k sub=>∃ o n,E[(ms.getD i (-1)).toNat]?=some o∧nch[i]?=some n∧V.D.DS Op.bytesLess d o n (path++[k]) sub) 0 ((V.D.ints E.length).filter fun v=>decide (v∈ms)) (aB++rest))∧aB.length≤i+50 * sizs (nch.take i))∧i≤nch.length∧(e.get 0=some (jQ q 0)∧e.get 3=some pv∧e.get 5=some (jQ h.nx 0)∧e.get 6=some (jQ (h.nx+1) 0)∧e.get 8=some (jQ h2.nx 0)∧e.get 9=some (jQ z.nx 0)∧e.get 10=some (jQ (z.nx+1) 0)∧e.get 12=some (.fn (.func 158) [] [jQ h2.nx 0,jQ z.nx 0,jQ (z.nx+1) 0]))∧e.get 52=some yc∧e.get 53=some (iQ wQ nch.length)∧e.get 54=some (iQ wQ i)) (fun i=>nch.length - i) 0 ?_ ?_
  ·exact ⟨⟨G4,v4,lv,_,[],W4,by rw [List.append_nil];exact B4,bf,cG,by have:=List.length_filter_le (fun v=>decide (v∈ms)) (V.D.ints E.length);rw [H5] at this;omega,fun rest h=>h,Nat.zero_le _⟩,Nat.zero_le _,by simp [Tr.get_set,e0,e3,e5,e6,e8,e9,Z]⟩
  clear aC aD e33 lp;clear e0 e3 e5 e6 e8 e9 Z;clear e;rintro i e U ⟨⟨G6,v6,aP,l,aB,W6,B6,bg,ord,ed,bk,cg⟩,dY,⟨e0,e3,e5,e6,e8,e9,Z,ap⟩,an,e53,aw⟩ lp;simp only [seval,go_sem,an,e53,aw];refine Cr (fun I=>?_) (fun I=>?_)
  ·have I:i < nch.length:=by simpa using I
   have w:=wI i;have aN:=(bF.trans aK).trans (aV.trans bg);obtain ⟨cb,co,cx,bS,bV,rx⟩:=Arr.tree B6.w.s (bD.mono aN) (bu.mono aN) I;have c6:=rx.len;have bx:=rx.one;have ov:=Gd c6;have ba:Aq 0 6 cx=some cx:=by rw [← c6];exact Aj
   have pA:Gro U G6 ((U.new (cQ Aw 36)).at U.nx (cQ cx 36)):=((Stp.refl B6.w.s).new).at (Or.inl (Nat.le_refl _)) (by simp only [Ac];omega) (B6.w.s.none (Nat.le_refl _));have B7:=B6.gro pA;have k8:((U.new (cQ Aw 36)).at U.nx (cQ cx 36)).read h2.nx 0 1=some [.sl J.nx 0 nch.length nch.length]:=(Ab B7.g8).trans rfl;have ab:i < ms.length:=by rw [ac.len];exact I
   have km:((U.new (cQ Aw 36)).at U.nx (cQ cx 36)).read J.nx i 1=some [iQ wQ ms[i]]:=(Ab (B7.w.s.2 _ _ B7.fm)).trans (I7 ab);have im:ixA 1 i (.sl J.nx 0 nch.length nch.length)=some (jQ J.nx i):=by rw [Ed I,Nat.zero_add,Nat.mul_one]
   have ar:ms.getD i (-1)=ms[i]:=by simp [List.getD,ab]
   have ck:∀ k,i < k→k < ms.length→V.D.stB' st k=true→0≤ms.getD k (-1)∧ms.getD k (-1)∈l:=fun k _ hk hs=>by
    have h0:=aJ.keep k hk hs;refine ⟨h0,(ord.mem _).2 ⟨k,hk,?_,Or.inr h0⟩⟩;unfold V.D.tok;rw [if_pos h0]
   by_cases hneg:ms[i] < 0
   ·have cn:decide (ms[i] < 0)=true:=decide_eq_true hneg;simp only [seval,go_sem,e0,e3,e5,e6,e8,e9,Z,ap,an,e53,aw,bS,B6.w.s.read bV,c6,bx,ov,ba,k8,km,im,cn,w];refine Ae (Abm (i:=i) B7.w.s B7.g8 (by have:=IR.cells (B7.w.s.2 _ _ B7.fm);rw [ac.len] at this;exact this) (by rw [ac.len];exact B7.g9) (B7.w.s.2 _ _ B7.fs) (by rw [ac.len];exact cy) B7.g10 (IR.own B7.own rfl) tM ab (by rw [ac.len];omega) ck) fun _ h7 ⟨ea,p7⟩=>?_;subst ea;have B8:=B7.gro p7;have bE:h7.read (z.nx+1) 0 1=some [aP]:=(Ab B8.g10).trans rfl;have cr:ms.getD i (-1) < 0:=by rw [ar];exact hneg
    have aH:V.D.tok ms i = -1 - (i:Int):=by unfold V.D.tok;rw [if_neg tM]
    have wt:IntKind.i64.wrap (-1 - (i:Int))=V.D.tok ms i:=by rw [aH];exact wr_n tM tM
    have cz:V.D.stB' st i=false:=by
     cases hb:V.D.stB' st i with
     | false=>rfl
     | true=>have:=aJ.keep i ab hb;omega
    obtain ⟨b4,aX⟩:=ord.ins aJ ab cz (Or.inl ⟨rfl,cr⟩);have pN:Gro h7 G6 (h7.new (cQ [iQ wQ (V.D.tok ms i)] 3)):=(Stp.refl B8.w.s).new;have B9:=B8.gro pN;obtain ⟨h8,c8,bW,cP,d5⟩:=Awj (h:=(h7.new (cQ [iQ wQ (V.D.tok ms i)] 3))) (x:=V.D.tok ms i) (j:=h7.nx) B9.own rfl B9.w.s (fun j hj=>(B9.vb hj).1) b4 (fun j hj=>by have:=(B8.vb hj).2.2.2;omega) tM ((Ab Au).trans rfl) ⟨_,_,Au⟩;have b7:(V.D.insI l (V.D.ahd ms st i l) (V.D.tok ms i)).length=l.length+1:=by unfold V.D.insI;rw [List.length_append,List.length_cons,List.length_take,List.length_drop];omega
    rw [← b7] at c8 bW;obtain ⟨aa,cI⟩:=B9.set cP (Nat.le_refl _) bW;have bU:=cP.gt B9.w.s.1 B9.g10 (fun O=>by have:=(B9.vb O).2.1;omega);have dT:=Ah B6.w.s.1 B6.g10;have dd:(h8.at (z.nx+1) (cQ [.sr (h7.nx+1) 0 0 (V.D.insI l (V.D.ahd ms st i l) (V.D.tok ms i)).length] 77)).m.get U.nx=some (cQ cx 36):=cI.gt B9.w.s.1 (pN.gt B8.w.s.1 (p7.gt B7.w.s.1 (Ap (i:=U.nx)) (fun h=>h)) (fun h=>h)) (fun O=>by
     rcases O with O | O
     ·omega
     ·have:=(B6.vb O).2.2.2;omega)
    have dM:(h8.at (z.nx+1) (cQ [.sr (h7.nx+1) 0 0 (V.D.insI l (V.D.ahd ms st i l) (V.D.tok ms i)).length] 77)).read U.nx 0 6=some cx:=(Ab dd).trans ba;simp only [seval,go_sem,e0,e3,e5,e6,e8,e9,Z,ap,an,e53,aw,bE,wt,c8,bU,dM,bx,c6];have aa:NB (h8.at (z.nx+1) (cQ [.sr (h7.nx+1) 0 0 (V.D.insI l (V.D.ahd ms st i l) (V.D.tok ms i)).length] 77)) G6 q h2.nx z.nx (z.nx+1) h.nx J.nx q8 nch.length v6 (.sr (h7.nx+1) 0 0 (V.D.insI l (V.D.ahd ms st i l) (V.D.tok ms i)).length) _ (V.D.insI l (V.D.ahd ms st i l) (V.D.tok ms i)) ms st _ _:=aa;refine Ae (copy aa.w.s rx (vn.ch (List.getElem_mem I))) fun _ h9 ⟨G9,x9,da,p9,bm⟩=>?_;subst da;rw [cpT_cp true] at bm;have ae:=aa.gro p9;have bK:=bm.len;have cU:=bm.one;have dB:=Gd bK;simp only [seval,go_sem,e0,e3,e5,e6,e8,e9,Z,ap,an,e53,aw,bK,cU,dB];have aI:=Kt (ms:=ms) (l:=V.D.ints E.length) (k:=0);rw [H5] at aI;have bn:=Ma I;have bJ:siz (.nd ag ai ah aj af nch)=1+sizs nch:=rfl;refine Ae (Jo (sa:=.mnt (V.D.ahd ms st i l) nch[i]) ae.w ⟨bK,cU,rfl,rfl,bm⟩ (aU.mono (aN.trans (p9.le aa.w.s))) (by simp only [List.length_append,List.length_map] at aF ⊢;omega) tM) fun _ ca ⟨bL,v10,bv,cV,d3⟩=>?_;have cS:WStp h9 G9 q v6 ca bL v10:=⟨bv,fun i hi=>Or.inl (d3 i hi)⟩;have W9:WStp h G q v h9 G9 v6:=WStp.gro ⟨(((W6.gro pA).gro p7).gro pN).st.in cI (fun j hj O=>by
     rcases O with O | O
     ·omega
     ·have:=(B9.vb O).2.1;omega),W6.nw⟩ p9
    simp only [seval,go_sem,e0,e3,e5,e6,e8,e9,Z,ap,an,e53,aw,w];refine lp (i+1) _ _ tM ⟨⟨bL,v10,.sr (h7.nx+1) 0 0 (V.D.insI l (V.D.ahd ms st i l) (V.D.tok ms i)).length,(V.D.insI l (V.D.ahd ms st i l) (V.D.tok ms i)),aB++[⟨path,.mnt (V.D.ahd ms st i l) nch[i]⟩],W9.trans ae.w cS,?_,(bg.trans (p9.le aa.w.s)).trans (bv.le ae.w.s),aX,tM,fun rest hr=>?_,?_⟩,I,by simp [Tr.get_set,e0,e3,e5,e6,e8,e9,Z,ap],by simp [Tr.get_set,an],by simp [Tr.get_set,e53],by simp [Tr.get_set]⟩
    ·rw [← List.append_assoc];exact ae.wr cS cV
    ·rw [List.append_assoc];exact bk _ (.mnt ab cr (List.getElem?_eq_getElem I) hr)
    ·rw [List.length_append,bn.1];simp only [List.length_singleton];have:=Mb nch[i];omega
   ·have aE:0≤ms[i]:=tM;have cn:decide (ms[i] < 0)=false:=decide_eq_false hneg;have aH:V.D.tok ms i=ms[i]:=by unfold V.D.tok;rw [if_pos (by rw [ar];exact aE),ar]
    have bs:ms[i]∈l:=by rw [← aH];exact (ord.mem _).2 ⟨i,ab,rfl,Or.inr (by rw [ar];exact aE)⟩
    have pU:Gro ((U.new (cQ Aw 36)).at U.nx (cQ cx 36)) G6 (((U.new (cQ Aw 36)).at U.nx (cQ cx 36)).up 7):=(Stp.refl B7.w.s).up;have B8:=B7.gro pU;obtain ⟨_,_,c9,rfl,rfl⟩:=Awf (h:=(((U.new (cQ Aw 36)).at U.nx (cQ cx 36)).up 7)) (v:=ms[i]) (IR.own B8.own rfl) tM;rw [if_pos bs] at c9;have bE:((U.new (cQ Aw 36)).at U.nx (cQ cx 36)).read (z.nx+1) 0 1=some [aP]:=(Ab B7.g10).trans rfl;obtain ⟨j,to,tn,b8,b9,ci,dZ,ec⟩:∃ (j:Nat) (to tn:T),ms[i]=(j:Int)∧E[j]?=some to∧nch[i]?=some tn∧to.kind=tn.kind∧to.tag=tn.tag:=by
     rcases ac.rng i ab with J | ⟨j,to,tn,J,h2,z,h4,h5⟩
     ·rw [ar] at J;omega
     ·rw [ar] at J;exact ⟨j,to,tn,J,h2,z,h4,h5⟩
    have ep:tn=nch[i]:=by rw [List.getElem?_eq_getElem I] at ci;exact (Option.some.inj ci).symm
    obtain ⟨dm,dk⟩:=List.getElem?_eq_some_iff.1 b9;obtain ⟨ob,oo,ox,d6,aW,bl⟩:=Arr.tree B6.w.s (bC.mono aN) (bt.mono aN) dm;rw [dk] at bl;have kx:((U.new (cQ Aw 36)).at U.nx (cQ cx 36)).read h.nx 5 1=some [xc]:=(Ab B7.gx).trans rfl;have B9:=B8.gro (Stp.up (n:=16) (Stp.refl (W:=fun _=>False) B8.w.s));obtain ⟨dH,h7,c7,o7,p7⟩:=Abe (h:=((((U.new (cQ Aw 36)).at U.nx (cQ cx 36)).up 7).up 16)) B9.w.s (aU.mono aN) tM (Mm path);have l7:=p7.nx;simp only [Ac,Ag,Ai] at l7;have cM:Gro ((U.new (cQ Aw 36)).at U.nx (cQ cx 36)) G6 ((((U.new (cQ Aw 36)).at U.nx (cQ cx 36)).up 7).up 16):=pU.up;have pH:Gro ((U.new (cQ Aw 36)).at U.nx (cQ cx 36)) G6 (h7.at (U.nx+21) (cQ [iQ wQ ((V.D.ixI ms[i] l:Nat):Int)] 3)):=(cM.trans p7).at (Or.inl (by simp only [Ac,Ag];omega)) tM (B6.w.s.none tM);have bh:Own (h7.at (U.nx+21) (cQ [iQ wQ ((V.D.ixI ms[i] l:Nat):Int)] 3)) (U.nx+24) 3 1 dH path.length (path.map fun i:Nat=>AV.int wQ i):=by
     rcases o7 with o | ⟨q',x1,x2,x3,x4,x5⟩ | ⟨q',x1,x2,x3,x4⟩
     ·exact Or.inl o
     ·simp only [Ac,Ag,Ai] at x1;exact Or.inr (Or.inl ⟨q',x1,x2,x3,x4,(An tM).trans x5⟩)
     ·simp only [Ac,Ag,Ai] at x1;exact Or.inr (Or.inr ⟨q',x1,x2,(An tM).trans x3,x4⟩)
    obtain ⟨dI,h8,c8,o8,d5,p8,cw⟩:=Di (C:=ctx) (k:=0) (new:=[iQ wQ ((V.D.ixI ms[i] l:Nat):Int)]) bh tM (Be (by rw [by3];omega) tM) (by rw [A7,Mm];rfl) rfl (by simp only [Ag];omega) pH.st (fun q' ay=>B6.w.s.none (by have:=bh.vb ay;omega));have dG:Stp (fun _=>False) ((U.new (cQ Aw 36)).at U.nx (cQ cx 36)) G6 h8 G6:=pH.in p8 (fun q' ay O=>by have:=bh.vb O;simp only [Ac,Ag] at ay;omega);obtain ⟨G8,aA,ej,cZ⟩:=o8.frz2 dG (by simp only [Ac,Ag];omega) (fun q' ay=>B6.w.s.none (by
     rcases ay with ay | ay
     ·have:=o8.vb ay;omega
     ·rw [cw] at ay;cases ay))
    have aa:=B7.gro aA;have bO:Arr G8 1 dI (path++[V.D.ixI ms[i] l]).length ((path++[V.D.ixI ms[i] l]).map fun i:Nat=>AV.int wQ i):=by
     rw [List.map_append,List.length_append];exact cZ
    have ao:=aA.le B7.w.s;have dj:dep nch[i]≤d:=by
     have J:dep nch[i]≤deps nch:=Jw (List.getElem_mem I);have h2:dep (.nd ag ai ah aj af nch)=1+deps nch:=rfl;omega
    have aI:=Kt (ms:=ms) (l:=V.D.ints E.length) (k:=0);rw [H5] at aI;have bn:=Ma I;have bJ:siz (.nd ag ai ah aj af nch)=1+sizs nch:=rfl;obtain ⟨_,h9,db,G9,v9,sub,W9,A9,hds,dR⟩:=ih aa.w (bl.mono ao) (rx.mono ao) (vo.ch (List.mem_of_getElem? b9)) (vn.ch (List.getElem_mem I)) dj bO (by simp only [List.length_append,List.length_map] at aF ⊢;omega) (by rw [List.length_append];simp only [List.length_singleton];omega);have kc:((U.new (cQ Aw 36)).at U.nx (cQ cx 36)).read U.nx 0 6=some cx:=(Ab Ap).trans ba;have bI:=cM.trans p7;have x7:h7.read h.nx 5 1=some [xc]:=bI.rs B7.w.s.1 kx (fun h=>h);have xH:(h7.at (U.nx+21) (cQ [iQ wQ ((V.D.ixI ms[i] l:Nat):Int)] 3)).read h.nx 5 1=some [xc]:=pH.rs B7.w.s.1 kx (fun h=>h);have x8:h8.read h.nx 5 1=some [xc]:=aA.rs B7.w.s.1 kx (fun h=>h);have x9:h9.read h.nx 5 1=some [xc]:=W9.st.rs aa.w.s.1 x8 (aa.nw _ (by simp));have s7:h7.read h2.nx 0 1=some [.sl J.nx 0 nch.length nch.length]:=bI.rs B7.w.s.1 k8 (fun h=>h);have sH:(h7.at (U.nx+21) (cQ [iQ wQ ((V.D.ixI ms[i] l:Nat):Int)] 3)).read h2.nx 0 1=some [.sl J.nx 0 nch.length nch.length]:=pH.rs B7.w.s.1 k8 (fun h=>h);have s8:h8.read h2.nx 0 1=some [.sl J.nx 0 nch.length nch.length]:=aA.rs B7.w.s.1 k8 (fun h=>h);have s9:h9.read h2.nx 0 1=some [.sl J.nx 0 nch.length nch.length]:=W9.st.rs aa.w.s.1 s8 (aa.nw _ (by simp));have u7:h7.read U.nx 0 6=some cx:=bI.rs B7.w.s.1 kc (fun h=>h);have uH:(h7.at (U.nx+21) (cQ [iQ wQ ((V.D.ixI ms[i] l:Nat):Int)] 3)).read U.nx 0 6=some cx:=pH.rs B7.w.s.1 kc (fun h=>h);have u8:h8.read U.nx 0 6=some cx:=aA.rs B7.w.s.1 kc (fun h=>h)
    have u9:h9.read U.nx 0 6=some cx:=W9.st.rs aa.w.s.1 u8 (fun O=>by have:=B6.w.vb O;omega);have aS:G6.read J.nx i 1=some [iQ wQ ms[i]]:=(Fz.rd_b B6.fm).trans (I7 ab);have mS:((U.new (cQ Aw 36)).at U.nx (cQ cx 36)).read J.nx i 1=some [iQ wQ ms[i]]:=B7.w.s.read aS;have m7:h7.read J.nx i 1=some [iQ wQ ms[i]]:=p7.st.read aS;have mH:(h7.at (U.nx+21) (cQ [iQ wQ ((V.D.ixI ms[i] l:Nat):Int)] 3)).read J.nx i 1=some [iQ wQ ms[i]]:=pH.st.read aS;have m8:h8.read J.nx i 1=some [iQ wQ ms[i]]:=aa.w.s.read (ao.read aS);have m9:h9.read J.nx i 1=some [iQ wQ ms[i]]:=A9.s.read ((ao.trans (W9.st.le aa.w.s)).read aS);have oS:((U.new (cQ Aw 36)).at U.nx (cQ cx 36)).read ob (oo+j * 6) 6=some ox:=B7.w.s.read aW;have o7:h7.read ob (oo+j * 6) 6=some ox:=p7.st.read aW;have oH:(h7.at (U.nx+21) (cQ [iQ wQ ((V.D.ixI ms[i] l:Nat):Int)] 3)).read ob (oo+j * 6) 6=some ox:=pH.st.read aW;have o8:h8.read ob (oo+j * 6) 6=some ox:=aa.w.s.read (ao.read aW);have o9:h9.read ob (oo+j * 6) 6=some ox:=A9.s.read ((ao.trans (W9.st.le aa.w.s)).read aW);have dC:=bl.len;have dD:=bl.one;have d7:ixA 6 j xc=some (jQ ob (oo+j * 6)):=d6;rw [b8] at mS m7 mH m8 m9 km c9 cn c8 xH sH uH oH;have dz:=bh.len;simp only [seval,go_sem,e0,e3,e5,e6,e8,e9,Z,ap,an,e53,aw,bS,B6.w.s.read bV,c6,bx,ov,ba,k8,km,im,cn,w,bE,c9,c7,c8,db,d7,dC,dD,dz,kx,x7,xH,x8,x9,k8,s7,sH,s8,s9,kc,u7,uH,u8,u9,mS,m7,mH,m8,m9,oS,o7,oH,o8,o9];have ae:=aa.wr W9 A9;have hsti:i < st.length:=tM;have be:h9.read q8 i 1=some [bQ (st[i]'hsti)]:=(Ab (ae.w.s.2 _ _ ae.fs)).trans (Ayd hsti)
    have k9:h9.read z.nx 0 1=some [.sl q8 0 nch.length nch.length]:=(Ab ae.g9).trans rfl;have c5:ixA 1 i (.sl q8 0 nch.length nch.length)=some (jQ q8 i):=by rw [Ed I,Nat.zero_add,Nat.mul_one]
    have aQ:V.D.stB' st i=st[i]'hsti:=by unfold V.D.stB';simp [List.getD,hsti]
    have Wf:WStp h G q v h9 G9 v9:=(((W6.gro pA).gro aA)).trans aa.w W9;have bq:((fun i k sub=>∃ o n,E[(ms.getD i (-1)).toNat]?=some o∧nch[i]?=some n∧V.D.DS Op.bytesLess d o n (path++[k]) sub)) i (V.D.ixI (V.D.tok ms i) l) sub:=⟨to,nch[i],by rw [ar,b8];exact b9,List.getElem?_eq_getElem I,by rw [aH];exact hds⟩;cases hb:st[i]'hsti with
    | true =>
     rw [hb] at be aQ;simp only [seval,go_sem,e0,e3,e5,e6,e8,e9,Z,ap,an,e53,aw,k9,be,c5,w];refine lp (i+1) _ _ tM ⟨⟨G9,v9,aP,l,aB++sub,Wf,?_,(bg.trans ao).trans (W9.st.le aa.w.s),ord.keep aJ ab aQ,tM,fun rest hr=>?_,?_⟩,I,by simp [Tr.get_set,e0,e3,e5,e6,e8,e9,Z,ap],by simp [Tr.get_set,an],by simp [Tr.get_set,e53],by simp [Tr.get_set]⟩
     ·rw [← List.append_assoc];exact ae
     ·rw [List.append_assoc];exact bk _ (.keep ab (by rw [ar];exact aE) bq aQ hr)
     ·rw [List.length_append,bn.1];omega
    | false =>
     rw [hb] at be aQ;obtain ⟨b4,aX⟩:=ord.ins aJ ab aQ (Or.inr ⟨rfl,by rw [ar];exact aE⟩);have c0:V.D.tok ms i∈l:=by rw [aH];exact bs
     have cu:V.D.ixI (V.D.tok ms i) l < l.length:=(List.getElem?_eq_some_iff.1 (V.D.ixI_at c0)).1;have dq:(V.D.delI l (V.D.ixI (V.D.tok ms i) l)).length=l.length - 1:=by unfold V.D.delI;rw [List.length_append,List.length_take,List.length_drop];omega
     have cA:h9.read (z.nx+1) 0 1=some [aP]:=(Ab ae.g10).trans rfl;have cR:V.D.ixI (j:Int) l=V.D.ixI (V.D.tok ms i) l:=by rw [aH,b8]
     have wp:IntKind.i64.wrap ((V.D.ixI (V.D.tok ms i) l:Int)+1)=((V.D.ixI (V.D.tok ms i) l+1:Nat):Int):=by rw [show ((V.D.ixI (V.D.tok ms i) l:Nat):Int)+1=((V.D.ixI (V.D.tok ms i) l+1:Nat):Int) by omega];exact Bz tM
     obtain ⟨ca,bP,bo,bw,dU⟩:=del162 (h:=h9) ae.own rfl ae.w.s (fun j hj=>(ae.vb hj).1) cu;rw [← dq] at bP bo;obtain ⟨au,dE⟩:=ae.set bw (Nat.le_refl _) bo;have bz:=bw.gt ae.w.s.1 ae.g10 (fun O=>by have:=(ae.vb O).2.1;omega);simp only [seval,go_sem,e0,e3,e5,e6,e8,e9,Z,ap,an,e53,aw,k9,be,c5,w,cA,cR,wp,bP,bz];have cl:∀ k,i < k→k < ms.length→V.D.stB' st k=true→0≤ms.getD k (-1)∧ms.getD k (-1)∈(V.D.delI l (V.D.ixI (V.D.tok ms i) l)):=fun k dn cj dp=>by
      obtain ⟨J,h2⟩:=ck k dn cj dp;refine ⟨J,?_⟩;have du:ms.getD k (-1)≠V.D.tok ms i:=fun e=>by
       rw [aH,← ar] at e;have:=ac.inj k i cj ab J e;omega
      rw [V.D.split_at c0] at h2;unfold V.D.delI;rcases List.mem_append.1 h2 with z | z
      ·exact List.mem_append.2 (Or.inl z)
      ·rcases List.mem_cons.1 z with z | z
       ·exact absurd z du
       ·exact List.mem_append.2 (Or.inr z)
     refine Ae (Abm (i:=i) au.w.s au.g8 (by have:=IR.cells (au.w.s.2 _ _ au.fm);rw [ac.len] at this;exact this) (by rw [ac.len];exact au.g9) (au.w.s.2 _ _ au.fs) (by rw [ac.len];exact cy) au.g10 (IR.own au.own rfl) tM ab (by rw [ac.len];omega) cl) fun _ ax ⟨ea,cJ⟩=>?_;subst ea;have av:=au.gro cJ;have pI:Gro ax G9 ((ax.up 9).at (ax.nx+6) (cQ [iQ wQ (V.D.tok ms i)] 3)):=((Stp.refl av.w.s).up).at (Or.inl tM) (by simp only [Ai];omega) (av.w.s.none tM);have ak:=av.gro pI;obtain ⟨ce,bR,bp,aL,dV⟩:=Awj (h:=((ax.up 9).at (ax.nx+6) (cQ [iQ wQ (V.D.tok ms i)] 3))) (x:=V.D.tok ms i) (j:=ax.nx+6) ak.own rfl ak.w.s (fun j hj=>(ak.vb hj).1) b4 (fun j hj=>by have:=(av.vb hj).2.2.2;omega) tM ((Ab Ap).trans rfl) ⟨_,_,Ap⟩;have b7:(V.D.insI (V.D.delI l (V.D.ixI (V.D.tok ms i) l)) (V.D.ahd ms st i (V.D.delI l (V.D.ixI (V.D.tok ms i) l))) (V.D.tok ms i)).length=(V.D.delI l (V.D.ixI (V.D.tok ms i) l)).length+1:=by unfold V.D.insI;rw [List.length_append,List.length_cons,List.length_take,List.length_drop];omega
     rw [← b7] at bR bp;obtain ⟨aY,dF⟩:=ak.set aL (Nat.le_refl _) bp;have aT:=aL.gt ak.w.s.1 ak.g10 (fun O=>by have:=(ak.vb O).2.1;omega);have d4:∀ {x},x≤z.nx+1→¬ VB (AV.sr h9.nx 0 0 (V.D.delI l (V.D.ixI (V.D.tok ms i) l)).length) x:=fun {x} hx O=>by have:=(ak.vb O).2.1;omega
     have lt:=ak.lt;have a0:ax.read (z.nx+1) 0 1=some [.sr h9.nx 0 0 (V.D.delI l (V.D.ixI (V.D.tok ms i) l)).length]:=(Ab av.g10).trans rfl;have a1:ce.read (z.nx+1) 0 1=some [.sr h9.nx 0 0 (V.D.delI l (V.D.ixI (V.D.tok ms i) l)).length]:=(Ab aT).trans rfl;have b0:ax.read h2.nx 0 1=some [.sl J.nx 0 nch.length nch.length]:=(Ab av.g8).trans rfl;have b1:ce.read h2.nx 0 1=some [.sl J.nx 0 nch.length nch.length]:=(Ab (aL.gt ak.w.s.1 ak.g8 (d4 tM))).trans rfl;have mt:∀ {g:H},St g G9→g.read J.nx i 1=some [iQ wQ (V.D.tok ms i)]:=fun {g} sg=>by rw [aH];exact (Ab (sg.2 _ _ av.fm)).trans (I7 ab)
     have d0:=mt av.w.s;have d2:=mt ak.w.s;have d1:=mt aL.st;have nI:(z.nx+1=ax.nx+6)=False:=eq_false (by have:=Ah av.w.s.1 av.g10;omega);simp only [seval,go_sem,e0,e3,e5,e6,e8,e9,Z,ap,an,e53,aw,a0,a1,b0,b1,d0,d1,d2,im,nI,bR,aT,cR];have cB:=(bg.trans ao).trans (W9.st.le aa.w.s);refine Ae (Jo (sa:=.mov (V.D.ixI (V.D.tok ms i) l) (V.D.ahd ms st i (V.D.delI l (V.D.ixI (V.D.tok ms i) l)))) aY.w ⟨rfl,rfl,rfl,rfl,rfl⟩ (aU.mono ((bF.trans aK).trans (aV.trans cB))) (by simp only [List.length_append,List.length_map] at aF ⊢;omega) tM) fun _ dh ⟨bM,v16,cK,cW,cD⟩=>?_;have cT:WStp _ G9 q v9 dh bM v16:=⟨cK,fun i hi=>Or.inl (cD i hi)⟩;have dJ:Stp (WB q v) h G _ G9:=Wf.st.in dE (fun x hx O=>by
      rcases O with O | O
      ·omega
      ·have:=(ae.vb O).2.1;omega)
     have dL:=(dJ.trans (cJ.mono (W':=WB q v) fun _ h=>h.elim)).trans (pI.mono (W':=WB q v) fun _ h=>h.elim);have cY:WStp h G q v _ G9 v9:=⟨dL.in dF (fun x hx O=>by
      rcases O with O | O
      ·omega
      ·have:=(ak.vb O).2.1;omega),Wf.nw⟩
     simp only [seval,go_sem,e0,e3,e5,e6,e8,e9,Z,ap,an,e53,aw,w];refine lp (i+1) _ _ tM ⟨⟨bM,v16,.sr (ax.nx+9) 0 0 (V.D.insI (V.D.delI l (V.D.ixI (V.D.tok ms i) l)) (V.D.ahd ms st i (V.D.delI l (V.D.ixI (V.D.tok ms i) l))) (V.D.tok ms i)).length,(V.D.insI (V.D.delI l (V.D.ixI (V.D.tok ms i) l)) (V.D.ahd ms st i (V.D.delI l (V.D.ixI (V.D.tok ms i) l))) (V.D.tok ms i)),aB++(sub++[⟨path,.mov (V.D.ixI (V.D.tok ms i) l) (V.D.ahd ms st i (V.D.delI l (V.D.ixI (V.D.tok ms i) l)))⟩]),cY.trans aY.w cT,?_,cB.trans (cK.le aY.w.s),aX,tM,fun rest hr=>?_,?_⟩,I,by simp [Tr.get_set,e0,e3,e5,e6,e8,e9,Z,ap],by simp [Tr.get_set,an],by simp [Tr.get_set,e53],by simp [Tr.get_set]⟩
     ·rw [← List.append_assoc,← List.append_assoc];exact aY.wr cT cW
     ·rw [List.append_assoc,List.append_assoc];exact bk _ (.mov ab (by rw [ar];exact aE) bq aQ hr)
     ·rw [List.length_append,List.length_append,bn.1];simp only [List.length_singleton];omega
  ·have I:nch.length≤i:=by simpa using I
   have b6:i=nch.length:=tM;subst b6;simp only [seval,go_sem];rw [List.take_length] at cg;have br:=bk [] (by rw [← ac.len];exact .nil);rw [List.append_nil] at br;have bJ:siz (.nd ag ai ah aj af nch)=1+sizs nch:=rfl;have aI:=Kt (ms:=ms) (l:=V.D.ints E.length) (k:=0);rw [H5] at aI;refine ⟨G6,v6,(V.D.ownS Op.bytesLess (.nd az a7 a6 a8 aq E) (.nd ag ai ah aj af nch)).map (V.D.Sx.mk path)++((V.D.frS ms 0 (V.D.ints E.length)).map (V.D.Sx.mk path)++aB),W6,?_,⟨ms,st,aB,ac,aJ,rfl,br⟩,?_⟩
   ·rw [← List.append_assoc,← List.append_assoc];exact B6.w
   ·simp only [List.length_append,List.length_map] at aF ⊢;omega
theorem dep_pos:∀ t:T,1≤dep t
 | .nd _ _ _ _ _ ch=>by rw [dep];omega
theorem nd_0:Ajr 0:=by
 intro h G q v D o n X Y path z _ _ _ _ _ hd;have:=dep_pos n;omega
theorem nd_all (z:Mch) (d:Nat):Ajr d:=by
 induction d with
 | zero=>exact nd_0
 | succ d ih=>exact nd_step z ih
end
section
variable {h h':H} {G G':Fz} {d b L p q:Nat} {m:D.M} {sl:List Sl} {k k1 k2:Hd}
theorem fit13 {o n:T} {X Y:List AV} (s:St h G) (J:RT G o X) (O:RT G n Y) (z:o.kind=n.kind) (D:o.tag=n.tag):Ans ctx 13 [gQ X,gQ Y] h fun v h'=>v=bQ true∧Gro h G h':=by
 have xo:=J.one;have yo:=O.one;obtain ⟨E,I,af,ag,ac,ae⟩:=o;obtain ⟨nkd,ntg,aa,ab,U,Z⟩:=n;obtain ⟨xa,xc,ah,rfl,_⟩:=J;obtain ⟨ya,yc,ai,rfl,_⟩:=O;have z:E=nkd:=z;have D:I=ntg:=D;subst z D;refine aO Tryz.f13 ?_;simp only [Tryz.f13];simp only [seval,go_sem,xo,yo];exact ⟨congrArg AV.bool (decide_eq_true rfl),(Stp.refl s).new.new⟩
theorem Axy {o n:T} {X Y:List AV} (s:St h G) (z:RT G o X) (D:RT G n Y) (vo:A8 o) (vn:A8 n):Ans ctx 108 [gQ X,gQ Y] h fun v h'=>v=iQ wQ 0∧Gro h G h':=by
 have xo:=z.one;have yo:=D.one;have Z:=z.len;have U:=D.len;have E:Aq 0 6 X=some X:=by rw [← Z];exact Aj
 have I:Aq 0 6 Y=some Y:=by rw [← U];exact Aj
 refine aO Tryz.f108 ?_;simp only [Tryz.f108];have J:Gro h G ((h.new (cQ X 36)).new (cQ Y 36)):=(Stp.refl s).new.new;have rx:((h.new (cQ X 36)).new (cQ Y 36)).read h.nx 0 6=some X:=(Ab (b:=cQ X 36) gL).trans E;have gy:((h.new (cQ X 36)).new (cQ Y 36)).m.get (h.nx+1)=some (cQ Y 36):=gL;simp only [seval,go_sem,xo,yo,Z,U,rx];refine Ae (Hl J.st z) fun _ h1 ⟨e1,O⟩=>?_;subst e1;rw [if_neg (Gv vo)];have ry:h1.read (h.nx+1) 0 6=some Y:=(Ab (O.gt J.st.1 gy (fun h=>h))).trans I;simp only [seval,go_sem,ry,yo,U];refine Ae (Hl O.st D) fun _ h2 ⟨e2,p2⟩=>?_;subst e2;rw [if_neg (Gv vn)];simp only [seval,go_sem];exact (J.trans O).trans p2
end
section
variable {h h':H} {G G':Fz} {d b L p q:Nat} {m:D.M} {sl:List Sl} {k k1 k2:Hd}
theorem diff44 (hM:Mch) {o n:T} {X Y:List AV} (s:St h G) (hX:RT G o X) (hY:RT G n Y) (vo:A8 o) (vn:A8 n) (hk:o.kind=n.kind) (ht:o.tag=n.tag) :
  Ans ctx 44 [gQ X,gQ Y] h fun v h'=>∃ G' w l cs,v=.tup [w,iQ wQ 0]∧Stp (fun _=>False) h G h' G'∧Arr G' 12 w l.length cs∧RSs G' l cs∧V.D.DS Op.bytesLess (dep n) o n [] l∧l.length≤50 * siz n:=by
 have xo:=hX.one;have yo:=hY.one;have x6:=hX.len;have y6:=hY.len;have ae:Aq 0 6 X=some X:=by rw [← x6];exact Aj
 have ag:Aq 0 6 Y=some Y:=by rw [← y6];exact Aj
 refine aO Tryz.f44 ?_;simp only [Tryz.f44];have p0:Gro h G ((h.new (cQ X 36)).new (cQ Y 36)):=(Stp.refl s).new.new;have gx:((h.new (cQ X 36)).new (cQ Y 36)).m.get h.nx=some (cQ X 36):=gL;have gy:=lG gx (h.nx+1) (cQ Y 36);have rx:=fun {g:H} (e:g.m.get h.nx=some (cQ X 36))=>(Ab (o:=0) (n:=6) e).trans ae;have ry:=fun {g:H} (e:g.m.get (h.nx+1)=some (cQ Y 36))=>(Ab (o:=0) (n:=6) e).trans ag;have ah:=rx gx;have ak:=ry gy;simp only [seval,go_sem,xo,yo,x6,y6,ah,ak];refine Ae (Axy p0.st hX hY vo vn) fun _ h1 ⟨E,I⟩=>?_;subst E;have U:=I.gt p0.st.1 gx (fun h=>h);have Z:=I.gt p0.st.1 gy (fun h=>h);have ai:=rx U;have am:=ry Z;simp only [seval,go_sem,xo,yo,x6,y6,ai,am];refine Ae (fit13 I.st hX hY hk ht) fun _ h2 ⟨O,p2⟩=>?_;subst O;have z:=(p0.trans I).trans p2;have ab:=p2.gt I.st.1 U (fun h=>h);have ac:=p2.gt I.st.1 Z (fun h=>h);have pn:Gro h2 G (h2.new (cQ [(():AV)] 191)):=(Stp.refl z.st).new;have aj:=rx (pn.gt z.st.1 ab (fun h=>h));have an:=ry (pn.gt z.st.1 ac (fun h=>h));simp only [seval,go_sem,xo,yo,x6,y6,aj,an];have l2:=z.nx;have A:Wr (h2.new (cQ [(():AV)] 191)) G h2.nx (():AV) []:=⟨pn.st,Au,z.st.none (Nat.le_refl _),[],rfl,Or.inl ⟨rfl,rfl,rfl⟩⟩;refine Ae (nd_all hM (dep n) (path:=[]) A hX hY vo vn (Nat.le_refl _) (Or.inl ⟨rfl,rfl,rfl⟩) (by have:=vn.2.2;simp only [List.length_nil];omega) (by have:=vn.2.1;simp only [List.length_nil];omega)) fun _ h3 ⟨G3,v3,l,W3,A3,hds,hl⟩=>?_;rw [List.nil_append] at A3;have r3:h3.read h2.nx 0 1=some [v3]:=(Ab A3.g).trans rfl;have p3:Stp (fun _=>False) h G h3 G3:=(z.trans pn).in W3.st (fun i hi hh=>by
  rcases hh with hh | ⟨_,hh⟩
  ·omega
  ·cases hh)
 obtain ⟨J,cs,p4,ax,rs⟩:∃ J cs,Stp (fun _=>False) h G h3 J∧Arr J 12 v3 l.length cs∧RSs J l cs:=by
  obtain ⟨cs,rs,⟨E,O,e3⟩ | ⟨j,E,O,e3,e4⟩⟩:=A3.c
  ·subst O e3;exact ⟨G3,[],p3,Or.inl ⟨E,rfl,rfl⟩,rfl⟩
  ·have hj:h.nx≤j:=by
    rcases W3.nw j ⟨_,E⟩ with h1 | ⟨_,h1⟩
    ·simp only [Ac] at h1;omega
    ·cases h1
   have p4:=p3.frz hj O;have le:Fz.Le G3 (G3.add j (oQ cs l.length 189 12)):=Fz.add_le e3;refine ⟨_,cs,p4,Or.inr ⟨j,0,Or.inr ⟨0,E⟩,?_⟩,rs.mono le⟩;rw [Fz.rd_b Fz.add_at,Ha,← rs.len];exact Aj
 obtain ⟨w,hx,c4,aa,af⟩:=clip110 (h:=h3) ax;rw [af] at c4;simp only [seval,go_sem,r3,c4];exact ⟨J,w,l,cs,rfl,p4,aa,rs,hds,hl⟩
end
section
variable {h h':H} {G G':Fz} {d b L p q:Nat} {m:D.M} {sl:List Sl} {k k1 k2:Hd}
theorem lp_path {ms:List Int} {J:List Bool} {z:List T} {path:List Nat} {P:Nat→Nat→List V.D.Sx→Prop} {N:Nat} (I:∀ i k sub,P i k sub→∀ s,s∈sub→s.path.length < N) (E:path.length < N) {i:Nat} {l:List Int} {rest:List V.D.Sx} (h:V.D.LP ms J z path P i l rest):∀ s,s∈rest→s.path.length < N:=by
 induction h with
 | nil=>intro s hs;cases hs
 | mnt _ _ _ _ ih =>
  intro s hs;rcases List.mem_cons.1 hs with rfl | hs
  ·exact E
  ·exact ih s hs
 | keep _ _ hp _ _ ih =>
  intro s hs;rcases List.mem_append.1 hs with hs | hs
  ·exact I _ _ _ hp s hs
  ·exact ih s hs
 | mov _ _ hp _ _ ih =>
  intro s hs;rcases List.mem_append.1 hs with hs | hs
  ·exact I _ _ _ hp s hs
  ·rcases List.mem_cons.1 hs with rfl | hs
   ·exact E
   ·exact ih s hs
theorem Aiw {lt:Str→Str→Bool}:∀ (d:Nat) {o n:T} {path:List Nat} {l:List V.D.Sx},V.D.DS lt d o n path l→∀ s,s∈l→s.path.length < path.length+d
 | 0,_,_,_,_,h,_,_=>h.elim
 | d+1,o,n,path,l,⟨ms,st,rest,_,_,e,lp⟩,s,hs=>by
  subst e;rcases List.mem_append.1 hs with hs | hs
  ·obtain ⟨a,_,rfl⟩:=List.mem_map.1 hs;show path.length < _;omega
  ·rcases List.mem_append.1 hs with hs | hs
   ·obtain ⟨a,_,rfl⟩:=List.mem_map.1 hs;show path.length < _;omega
   ·refine lp_path (N:=path.length+(d+1)) (fun i k sub ⟨o',n',_,_,hd⟩ s hs=>?_) tM lp s hs;have:=Aiw d hd s hs;rw [List.length_append] at this;simp only [List.length_singleton] at this;omega
end
def mk (t:T):MK:=((t.kind:Int),t.tag,t.key)
theorem Nu:∀ {l seen:List MK},(Av seen l).length=l.length
 | [],_=>rfl
 | x::l,seen=>by rw [Av,List.length_cons,List.length_cons,Nu]
theorem Q9:∀ {l seen:List MK} {i:Nat} {s:MK × Nat},(Av seen l)[i]?=some s→l[i]?=some s.1
 | x::l,seen,0,s,h=>by
  rw [Av,List.getElem?_cons_zero] at h;cases h;rfl
 | x::l,seen,i+1,s,h=>by
  rw [Av,List.getElem?_cons_succ] at h;rw [List.getElem?_cons_succ];exact Q9 h
theorem Nv:∀ {l seen:List MK} {i:Nat} {x:MK},l[i]?=some x→x.2.2≠[]→(Av seen l)[i]?=some (x,0)
 | y::l,seen,0,x,h,hn=>by
  rw [List.getElem?_cons_zero] at h;cases h;rw [Av,List.getElem?_cons_zero];cases hx:y.2.2 with
  | nil=>exact absurd hx hn
  | cons a b=>rfl
 | y::l,seen,i+1,x,h,hn=>by
  rw [List.getElem?_cons_succ] at h;rw [Av,List.getElem?_cons_succ];exact Nv h hn
def UqK (l:List MK):Prop:=l.Pairwise fun a b=>b.2.2≠[]→a.2.2≠b.2.2
theorem Aak:∀ {l seen:List MK} {s:MK × Nat},s∈Av seen l→s.1.2.2=[]→seen.count s.1≤s.2
 | x::l,seen,s,h,he=>by
  rw [Av] at h;rcases List.mem_cons.1 h with rfl | h
  ·have he:x.2.2=[]:=he;simp only [he];exact Nat.le_refl _
  ·have:=Aak h he;rw [List.count_cons] at this;omega
theorem Amv {l seen:List MK} {s:MK × Nat} (h:s∈Av seen l):s.1∈l:=by
 obtain ⟨i,z⟩:=List.mem_iff_getElem?.1 h;exact List.mem_of_getElem? (Q9 z)
theorem Js:∀ {l seen:List MK},UqK l→(Av seen l).Nodup
 | [],_,_=>List.nodup_nil
 | x::l,seen,h=>by
  obtain ⟨h1,h2⟩:=List.pairwise_cons.1 h;rw [Av];refine List.nodup_cons.2 ⟨fun hm=>?_,Js h2⟩
  by_cases he:x.2.2=[]
  ·have:=Aak hm he;simp only [he,List.count_cons_self] at this;omega
  ·exact h1 x (Amv hm) he rfl
theorem Ahi {s:MK × Nat}:∀ {l:List (MK × Nat)} {k:Nat},ixS s k l = -1∨∃ j:Nat,ixS s k l=((k+j:Nat):Int)∧l[j]?=some s
 | [],k=>Or.inl rfl
 | x::l,k=>by
  unfold ixS
  by_cases hx:x=s
  ·rw [decide_eq_true hx];exact Or.inr ⟨0,rfl,by rw [hx];rfl⟩
  ·rw [decide_eq_false hx];rcases Ahi (s:=s) (l:=l) (k:=k+1) with h | ⟨j,h1,h2⟩
   ·exact Or.inl h
   ·exact Or.inr ⟨j+1,by show ixS s (k+1) l=_;rw [h1];congr 1;omega,h2⟩
theorem ix_of {s:MK × Nat}:∀ {l:List (MK × Nat)} {k j:Nat},l.Nodup→l[j]?=some s→ixS s k l=((k+j:Nat):Int)
 | x::l,k,0,h,e=>by
  rw [List.getElem?_cons_zero] at e;cases e;unfold ixS;rw [decide_eq_true rfl];rfl
 | x::l,k,j+1,h,e=>by
  rw [List.getElem?_cons_succ] at e;obtain ⟨h1,h2⟩:=List.nodup_cons.1 h;have hx:x≠s:=fun hx=>h1 (hx ▸ List.mem_of_getElem? e);unfold ixS;rw [decide_eq_false hx];show ixS s (k+1) l=_;rw [ix_of h2 e];congr 1;omega
theorem Ml:∀ {l seen:List T},Dp seen l=true→UqK (l.map mk)∧∀ t,t∈l→t.key≠[]→∀ u,u∈seen→u.key≠t.key
 | [],_,_=>⟨List.Pairwise.nil,fun _ h=>by cases h⟩
 | x::l,seen,h=>by
  rw [Dp,Bool.and_eq_true,Bool.or_eq_true] at h;obtain ⟨h1,h2⟩:=h;obtain ⟨h3,h4⟩:=Ml h2;refine ⟨List.pairwise_cons.2 ⟨fun b hb hn=>?_,h3⟩,fun t ht hn u hu=>?_⟩
  ·obtain ⟨t,ht,rfl⟩:=List.mem_map.1 hb;exact h4 t ht hn x (List.mem_append_right _ (List.mem_singleton.2 rfl))
  ·rcases List.mem_cons.1 ht with rfl | ht
   ·rcases h1 with h1 | h1
    ·exact absurd (of_decide_eq_true h1) hn
    ·intro e;rw [Bool.not_eq_true',List.any_eq_false] at h1;exact h1 u hu (decide_eq_true e)
   ·exact h4 t ht hn u (List.mem_append_left _ hu)
theorem Uv:∀ {l:List MK},UqK l→Og l=true
 | [],_=>rfl
 | x::l,h=>by
  obtain ⟨h1,h2⟩:=List.pairwise_cons.1 h;rw [Og,Uv h2,Bool.and_true,Bool.or_eq_true]
  by_cases he:x.2.2=[]
  ·exact Or.inl (by rw [he];rfl)
  ·refine Or.inr (List.all_eq_true.2 fun y hy=>?_);rw [Bool.not_eq_true',beq_eq_false_iff_ne];intro e;exact h1 y hy (fun hn=>he (by rw [← e,hn])) e.symm
theorem Amm {o n:List MK}:(Ek o n).length=n.length:=by
 unfold Ek;rw [List.length_map,Nu]
theorem Avy {o n:List MK} {i:Nat} (D:i < n.length):∃ s,(Av [] n)[i]?=some s∧(Ek o n).getD i (-1)=ixS s 0 (Av [] o):=by
 have z:i < (Av [] n).length:=by rw [Nu];exact D
 refine ⟨(Av [] n)[i],List.getElem?_eq_getElem z,?_⟩;unfold Ek;rw [List.getD_eq_getElem?_getD,List.getElem?_map,List.getElem?_eq_getElem z];rfl
theorem Avx {o n:List T} (ho:Dp [] o=true) (hn:Dp [] n=true):V.D.MatchOK o n (Ek (o.map mk) (n.map mk)):=by
 have no:=Js (seen:=[]) (Ml ho).1;have nn:=Js (seen:=[]) (Ml hn).1;have key:∀ i,i < n.length→∃ s,(Av [] (n.map mk))[i]?=some s∧(Ek (o.map mk) (n.map mk)).getD i (-1)=ixS s 0 (Av [] (o.map mk)):=fun i E=>Avy (by rw [List.length_map];exact E);have hl:(Ek (o.map mk) (n.map mk)).length=n.length:=by rw [Amm,List.length_map]
 have I:∀ {l:List T} {j:Nat} {s:MK × Nat},(Av [] (l.map mk))[j]?=some s→∃ t,l[j]?=some t∧mk t=s.1:=fun {l j s} h=>by
  have:=Q9 h;rw [List.getElem?_map] at this;cases ht:l[j]? with
  | none=>rw [ht] at this;cases this
  | some t=>rw [ht] at this;exact ⟨t,rfl,Option.some.inj this⟩
 refine ⟨hl,fun i E=>?_,fun i k E Z h0 U=>?_,fun i j t u z J Z e1 e2 e3=>?_⟩
 ·obtain ⟨s,hs,e⟩:=key i (hl ▸ E);rw [e];rcases Ahi (s:=s) (l:=Av [] (o.map mk)) (k:=0) with h | ⟨j,z,J⟩
  ·exact Or.inl h
  ·obtain ⟨t,ht,et⟩:=I hs;obtain ⟨u,hu,eu⟩:=I J;have:mk u=mk t:=eu.trans et.symm;injection this with a1 a2;injection a2 with a2 a3;exact Or.inr ⟨j,u,t,by rw [z,Nat.zero_add],hu,ht,tM,a2⟩
 ·obtain ⟨s,hs,e⟩:=key i (hl ▸ E);obtain ⟨s',ac,e'⟩:=key k (hl ▸ Z);rw [e] at h0 U;rw [e'] at U;rcases Ahi (s:=s) (l:=Av [] (o.map mk)) (k:=0) with h | ⟨j,z,J⟩
  ·rw [h] at h0;omega
  ·rcases Ahi (s:=s') (l:=Av [] (o.map mk)) (k:=0) with h | ⟨j',aa,O⟩
   ·rw [h,z] at U;omega
   ·rw [z,aa] at U;have:j=j':=tM;subst this;rw [J] at O;cases O;have ab:i < (Av [] (n.map mk)).length:=Y.lt_of_get hs;exact (List.getElem?_inj ab nn).1 (hs.trans ac.symm)
 ·have E:i < n.length:=Y.lt_of_get z;obtain ⟨s,hs,e⟩:=key i E;have k1:(Av [] (n.map mk))[i]?=some (mk t,0):=Nv (by rw [List.getElem?_map,z];rfl) Z;have k2:(Av [] (o.map mk))[j]?=some (mk u,0):=Nv (by rw [List.getElem?_map,J];rfl) (by show u.key≠[];rw [e3];exact Z);rw [k1] at hs;cases hs;have em:mk t=mk u:=by unfold mk;rw [e1,e2,e3]
  rw [e,em,ix_of no k2,Nat.zero_add]
section
variable {h:H} {G:Fz}
theorem Yy:∀ {l:List T} {cs:List AV},RTs G l cs→Hu l.length cs=some (l.map mk)
 | [],_,_=>rfl
 | .nd kd tg ky tx al ch::l,cs,h=>by
  obtain ⟨x,r,rfl,⟨a,c,cc,rfl,_⟩,hr⟩:=h;have:=Yy hr;simp only [List.length_cons,List.cons_append,List.nil_append,Hu,this,List.map_cons];rfl
theorem Rz {sz n:Nat} {v:AV} {cs:List AV} (s:St h G) (a:Arr G sz v n cs):Db v=some n∧Bp h sz n v=some cs:=by
 rcases a with ⟨rfl,rfl,rfl⟩ | ⟨b,o,⟨c,D,rfl⟩ | ⟨d,rfl⟩,z⟩
 ·exact ⟨rfl,rfl⟩
 ·refine ⟨rfl,?_⟩;rw [Gt,Nat.ble_eq_true_of_le (Nat.le_refl _)];exact s.read z
 ·refine ⟨rfl,?_⟩;rw [Aed,Nat.ble_eq_true_of_le (Nat.le_refl _)];exact s.read z
end
theorem mch:Mch:=by
 intro h G a b cc dd o n s U D Y z _ _ I E lo ln;obtain ⟨Z,J⟩:=Rz s U;obtain ⟨l2,O⟩:=Rz s Y;have e:FW ctx 154 [a,b] h=some (.sl h.nx 0 n.length n.length,h.new (.cells ((Ek (o.map mk) (n.map mk)).map (AV.int .i64)) 3)):=by
  refine Fa ?_;show some (Pr [a,b] h)=_;unfold Pr;simp only [Z,l2,Nat.ble_eq_true_of_le (show o.length≤64 by omega),Nat.ble_eq_true_of_le (show n.length≤64 by omega),Bool.and_self,J,O,Yy D,Yy z,Uv (Ml I).1,Uv (Ml E).1,D.one,z.one];rfl
 exact ⟨_,_,e,_,rfl,Au,Avx I E,(Stp.refl s).new⟩
inductive PT where
 | nd (kind:Nat) (tag key text:Str) (slots:List (Str × Nat × Str)) (ch:List PT)
def Dl:List (Str × Nat × Str)→List AV
 | []=>[]
 | (a,f,v)::l=>.str a::.int .u8 (f:Int)::.str v::Dl l
mutual
def RP (G:Fz):PT→List AV→Prop
 | .nd kd tg ky tx sl ch,cs=>∃ a c cc,cs=[.int .u8 (kd:Int),.str tg,.str ky,a,.str tx,c]∧Arr G 3 a sl.length (Dl sl)∧Arr G 6 c ch.length cc∧RPs G ch cc
def RPs (G:Fz):List PT→List AV→Prop
 | [],cs=>cs=[]
 | t::l,cs=>∃ x r,cs=x++r∧RP G t x∧RPs G l r
end
def PT.kind:PT→Nat | .nd k _ _ _ _ _=>k
def PT.tag:PT→Str | .nd _ x _ _ _ _=>x
def PT.key:PT→Str | .nd _ _ x _ _ _=>x
def PT.text:PT→Str | .nd _ _ _ x _ _=>x
def PT.slots:PT→List (Str × Nat × Str) | .nd _ _ _ _ x _=>x
def PT.ch:PT→List PT | .nd _ _ _ _ _ x=>x
mutual
def okP:PT→Bool
 | .nd kd _ _ _ sl ch=>decide (kd≤255) && (decide (sl.length≤3) && (sl.all (fun s=>decide (s.2.1≤3)) && (decide (ch.length≤11) && okPs ch)))
def okPs:List PT→Bool
 | []=>true
 | t::l=>okP t && okPs l
end
section
variable {G G':Fz}
mutual
theorem RP.mono (g:Fz.Le G G'):∀ (t:PT) (cs:List AV),RP G t cs→RP G' t cs
 | .nd kd tg ky tx al ch,cs,⟨a,c,cc,h1,h2,h3,h4⟩=>⟨a,c,cc,h1,h2.mono g,h3.mono g,RPs.mono g ch cc h4⟩
theorem RPs.mono (g:Fz.Le G G'):∀ (l:List PT) (cs:List AV),RPs G l cs→RPs G' l cs
 | [],cs,h=>h
 | t::l,cs,⟨x,r,h1,h2,h3⟩=>⟨x,r,h1,RP.mono g t x h2,RPs.mono g l r h3⟩
end
theorem RP.len:∀ (t:PT) (cs:List AV),RP G t cs→cs.length=6
 | .nd kd tg ky tx al ch,cs,⟨a,c,cc,h1,_⟩=>by rw [h1];rfl
theorem RPs.len:∀ (l:List PT) (cs:List AV),RPs G l cs→cs.length=l.length * 6
 | [],cs,h=>by rw [show cs=[] from h];rfl
 | t::l,cs,⟨x,r,h1,h2,h3⟩=>by rw [h1,List.length_append,RP.len t x h2,RPs.len l r h3,List.length_cons];omega
theorem RPs.el:∀ (l:List PT) (cs:List AV),RPs G l cs→∀ j (hj:j < l.length),RP G l[j] ((cs.drop (j * 6)).take 6)
 | t::l,cs,⟨x,r,h1,h2,h3⟩,0,hj=>by
  have:=RP.len t x h2;rw [h1,Nat.zero_mul,List.drop_zero,List.take_append_of_le_length tM,List.take_of_length_le tM];exact h2
 | t::l,cs,⟨x,r,h1,h2,h3⟩,j+1,hj=>by
  have:=RP.len t x h2;rw [h1,List.drop_append,List.drop_of_length_le tM,List.nil_append,show (j+1) * 6 - x.length=j * 6 by omega];exact RPs.el l r h3 j (by simpa using hj)
theorem Arr.part {h:H} (s:St h G) {l:List PT} {v:AV} {cs:List AV} {j:Nat} (a:Arr G 6 v l.length cs) (r:RPs G l cs) (D:j < l.length):∃ b o x,ixA 6 j v=some (.ptr b (o+j * 6))∧G.read b (o+j * 6) 6=some x∧RP G l[j] x:=by
 obtain ⟨b,o,E,z⟩:=a.el s D;have O:cs.length=l.length * 6:=RPs.len l cs r;refine ⟨b,o,_,E,?_,RPs.el l cs r j D⟩;unfold Fz.read at z ⊢;split at z
 ·obtain ⟨J,I⟩:=Cv z;rw [Bw,if_pos tM,I,List.drop_take,List.take_take,List.drop_drop,Nat.min_eq_left tM]
 ·cases z
theorem Qd:∀ l:List (Str × Nat × Str),(Dl l).length=l.length * 3
 | []=>rfl
 | (a,f,b)::l=>by rw [Dl,List.length_cons,List.length_cons,List.length_cons,Qd l,List.length_cons];omega
theorem Sr:∀ (l:List (Str × Nat × Str)) (j:Nat) (hj:j < l.length),((Dl l).drop (j * 3)).take 3=[.str l[j].1,.int .u8 (l[j].2.1:Int),.str l[j].2.2]
 | (a,f,b)::l,0,_=>rfl
 | (a,f,b)::l,j+1,hj=>by
  have:=Sr l j (by simpa using hj);rw [show (j+1) * 3=j * 3+1+1+1 by omega,Dl,List.drop_succ_cons,List.drop_succ_cons,List.drop_succ_cons,this];rfl
theorem Arr.slot {h:H} (s:St h G) {l:List (Str × Nat × Str)} {v:AV} {j:Nat} (a:Arr G 3 v l.length (Dl l)) (D:j < l.length):∃ b o,ixA 3 j v=some (.ptr b (o+j * 3))∧G.read b (o+j * 3) 3=some [.str l[j].1,.int .u8 (l[j].2.1:Int),.str l[j].2.2]:=by
 obtain ⟨b,o,E,z⟩:=a.el s D;refine ⟨b,o,E,?_⟩;have O:=Qd l;unfold Fz.read at z ⊢;split at z
 ·obtain ⟨J,I⟩:=Cv z;rw [Bw,if_pos tM,← Sr l j D,I,List.drop_take,List.take_take,List.drop_drop,Nat.min_eq_left tM]
 ·cases z
theorem RPs.snoc {t:PT} {x:List AV}:∀ {l:List PT} {cs:List AV},RPs G l cs→RP G t x→RPs G (l++[t]) (cs++x)
 | [],cs,h,hx=>by rw [show cs=[] from h];exact ⟨x,[],by rw [List.append_nil,List.nil_append],hx,rfl⟩
 | u::l,cs,⟨y,r,h1,h2,h3⟩,hx=>⟨y,r++x,by rw [h1,List.append_assoc],h2,RPs.snoc h3 hx⟩
theorem RP.one:∀ {t:PT} {x:List AV},RP G t x→Af x=true
 | .nd kd tg ky tx sl ch,x,⟨a,c,cc,h1,h2,h3,h4⟩=>by
  have e1:=h2.one;have e2:=h3.one;rw [h1];simp only [R0,Sc,Sb,e1,e2,Abj,Bool.and_self]
end
theorem Z9:∀ {l:List PT} {t:PT},okPs l=true→t∈l→okP t=true
 | x::l,t,h,hm=>by
  rw [okPs,Bool.and_eq_true] at h;rcases List.mem_cons.1 hm with rfl | hm
  ·exact h.1
  ·exact Z9 h.2 hm
theorem Aaa {t:PT}:∀ {l:List PT},okPs l=true→okP t=true→okPs (l++[t])=true
 | [],_,h=>by rw [List.nil_append,okPs,h];rfl
 | x::l,h,h2=>by
  rw [okPs,Bool.and_eq_true] at h;rw [List.cons_append,okPs,h.1,Aaa h.2 h2];rfl
section
variable {h h':H} {G G':Fz} {d b L p q:Nat} {m:D.M} {sl:List Sl} {k k1 k2:Hd}
theorem Ko {s:Str} (E:St h G):Ans ctx 52 [sQ s] h fun v h'=>(∃ b:Bool,v=bQ b)∧Gro h G h':=by
 refine aO Tryz.f52 ?_;simp only [Tryz.f52];simp only [seval,go_sem];refine Ae (Hl (t:=.nd 1 s [] [] [] []) E ⟨_,_,[],rfl,Or.inl ⟨rfl,rfl,rfl⟩,Or.inl ⟨rfl,rfl,rfl⟩,rfl⟩) fun _ I ⟨D,z⟩=>?_;subst D;generalize Iu (.nd 1 s [] [] [] [])=c
 by_cases hc:c=0
 ·simp only [seval,go_sem,if_pos hc];exact ⟨⟨_,rfl⟩,z⟩
 ·simp only [seval,go_sem,if_neg hc];exact ⟨⟨_,rfl⟩,z⟩
theorem Vn {s:Str} (E:St h G):Ans ctx 49 [sQ s] h fun v h'=>(∃ b:Bool,v=bQ b)∧Gro h G h':=by
 refine aO Tryz.f49 ?_;simp only [Tryz.f49];simp only [seval,go_sem];refine Ae (Hl (t:=.nd 2 [] [] s [] []) E ⟨_,_,[],rfl,Or.inl ⟨rfl,rfl,rfl⟩,Or.inl ⟨rfl,rfl,rfl⟩,rfl⟩) fun _ I ⟨D,z⟩=>?_;subst D;generalize Iu (.nd 2 [] [] s [] [])=c
 by_cases hc:c=0
 ·simp only [seval,go_sem,if_pos hc];exact ⟨⟨_,rfl⟩,z⟩
 ·simp only [seval,go_sem,if_neg hc];exact ⟨⟨_,rfl⟩,z⟩
theorem Pc {s:Str} (z:St h G):Ans ctx 54 [sQ s] h fun v h'=>v=gQ [iQ vQ 2,sQ [],sQ [],(():AV),sQ s,(():AV)]∧Gro h G h':=by
 refine aO Tryz.f54 ?_;simp only [Tryz.f54];simp only [seval,go_sem];exact ((Stp.refl z).new).at (Or.inl (Nat.le_refl _)) (by simp only [Ac];omega) (z.none (Nat.le_refl _))
theorem new8 (z:St h G):Ans ctx 8 [] h fun v h'=>v=jQ h.nx 0∧h' = h.new (cQ (Ia (slV [] h.nx) 0 0 [0,0,0,0,0,0,0,0]) 108):=by
 refine aO Tryz.f8 ?_;simp only [Tryz.f8];simp only [seval,go_sem];rfl
theorem Arh {n:Nat} (E:St h G) (I:n < 256):Ans ctx 14 [iQ vQ (n:Int)] h fun v h'=>(∃ s:Str,v=sQ s)∧Gro h G h':=by
 refine aO Tryz.f14 ?_;simp only [Tryz.f14];simp only [seval,go_sem];have e4:(n:Int).tmod 4=((n % 4:Nat):Int):=rfl;have z:n % 4 < 4:=Nat.mod_lt _ tM;rw [e4];generalize n % 4=k at z;have D:∀ {B},Gro h G (h.new B):=(Stp.refl E).new;rcases (by omega:k=0∨k=1∨k=2∨k=3) with rfl | rfl | rfl | rfl
 all_goals
  simp only [seval,go_sem,@Q4];exact ⟨⟨_,rfl⟩,D⟩
end
section
variable {h h':H} {G G':Fz} {d b L p q:Nat} {m:D.M} {sl:List Sl} {k k1 k2:Hd}
theorem Qe {v:AV} {sl:List (Str × Nat × Str)} (st:St h G) (a:Arr G 3 v sl.length (Dl sl)) (hn:sl.length≤3) (h3:∀ s,s∈sl→s.2.1≤3):Ans ctx 205 [v] h fun x h'=>(∃ b:Bool,x=bQ b)∧Gro h G h':=by
 refine aO Tryz.f205 ?_;simp only [Tryz.f205];have ag:=a.len;have ho:=a.one;have c8:((8:Int) < sl.length)=False:=eq_false tM;simp only [seval,go_sem,ag,c8];refine Ao (fun i e h'=>Gro h G h'∧i≤sl.length∧e.get 0=some v∧e.get 2=some (bQ false)∧e.get 8=some v∧e.get 9=some (iQ wQ sl.length)∧e.get 10=some (iQ wQ i)) (fun i=>sl.length - i) 0 ?_ ?_
 ·exact ⟨Stp.refl st,Nat.zero_le _,by simp [Tr.get_set]⟩
 rintro i e h2 ⟨U,hi,e0,e2,Y,Z,D⟩ lp;simp only [seval,go_sem,Y,Z,D];refine Cr (fun z=>?_) (fun z=>?_)
 ·have z:i < sl.length:=by simpa using z
  have w:=wI i;obtain ⟨cb,co,J,E⟩:=a.slot U.st z;have hf:=h3 _ (List.getElem_mem z);generalize sl[i]=s at E hf;obtain ⟨nm,f,vl⟩:=s;have hf:f≤3:=hf;have pS:Gro h2 G ((h2.new (cQ [sQ [],iQ vQ 0,sQ []] 130)).at h2.nx (cQ [sQ nm,iQ vQ (f:Int),sQ vl] 130)):=(Stp.refl U.st).new.at (Or.inl (Nat.le_refl _)) (by simp only [Ac];omega) (U.st.none (Nat.le_refl _));have gS:((h2.new (cQ [sQ [],iQ vQ 0,sQ []] 130)).at h2.nx (cQ [sQ nm,iQ vQ (f:Int),sQ vl] 130)).m.get h2.nx=some (cQ [sQ nm,iQ vQ (f:Int),sQ vl] 130):=Ap;generalize hS:((h2.new (cQ [sQ [],iQ vQ 0,sQ []] 130)).at h2.nx (cQ [sQ nm,iQ vQ (f:Int),sQ vl] 130))=S at pS gS;have pU:Gro S G (S.up 40):=(Stp.refl pS.st).up;obtain ⟨_,h4,q4,⟨b1,rfl⟩,p4⟩:=Ko (s:=nm) pU.st;obtain ⟨_,h5,q5,⟨b2,rfl⟩,p5⟩:=Vn (s:=vl) p4.st;have rr:∀ {g:H},g.m.get h2.nx=some (cQ [sQ nm,iQ vQ (f:Int),sQ vl] 130)→g.read h2.nx 0 1=some [sQ nm]∧g.read h2.nx 1 1=some [iQ vQ (f:Int)]∧g.read h2.nx 2 1=some [sQ vl]:=fun e=>⟨(Ab e).trans rfl,(Ab e).trans rfl,(Ab e).trans rfl⟩;have ab:=p4.gt pU.st.1 gS (fun h=>h);have af:=p5.gt p4.st.1 ab (fun h=>h);obtain ⟨x1,x2,x3⟩:=rr gS;obtain ⟨y1,y2,y3⟩:=rr ab;obtain ⟨z1,z2,z3⟩:=rr af;have f3:((3:Int) < (f:Int))=False:=eq_false tM;have P4:=(U.trans pS).trans (pU.trans p4);have P5:=P4.trans p5;cases b1
  ·simp only [seval,go_sem,e0,e2,Y,Z,D,J,U.st.read E,hS,x1,x2,x3,y1,y2,y3,z1,z2,z3,q4,q5,w,f3];exact ⟨⟨_,rfl⟩,P4⟩
  ·cases b2
   ·simp only [seval,go_sem,e0,e2,Y,Z,D,J,U.st.read E,hS,x1,x2,x3,y1,y2,y3,z1,z2,z3,q4,q5,w,f3];exact ⟨⟨_,rfl⟩,P5⟩
   ·by_cases c1:(0:Int) < (f:Int)∧vl≠[]
    ·have ac:((0:Int) < (f:Int))=True:=eq_true c1.1;have ae:(vl=[])=False:=eq_false c1.2;simp only [seval,go_sem,e0,e2,Y,Z,D,J,U.st.read E,hS,x1,x2,x3,y1,y2,y3,z1,z2,z3,q4,q5,w,f3,ac,ae];exact ⟨⟨_,rfl⟩,P5⟩
    ·by_cases ci:i=0
     ·have O:((0:Int) < (i:Int))=False:=eq_false tM
      by_cases cf:(0:Int) < (f:Int)
      ·have I:((0:Int) < (f:Int))=True:=eq_true cf;have cv:vl=[]:=Classical.byContradiction fun hh=>c1 ⟨cf,hh⟩;have aa:(vl=[])=True:=eq_true cv;simp only [seval,go_sem,e0,e2,Y,Z,D,J,U.st.read E,hS,x1,x2,x3,y1,y2,y3,z1,z2,z3,q4,q5,w,f3,I,aa,O];exact lp (i+1) _ _ tM ⟨P5,z,by simp [Tr.get_set,e0,e2,Y,Z]⟩
      ·have I:((0:Int) < (f:Int))=False:=eq_false cf;simp only [seval,go_sem,e0,e2,Y,Z,D,J,U.st.read E,hS,x1,x2,x3,y1,y2,y3,z1,z2,z3,q4,q5,w,f3,I,O];exact lp (i+1) _ _ tM ⟨P5,z,by simp [Tr.get_set,e0,e2,Y,Z]⟩
     ·have O:((0:Int) < (i:Int))=True:=eq_true tM;have wm:IntKind.i64.wrap ((i:Int) - 1)=((i - 1:Nat):Int):=by rw [show (i:Int) - 1=((i - 1:Nat):Int) by omega];exact Bz tM
      obtain ⟨db,dO,d1,d2⟩:=a.slot P5.st (show i - 1 < sl.length by omega);have d3:=Fz.cut (a:=0) (m:=1) d2 tM;have dS:S.read db (dO+(i - 1) * 3) 1=some [sQ sl[i - 1].1]:=(U.trans pS).st.read d3;have d4:h4.read db (dO+(i - 1) * 3) 1=some [sQ sl[i - 1].1]:=P4.st.read d3;have d5:h5.read db (dO+(i - 1) * 3) 1=some [sQ sl[i - 1].1]:=P5.st.read d3;generalize hle:(Op.bytesLess nm sl[i - 1].1 || nm==sl[i - 1].1)=le
      by_cases cf:(0:Int) < (f:Int)
      ·have I:((0:Int) < (f:Int))=True:=eq_true cf;have cv:vl=[]:=Classical.byContradiction fun hh=>c1 ⟨cf,hh⟩;have aa:(vl=[])=True:=eq_true cv;cases le
       ·simp only [seval,go_sem,e0,e2,Y,Z,D,J,U.st.read E,hS,x1,x2,x3,y1,y2,y3,z1,z2,z3,q4,q5,w,f3,I,aa,O,wm,d1,dS,d4,d5,hle];exact lp (i+1) _ _ tM ⟨P5,z,by simp [Tr.get_set,e0,e2,Y,Z]⟩
       ·simp only [seval,go_sem,e0,e2,Y,Z,D,J,U.st.read E,hS,x1,x2,x3,y1,y2,y3,z1,z2,z3,q4,q5,w,f3,I,aa,O,wm,d1,dS,d4,d5,hle];exact ⟨⟨_,rfl⟩,P5⟩
      ·have I:((0:Int) < (f:Int))=False:=eq_false cf;cases le
       ·simp only [seval,go_sem,e0,e2,Y,Z,D,J,U.st.read E,hS,x1,x2,x3,y1,y2,y3,z1,z2,z3,q4,q5,w,f3,I,O,wm,d1,dS,d4,d5,hle];exact lp (i+1) _ _ tM ⟨P5,z,by simp [Tr.get_set,e0,e2,Y,Z]⟩
       ·simp only [seval,go_sem,e0,e2,Y,Z,D,J,U.st.read E,hS,x1,x2,x3,y1,y2,y3,z1,z2,z3,q4,q5,w,f3,I,O,wm,d1,dS,d4,d5,hle];exact ⟨⟨_,rfl⟩,P5⟩
 ·have z:sl.length≤i:=by simpa using z
  simp only [seval,go_sem];exact ⟨⟨_,rfl⟩,U⟩
end
section
variable {h h':H} {G G':Fz} {d b L p q:Nat} {m:D.M} {sl:List Sl} {k k1 k2:Hd}
theorem Ayn {b o:Nat} {p:PT} {X:List AV} (st:St h G) (hr:G.read b o 6=some X) (hX:RP G p X) (hp:okP p=true):Ans ctx 175 [jQ b o] h fun x h'=>(∃ b:Bool,x=bQ b)∧Gro h G h':=by
 have xo:=hX.one;obtain ⟨kd,tg,ky,tx,sl,ch⟩:=p;rw [okP] at hp;simp only [Bool.and_eq_true,decide_eq_true_eq,List.all_eq_true] at hp;obtain ⟨aK,a8,aA,aI,_⟩:=hp;obtain ⟨a,c,cc,rfl,ha,hc,aJ⟩:=hX;have D:=ha.len;have E:=hc.len;have ao:=ha.one;have co:=hc.one;refine aO Tryz.f175 ?_;simp only [Tryz.f175];have pS:Gro h G ((h.new (cQ [iQ vQ 0,sQ [],sQ [],(():AV),sQ [],(():AV)] 31)).at h.nx (cQ [iQ vQ (kd:Int),sQ tg,sQ ky,a,sQ tx,c] 31)):=(Stp.refl st).new.at (Or.inl (Nat.le_refl _)) (by simp only [Ac];omega) (st.none (Nat.le_refl _));have gS:((h.new (cQ [iQ vQ 0,sQ [],sQ [],(():AV),sQ [],(():AV)] 31)).at h.nx (cQ [iQ vQ (kd:Int),sQ tg,sQ ky,a,sQ tx,c] 31)).m.get h.nx=some (cQ [iQ vQ (kd:Int),sQ tg,sQ ky,a,sQ tx,c] 31):=Ap;have rr:∀ {g:H},St g G→g.read b o 6=some [iQ vQ (kd:Int),sQ tg,sQ ky,a,sQ tx,c]∧g.read b o 1=some [iQ vQ (kd:Int)]∧g.read b (o+1) 1=some [sQ tg]∧g.read b (o+2) 1=some [sQ ky]∧g.read b (o+3) 1=some [a]∧g.read b (o+4) 1=some [sQ tx]∧g.read b (o+5) 1=some [c]:=fun s=>⟨s.read hr,s.read (Fz.cut (a:=0) (m:=1) hr tM),s.read (Fz.cut (m:=1) hr tM),s.read (Fz.cut (m:=1) hr tM),s.read (Fz.cut (m:=1) hr tM),s.read (Fz.cut (m:=1) hr tM),s.read (Fz.cut (m:=1) hr tM)⟩;obtain ⟨w6,w0,w1,w2,w3,w4,w5⟩:=rr st;obtain ⟨y6,y0,y1,y2,y3,y4,y5⟩:=rr pS.st;generalize hS:((h.new (cQ [iQ vQ 0,sQ [],sQ [],(():AV),sQ [],(():AV)] 31)).at h.nx (cQ [iQ vQ (kd:Int),sQ tg,sQ ky,a,sQ tx,c] 31))=S at pS gS y6 y0 y1 y2 y3 y4 y5;have z:((16:Int) < (ch.length:Int))=False:=eq_false tM;have nS:h.nx < S.nx:=by rw [← hS];simp only [Ag,Ac];omega
 have J:∀ {g:H} {B:Blk},Stp (fun i=>i=h.nx) S G g G→Stp (fun i=>i=h.nx) S G (g.at h.nx B) G:=fun p=>p.at (Or.inr rfl) (by have:=p.nx;omega) (st.none (Nat.le_refl _));have fin:∀ {g:H},Stp (fun i=>i=h.nx) S G g G→Gro h G g:=fun p=>pS.in p (fun i hi hh=>by omega);have go:∀ {g g':H},Stp (fun i=>i=h.nx) S G g G→Gro g G g'→Stp (fun i=>i=h.nx) S G g' G:=fun p q=>p.trans (q.mono fun _ h=>h.elim);have P0:Stp (fun i=>i=h.nx) S G S G:=Stp.refl pS.st;have v1:S.read h.nx 1 1=some [sQ tg]:=(Ab gS).trans rfl;have v2:S.read h.nx 2 1=some [sQ ky]:=(Ab gS).trans rfl;have v3:S.read h.nx 3 1=some [a]:=(Ab gS).trans rfl;have v4:S.read h.nx 4 1=some [sQ tx]:=(Ab gS).trans rfl;have v5:S.read h.nx 5 1=some [c]:=(Ab gS).trans rfl
 by_cases kk1:kd=1
 ·have U:((kd:Int)=1)=True:=eq_true tM;have k5:((kd:Int)=5)=False:=eq_false tM;have k2:((kd:Int)=2)=False:=eq_false tM;have Y:((kd:Int)=3)=False:=eq_false tM;have Z:((kd:Int)=4)=False:=eq_false tM
  by_cases d2:ky=[]
  ·have I:(ky=[])=True:=eq_true d2;simp only [seval,go_sem,w6,w0,w1,w2,w3,w4,w5,xo,ao,co,hS,D,E,z,U,k5,k2,Y,Z,y6,y0,y1,y2,y3,y4,y5,I,gS];have gR:((S.at h.nx (cQ [iQ vQ (kd:Int),sQ tg,sQ [],a,sQ tx,c] 31)).at h.nx (cQ [iQ vQ (kd:Int),sQ tg,sQ [],a,sQ tx,(():AV)] 31)).m.get h.nx=some (cQ [iQ vQ (kd:Int),sQ tg,sQ [],a,sQ tx,(():AV)] 31):=Ap;have P3:=J (B:=(cQ [iQ vQ (kd:Int),sQ tg,sQ [],a,sQ tx,(():AV)] 31)) (J (B:=(cQ [iQ vQ (kd:Int),sQ tg,sQ [],a,sQ tx,c] 31)) P0);obtain ⟨aH,aB,aC,aD,aE,aF,aG⟩:=rr P3.st;simp only [seval,go_sem,w6,w0,w1,w2,w3,w4,w5,xo,ao,co,hS,D,E,z,U,k5,k2,Y,Z,aH,aB,aC,aD,aE,aF,aG];refine Ae (Ko (s:=tg) P3.st) fun _ g1 ⟨⟨b1,e1⟩,q1⟩=>?_;subst e1;have P1:=go P3 q1;obtain ⟨a7,aw,ax,ay,az,a0,a6⟩:=rr P1.st;have gA:g1.m.get h.nx=some (cQ [iQ vQ (kd:Int),sQ tg,sQ [],a,sQ tx,(():AV)] 31):=q1.gt P3.st.1 gR (fun h=>h);cases b1
   ·simp only [seval,go_sem,w6,w0,w1,w2,w3,w4,w5,xo,ao,co,hS,D,E,z,U,k5,k2,Y,Z,a7,aw,ax,ay,az,a0,a6];exact ⟨⟨_,rfl⟩,fin P1⟩
   simp only [seval,go_sem,w6,w0,w1,w2,w3,w4,w5,xo,ao,co,hS,D,E,z,U,k5,k2,Y,Z,a7,aw,ax,ay,az,a0,a6];refine Ae (Qe P1.st ha a8 aA) fun _ g2 ⟨⟨b2,e2⟩,q2⟩=>?_;subst e2;have P2:=go P1 q2;obtain ⟨ak,ae,af,ag,ah,ai,aj⟩:=rr P2.st;have gB:g2.m.get h.nx=some (cQ [iQ vQ (kd:Int),sQ tg,sQ [],a,sQ tx,(():AV)] 31):=q2.gt P1.st.1 gA (fun h=>h);cases b2
   ·simp only [seval,go_sem,w6,w0,w1,w2,w3,w4,w5,xo,ao,co,hS,D,E,z,U,k5,k2,Y,Z,ak,ae,af,ag,ah,ai,aj];exact ⟨⟨_,rfl⟩,fin P2⟩
   by_cases d3:tx=[]
   ·have O:(tx=[])=True:=eq_true d3;simp only [seval,go_sem,w6,w0,w1,w2,w3,w4,w5,xo,ao,co,hS,D,E,z,U,k5,k2,Y,Z,ak,ae,af,ag,ah,ai,aj,gB,O];exact ⟨⟨_,rfl⟩,fin (J (J P2))⟩
   ·have O:(tx=[])=False:=eq_false d3;simp only [seval,go_sem,w6,w0,w1,w2,w3,w4,w5,xo,ao,co,hS,D,E,z,U,k5,k2,Y,Z,ak,ae,af,ag,ah,ai,aj,gB,O];exact ⟨⟨_,rfl⟩,fin (J (J P2))⟩
  ·have I:(ky=[])=False:=eq_false d2;simp only [seval,go_sem,w6,w0,w1,w2,w3,w4,w5,xo,ao,co,hS,D,E,z,U,k5,k2,Y,Z,y6,y0,y1,y2,y3,y4,y5,I,gS];refine Ae (Ko (s:=ky) pS.st) fun _ g0 ⟨⟨b0,e0⟩,q0⟩=>?_;subst e0;have P4:=go P0 q0;obtain ⟨av,am,an,ap,aq,ar,au⟩:=rr P4.st;have gD:g0.m.get h.nx=some (cQ [iQ vQ (kd:Int),sQ tg,sQ ky,a,sQ tx,c] 31):=q0.gt pS.st.1 gS (fun h=>h);cases b0
   ·simp only [seval,go_sem,w6,w0,w1,w2,w3,w4,w5,xo,ao,co,hS,D,E,z,U,k5,k2,Y,Z,av,am,an,ap,aq,ar,au];exact ⟨⟨_,rfl⟩,fin P4⟩
   simp only [seval,go_sem,w6,w0,w1,w2,w3,w4,w5,xo,ao,co,hS,D,E,z,U,k5,k2,Y,Z,av,am,an,ap,aq,ar,au,gD];have gR:((g0.at h.nx (cQ [iQ vQ (kd:Int),sQ tg,sQ [],a,sQ tx,c] 31)).at h.nx (cQ [iQ vQ (kd:Int),sQ tg,sQ [],a,sQ tx,(():AV)] 31)).m.get h.nx=some (cQ [iQ vQ (kd:Int),sQ tg,sQ [],a,sQ tx,(():AV)] 31):=Ap;have P3:=J (B:=(cQ [iQ vQ (kd:Int),sQ tg,sQ [],a,sQ tx,(():AV)] 31)) (J (B:=(cQ [iQ vQ (kd:Int),sQ tg,sQ [],a,sQ tx,c] 31)) P4);obtain ⟨aH,aB,aC,aD,aE,aF,aG⟩:=rr P3.st;simp only [seval,go_sem,w6,w0,w1,w2,w3,w4,w5,xo,ao,co,hS,D,E,z,U,k5,k2,Y,Z,aH,aB,aC,aD,aE,aF,aG];refine Ae (Ko (s:=tg) P3.st) fun _ g1 ⟨⟨b1,e1⟩,q1⟩=>?_;subst e1;have P1:=go P3 q1;obtain ⟨a7,aw,ax,ay,az,a0,a6⟩:=rr P1.st;have gA:g1.m.get h.nx=some (cQ [iQ vQ (kd:Int),sQ tg,sQ [],a,sQ tx,(():AV)] 31):=q1.gt P3.st.1 gR (fun h=>h);cases b1
   ·simp only [seval,go_sem,w6,w0,w1,w2,w3,w4,w5,xo,ao,co,hS,D,E,z,U,k5,k2,Y,Z,a7,aw,ax,ay,az,a0,a6];exact ⟨⟨_,rfl⟩,fin P1⟩
   simp only [seval,go_sem,w6,w0,w1,w2,w3,w4,w5,xo,ao,co,hS,D,E,z,U,k5,k2,Y,Z,a7,aw,ax,ay,az,a0,a6];refine Ae (Qe P1.st ha a8 aA) fun _ g2 ⟨⟨b2,e2⟩,q2⟩=>?_;subst e2;have P2:=go P1 q2;obtain ⟨ak,ae,af,ag,ah,ai,aj⟩:=rr P2.st;have gB:g2.m.get h.nx=some (cQ [iQ vQ (kd:Int),sQ tg,sQ [],a,sQ tx,(():AV)] 31):=q2.gt P1.st.1 gA (fun h=>h);cases b2
   ·simp only [seval,go_sem,w6,w0,w1,w2,w3,w4,w5,xo,ao,co,hS,D,E,z,U,k5,k2,Y,Z,ak,ae,af,ag,ah,ai,aj];exact ⟨⟨_,rfl⟩,fin P2⟩
   by_cases d3:tx=[]
   ·have O:(tx=[])=True:=eq_true d3;simp only [seval,go_sem,w6,w0,w1,w2,w3,w4,w5,xo,ao,co,hS,D,E,z,U,k5,k2,Y,Z,ak,ae,af,ag,ah,ai,aj,gB,O];exact ⟨⟨_,rfl⟩,fin (J (J P2))⟩
   ·have O:(tx=[])=False:=eq_false d3;simp only [seval,go_sem,w6,w0,w1,w2,w3,w4,w5,xo,ao,co,hS,D,E,z,U,k5,k2,Y,Z,ak,ae,af,ag,ah,ai,aj,gB,O];exact ⟨⟨_,rfl⟩,fin (J (J P2))⟩
 by_cases kk5:kd=5
 ·have U:((kd:Int)=1)=False:=eq_false tM;have k5:((kd:Int)=5)=True:=eq_true tM;have k2:((kd:Int)=2)=False:=eq_false tM;have Y:((kd:Int)=3)=False:=eq_false tM;have Z:((kd:Int)=4)=False:=eq_false tM;simp only [seval,go_sem,w6,w0,w1,w2,w3,w4,w5,xo,ao,co,hS,D,E,z,U,k5,k2,Y,Z,y6,y0,y1,y2,y3,y4,y5,gS];refine Ae (Ko (s:=tg) P0.st) fun _ g1 ⟨⟨b1,e1⟩,q1⟩=>?_;subst e1;have P1:=go P0 q1;obtain ⟨a7,aw,ax,ay,az,a0,a6⟩:=rr P1.st;have gA:g1.m.get h.nx=some (cQ [iQ vQ (kd:Int),sQ tg,sQ ky,a,sQ tx,c] 31):=q1.gt P0.st.1 gS (fun h=>h);cases b1
  ·simp only [seval,go_sem,w6,w0,w1,w2,w3,w4,w5,xo,ao,co,hS,D,E,z,U,k5,k2,Y,Z,a7,aw,ax,ay,az,a0,a6];exact ⟨⟨_,rfl⟩,fin P1⟩
  simp only [seval,go_sem,w6,w0,w1,w2,w3,w4,w5,xo,ao,co,hS,D,E,z,U,k5,k2,Y,Z,a7,aw,ax,ay,az,a0,a6];refine Ae (Qe P1.st ha a8 aA) fun _ g2 ⟨⟨b2,e2⟩,q2⟩=>?_;subst e2;have P2:=go P1 q2;obtain ⟨ak,ae,af,ag,ah,ai,aj⟩:=rr P2.st;have gB:g2.m.get h.nx=some (cQ [iQ vQ (kd:Int),sQ tg,sQ ky,a,sQ tx,c] 31):=q2.gt P1.st.1 gA (fun h=>h);cases b2
  ·simp only [seval,go_sem,w6,w0,w1,w2,w3,w4,w5,xo,ao,co,hS,D,E,z,U,k5,k2,Y,Z,ak,ae,af,ag,ah,ai,aj];exact ⟨⟨_,rfl⟩,fin P2⟩
  by_cases d2:ky=[]
  ·have I:(ky=[])=True:=eq_true d2
   by_cases d3:tx=[]
   ·have O:(tx=[])=True:=eq_true d3
    by_cases d5:(ch.length:Int)=0
    ·have ab:((ch.length:Int)=0)=True:=eq_true d5;simp only [seval,go_sem,w6,w0,w1,w2,w3,w4,w5,xo,ao,co,hS,D,E,z,U,k5,k2,Y,Z,ak,ae,af,ag,ah,ai,aj,gB,I,O,ab];exact ⟨⟨_,rfl⟩,fin (J (J P2))⟩
    ·have ab:((ch.length:Int)=0)=False:=eq_false d5;simp only [seval,go_sem,w6,w0,w1,w2,w3,w4,w5,xo,ao,co,hS,D,E,z,U,k5,k2,Y,Z,ak,ae,af,ag,ah,ai,aj,gB,I,O,ab];exact ⟨⟨_,rfl⟩,fin (J (J P2))⟩
   ·have O:(tx=[])=False:=eq_false d3;simp only [seval,go_sem,w6,w0,w1,w2,w3,w4,w5,xo,ao,co,hS,D,E,z,U,k5,k2,Y,Z,ak,ae,af,ag,ah,ai,aj,gB,I,O];exact ⟨⟨_,rfl⟩,fin (J (J P2))⟩
  ·have I:(ky=[])=False:=eq_false d2;simp only [seval,go_sem,w6,w0,w1,w2,w3,w4,w5,xo,ao,co,hS,D,E,z,U,k5,k2,Y,Z,ak,ae,af,ag,ah,ai,aj,gB,I];exact ⟨⟨_,rfl⟩,fin (J (J P2))⟩
 by_cases kk2:kd=2
 ·have U:((kd:Int)=1)=False:=eq_false tM;have k5:((kd:Int)=5)=False:=eq_false tM;have k2:((kd:Int)=2)=True:=eq_true tM;have Y:((kd:Int)=3)=False:=eq_false tM;have Z:((kd:Int)=4)=False:=eq_false tM;simp only [seval,go_sem,w6,w0,w1,w2,w3,w4,w5,xo,ao,co,hS,D,E,z,U,k5,k2,Y,Z,y6,y0,y1,y2,y3,y4,y5,gS];refine Ae (Vn (s:=tx) pS.st) fun _ g0 ⟨⟨b0,e0⟩,q0⟩=>?_;subst e0;have P4:=go P0 q0;obtain ⟨av,am,an,ap,aq,ar,au⟩:=rr P4.st;have gD:g0.m.get h.nx=some (cQ [iQ vQ (kd:Int),sQ tg,sQ ky,a,sQ tx,c] 31):=q0.gt pS.st.1 gS (fun h=>h);cases b0
  ·simp only [seval,go_sem,w6,w0,w1,w2,w3,w4,w5,xo,ao,co,hS,D,E,z,U,k5,k2,Y,Z,av,am,an,ap,aq,ar,au];exact ⟨⟨_,rfl⟩,fin P4⟩
  by_cases d1:tg=[]
  ·have aa:(tg=[])=True:=eq_true d1
   by_cases d2:ky=[]
   ·have I:(ky=[])=True:=eq_true d2
    by_cases d4:(sl.length:Int)=0
    ·have ac:((sl.length:Int)=0)=True:=eq_true d4
     by_cases d5:(ch.length:Int)=0
     ·have ab:((ch.length:Int)=0)=True:=eq_true d5;simp only [seval,go_sem,w6,w0,w1,w2,w3,w4,w5,xo,ao,co,hS,D,E,z,U,k5,k2,Y,Z,av,am,an,ap,aq,ar,au,gD,aa,I,ac,ab];exact ⟨⟨_,rfl⟩,fin (J P4)⟩
     ·have ab:((ch.length:Int)=0)=False:=eq_false d5;simp only [seval,go_sem,w6,w0,w1,w2,w3,w4,w5,xo,ao,co,hS,D,E,z,U,k5,k2,Y,Z,av,am,an,ap,aq,ar,au,gD,aa,I,ac,ab];exact ⟨⟨_,rfl⟩,fin (J P4)⟩
    ·have ac:((sl.length:Int)=0)=False:=eq_false d4;simp only [seval,go_sem,w6,w0,w1,w2,w3,w4,w5,xo,ao,co,hS,D,E,z,U,k5,k2,Y,Z,av,am,an,ap,aq,ar,au,gD,aa,I,ac];exact ⟨⟨_,rfl⟩,fin (J P4)⟩
   ·have I:(ky=[])=False:=eq_false d2;simp only [seval,go_sem,w6,w0,w1,w2,w3,w4,w5,xo,ao,co,hS,D,E,z,U,k5,k2,Y,Z,av,am,an,ap,aq,ar,au,gD,aa,I];exact ⟨⟨_,rfl⟩,fin (J P4)⟩
  ·have aa:(tg=[])=False:=eq_false d1;simp only [seval,go_sem,w6,w0,w1,w2,w3,w4,w5,xo,ao,co,hS,D,E,z,U,k5,k2,Y,Z,av,am,an,ap,aq,ar,au,gD,aa];exact ⟨⟨_,rfl⟩,fin (J P4)⟩
 by_cases kk3:kd=3
 ·have U:((kd:Int)=1)=False:=eq_false tM;have k5:((kd:Int)=5)=False:=eq_false tM;have k2:((kd:Int)=2)=False:=eq_false tM;have Y:((kd:Int)=3)=True:=eq_true tM;have Z:((kd:Int)=4)=False:=eq_false tM
  by_cases d1:tg=[]
  ·have aa:(tg=[])=True:=eq_true d1
   by_cases d2:ky=[]
   ·have I:(ky=[])=True:=eq_true d2
    by_cases d3:tx=[]
    ·have O:(tx=[])=True:=eq_true d3
     by_cases d4:(sl.length:Int)=0
     ·have ac:((sl.length:Int)=0)=True:=eq_true d4
      by_cases d5:(ch.length:Int)=0
      ·have ab:((ch.length:Int)=0)=True:=eq_true d5;simp only [seval,go_sem,w6,w0,w1,w2,w3,w4,w5,xo,ao,co,hS,D,E,z,U,k5,k2,Y,Z,y6,y0,y1,y2,y3,y4,y5,v1,v2,v3,v4,v5,aa,I,O,ac,ab];exact ⟨⟨_,rfl⟩,fin P0⟩
      ·have ab:((ch.length:Int)=0)=False:=eq_false d5;simp only [seval,go_sem,w6,w0,w1,w2,w3,w4,w5,xo,ao,co,hS,D,E,z,U,k5,k2,Y,Z,y6,y0,y1,y2,y3,y4,y5,v1,v2,v3,v4,v5,aa,I,O,ac,ab];exact ⟨⟨_,rfl⟩,fin P0⟩
     ·have ac:((sl.length:Int)=0)=False:=eq_false d4;simp only [seval,go_sem,w6,w0,w1,w2,w3,w4,w5,xo,ao,co,hS,D,E,z,U,k5,k2,Y,Z,y6,y0,y1,y2,y3,y4,y5,v1,v2,v3,v4,v5,aa,I,O,ac];exact ⟨⟨_,rfl⟩,fin P0⟩
    ·have O:(tx=[])=False:=eq_false d3;simp only [seval,go_sem,w6,w0,w1,w2,w3,w4,w5,xo,ao,co,hS,D,E,z,U,k5,k2,Y,Z,y6,y0,y1,y2,y3,y4,y5,v1,v2,v3,v4,v5,aa,I,O];exact ⟨⟨_,rfl⟩,fin P0⟩
   ·have I:(ky=[])=False:=eq_false d2;simp only [seval,go_sem,w6,w0,w1,w2,w3,w4,w5,xo,ao,co,hS,D,E,z,U,k5,k2,Y,Z,y6,y0,y1,y2,y3,y4,y5,v1,v2,v3,v4,v5,aa,I];exact ⟨⟨_,rfl⟩,fin P0⟩
  ·have aa:(tg=[])=False:=eq_false d1;simp only [seval,go_sem,w6,w0,w1,w2,w3,w4,w5,xo,ao,co,hS,D,E,z,U,k5,k2,Y,Z,y6,y0,y1,y2,y3,y4,y5,v1,v2,v3,v4,v5,aa];exact ⟨⟨_,rfl⟩,fin P0⟩
 by_cases kk4:kd=4
 ·have U:((kd:Int)=1)=False:=eq_false tM;have k5:((kd:Int)=5)=False:=eq_false tM;have k2:((kd:Int)=2)=False:=eq_false tM;have Y:((kd:Int)=3)=False:=eq_false tM;have Z:((kd:Int)=4)=True:=eq_true tM
  by_cases d1:tg=[]
  ·have aa:(tg=[])=True:=eq_true d1
   by_cases d2:ky=[]
   ·have I:(ky=[])=True:=eq_true d2
    by_cases d3:tx=[]
    ·have O:(tx=[])=True:=eq_true d3
     by_cases d4:(sl.length:Int)=0
     ·have ac:((sl.length:Int)=0)=True:=eq_true d4
      by_cases d5:(ch.length:Int)=0
      ·have ab:((ch.length:Int)=0)=True:=eq_true d5;simp only [seval,go_sem,w6,w0,w1,w2,w3,w4,w5,xo,ao,co,hS,D,E,z,U,k5,k2,Y,Z,y6,y0,y1,y2,y3,y4,y5,v1,v2,v3,v4,v5,aa,I,O,ac,ab];exact ⟨⟨_,rfl⟩,fin P0⟩
      ·have ab:((ch.length:Int)=0)=False:=eq_false d5;simp only [seval,go_sem,w6,w0,w1,w2,w3,w4,w5,xo,ao,co,hS,D,E,z,U,k5,k2,Y,Z,y6,y0,y1,y2,y3,y4,y5,v1,v2,v3,v4,v5,aa,I,O,ac,ab];exact ⟨⟨_,rfl⟩,fin P0⟩
     ·have ac:((sl.length:Int)=0)=False:=eq_false d4;simp only [seval,go_sem,w6,w0,w1,w2,w3,w4,w5,xo,ao,co,hS,D,E,z,U,k5,k2,Y,Z,y6,y0,y1,y2,y3,y4,y5,v1,v2,v3,v4,v5,aa,I,O,ac];exact ⟨⟨_,rfl⟩,fin P0⟩
    ·have O:(tx=[])=False:=eq_false d3;simp only [seval,go_sem,w6,w0,w1,w2,w3,w4,w5,xo,ao,co,hS,D,E,z,U,k5,k2,Y,Z,y6,y0,y1,y2,y3,y4,y5,v1,v2,v3,v4,v5,aa,I,O];exact ⟨⟨_,rfl⟩,fin P0⟩
   ·have I:(ky=[])=False:=eq_false d2;simp only [seval,go_sem,w6,w0,w1,w2,w3,w4,w5,xo,ao,co,hS,D,E,z,U,k5,k2,Y,Z,y6,y0,y1,y2,y3,y4,y5,v1,v2,v3,v4,v5,aa,I];exact ⟨⟨_,rfl⟩,fin P0⟩
  ·have aa:(tg=[])=False:=eq_false d1;simp only [seval,go_sem,w6,w0,w1,w2,w3,w4,w5,xo,ao,co,hS,D,E,z,U,k5,k2,Y,Z,y6,y0,y1,y2,y3,y4,y5,v1,v2,v3,v4,v5,aa];exact ⟨⟨_,rfl⟩,fin P0⟩
 have U:((kd:Int)=1)=False:=eq_false tM;have k5:((kd:Int)=5)=False:=eq_false tM;have k2:((kd:Int)=2)=False:=eq_false tM;have Y:((kd:Int)=3)=False:=eq_false tM;have Z:((kd:Int)=4)=False:=eq_false tM;simp only [seval,go_sem,w6,w0,w1,w2,w3,w4,w5,xo,ao,co,hS,D,E,z,U,k5,k2,Y,Z,y6,y0,y1,y2,y3,y4,y5,gS];exact ⟨⟨_,rfl⟩,fin P0⟩
end
section
variable {h h':H} {G G':Fz} {d b L p q:Nat} {m:D.M} {sl:List Sl} {k k1 k2:Hd}
structure Cn (h:H) (G:Fz) (qc qf qe c:Nat):Prop where
 s:St h G
 gc:h.m.get qc=some (cQ [iQ wQ (c:Int)] 3)
 gf:h.m.get qf=some (cQ [.fn (.func 116) [] []] 200)
 ge:h.m.get qe=some (cQ [.fn (.func 174) [] [jQ qc 0,jQ qf 0,jQ qe 0]] 256)
 nc:G qc=none
 ne:qf≠qc∧qe≠qc
theorem Cn.set {z I E c c':Nat} (C:Cn h G z I E c):Stp (fun i=>i=z) h G (h.at z (cQ [iQ wQ (c':Int)] 3)) G∧Cn (h.at z (cQ [iQ wQ (c':Int)] 3)) G z I E c':=by
 have D:Stp (fun i=>i=z) h G (h.at z (cQ [iQ wQ (c':Int)] 3)) G:=(Stp.refl C.s).at' rfl C.gc C.nc;exact ⟨D,D.st,Ap,(An C.ne.1).trans C.gf,(An C.ne.2).trans C.ge,C.nc,C.ne⟩
theorem Cn.mv {z E D c:Nat} {h':H} (C:Cn h G z E D c) (p:Gro h G h'):Cn h' G z E D c :=
 ⟨p.st,p.gt C.s.1 C.gc (fun h=>h),p.gt C.s.1 C.gf (fun h=>h),p.gt C.s.1 C.ge (fun h=>h),C.nc,C.ne⟩
theorem Cn.rc {z E D c:Nat} (C:Cn h G z E D c):h.read z 0 1=some [iQ wQ (c:Int)]:=(Ab C.gc).trans rfl
theorem Cn.rf {D z E c:Nat} (C:Cn h G D z E c):h.read z 0 1=some [.fn (.func 116) [] []]:=(Ab C.gf).trans rfl
theorem Cn.re {D E z c:Nat} (C:Cn h G D E z c):h.read z 0 1=some [.fn (.func 174) [] [jQ D 0,jQ E 0,jQ z 0]]:=(Ab C.ge).trans rfl
theorem e116 {v:AV}:FW ctx 116 [v] h=some (.tup [],h):=by
 have x:Ans ctx 116 [v] h fun w h'=>w=.tup []∧h' = h:=by
  refine aO Tryz.f116 ?_;simp only [Tryz.f116];simp only [seval,go_sem]
 obtain ⟨_,_,e,rfl,rfl⟩:=x;exact e
mutual
theorem e174 {qc qf qe:Nat}:∀ (p:PT) {X:List AV} {b o lv c:Nat} {h:H},Cn h G qc qf qe c→G.read b o 6=some X→RP G p X→okP p=true→lv≤7→c≤64 →
  Ans ctx 174 [jQ b o,iQ wQ (lv:Int),jQ qc 0,jQ qf 0,jQ qe 0] h fun v h'=>(∃ b:Bool,v=bQ b∧∃ c',Cn h' G qc qf qe c'∧(b=true→c'≤64))∧Stp (fun i=>i=qc) h G h' G
 | .nd kd tg ky tx sl ch,X,b,o,lv,c,h,C,hg,hr,hok,hlv,hc=>by
  refine aO Tryz.f174 ?_;simp only [Tryz.f174];have w1:=wI c;obtain ⟨p2,C2⟩:=C.set (c':=c+1);have c1:decide ((6:Int) < (lv:Int)) = !decide (lv≤6):=by rw [← decide_not];exact decide_eq_decide.2 tM
  have c2:decide ((64:Int) < ((c+1:Nat):Int)) = !decide (c≤63):=by rw [← decide_not];exact decide_eq_decide.2 tM
  have hal:=Ayn C2.s hg hr hok;generalize hx:Blk.cells [AV.int wQ ((c+1:Nat):Int)] 3=bx at *;cases d1:decide (lv≤6)
  ·simp only [seval,go_sem,C.rc,Nq C.gc,w1,hx,C2.rc,c1,c2,d1];exact ⟨⟨_,rfl,_,C2,fun h=>by cases h⟩,p2⟩
  cases d2:decide (c≤63)
  ·simp only [seval,go_sem,C.rc,Nq C.gc,w1,hx,C2.rc,c1,c2,d1,d2];exact ⟨⟨_,rfl,_,C2,fun h=>by cases h⟩,p2⟩
  simp only [seval,go_sem,C.rc,Nq C.gc,w1,hx,C2.rc,c1,c2,d1,d2];refine Ae hal fun v h3 ⟨⟨bb,hv⟩,p3⟩=>?_;subst hv;have C3:=C2.mv p3;have p3:=p2.in p3 (fun _ _ h=>h.elim);cases bb
  ·simp only [seval,go_sem];exact ⟨⟨_,rfl,_,C3,fun h=>by cases h⟩,p3⟩
  obtain ⟨a,cv,cc,rfl,ha,hc2,hrs⟩:=hr;have h5:h3.read b (o+5) 1=some [cv]:=Gl (C3.s.read hg) (j:=5) rfl;simp only [seval,go_sem,C3.rf,Bv,e116,h5,hc2.len];have hc63:=of_decide_eq_true d2;refine Ao (fun i e h'=>(∃ c',Cn h' G qc qf qe c'∧c'≤64)∧Stp (fun i=>i=qc) h G h' G∧i≤ch.length∧e.get 0=some (jQ b o)∧e.get 1=some (iQ wQ lv)∧e.get 4=some (jQ qe 0)∧e.get 29=some (iQ wQ ch.length)∧e.get 30=some (iQ wQ i)) (fun i=>ch.length - i) 0 ⟨⟨_,C3,tM⟩,p3,Nat.zero_le _,by simp [Tr.get_set]⟩ ?_;have hlv6:=of_decide_eq_true d1;rw [okP] at hok;simp only [Bool.and_eq_true,decide_eq_true_eq] at hok;obtain ⟨_,_,_,h11,hoks⟩:=hok;clear C2 hal h5 p2 p3 C3 d1 d2;rintro i e h' ⟨⟨c',C',hc'⟩,p,hi,e0,e1,e4,e29,e30⟩ ih;simp only [seval,go_sem,e0,e1,e4,e29,e30];refine Cr (fun hc1=>?_) (fun hc1=>?_)
  ·have hc1:i < ch.length:=by simpa using hc1
   have h5:h'.read b (o+5) 1=some [cv]:=Gl (C'.s.read hg) (j:=5) rfl;obtain ⟨cb,co,x,g1,g2,g3⟩:=hc2.part C'.s hrs hc1;have w2:=wI i;have w3:=wI lv;obtain ⟨_,h4,q1,⟨ub,rfl,c4,C4,hb4⟩,p4⟩:=e174s ch (j:=i) hc1 (C'.mv ((Stp.refl C'.s).up (n:=11))) g2 g3 hoks (lv:=lv+1) tM hc';have p4:=(p.up (n:=11)).in p4 (fun _ _ h=>h);simp only [seval,go_sem,e0,e1,e4,e29,e30,h5,g1,w2,w3,C'.re,q1];cases ub
   ·simp only [seval,go_sem];exact ⟨⟨_,rfl,_,C4,fun h=>by cases h⟩,p4⟩
   ·simp only [seval,go_sem,e0,e1,e4,e29,e30,w2];exact ih (i+1) _ _ tM ⟨⟨c4,C4,hb4 rfl⟩,p4,hc1,by simp [Tr.get_set,e0,e1,e4,e29]⟩
  ·simp only [seval,go_sem];exact ⟨⟨_,rfl,_,C',fun _=>hc'⟩,p⟩
theorem e174s {qc qf qe:Nat}:∀ (l:List PT) {j:Nat} (hj:j < l.length) {X:List AV} {b o lv c:Nat} {h:H},Cn h G qc qf qe c→G.read b o 6=some X→RP G l[j] X→okPs l=true→lv≤7→c≤64 →
  Ans ctx 174 [jQ b o,iQ wQ (lv:Int),jQ qc 0,jQ qf 0,jQ qe 0] h fun v h'=>(∃ b:Bool,v=bQ b∧∃ c',Cn h' G qc qf qe c'∧(b=true→c'≤64))∧Stp (fun i=>i=qc) h G h' G
 | t::l,0,_,X,b,o,lv,c,h,C,hg,hr,hok,hlv,hc=>e174 t C hg hr (by rw [okPs,Bool.and_eq_true] at hok;exact hok.1) hlv hc
 | t::l,j+1,hj,X,b,o,lv,c,h,C,hg,hr,hok,hlv,hc=>e174s l (by simpa using hj) C hg hr (by rw [okPs,Bool.and_eq_true] at hok;exact hok.2) hlv hc
end
theorem walk115 {b o:Nat} {p:PT} {X:List AV} (D:St h G) (O:G.read b o 6=some X) (U:RP G p X) (E:okP p=true):Ans ctx 115 [jQ b o,.fn (.func 116) [] []] h fun v h'=>(∃ n:Int,v=iQ wQ n)∧Gro h G h':=by
 refine aO Tryz.f115 ?_;simp only [Tryz.f115];have I:=U;obtain ⟨kd,tg,ky,tx,sl,ch⟩:=p;obtain ⟨a,cv,cc,rfl,ha,aa,ab⟩:=I;have J:Gro h G (h.new (cQ [.fn (.func 116) [] []] 200)):=(Stp.refl D).new;have w0:(h.new (cQ [.fn (.func 116) [] []] 200)).read b o 1=some [iQ vQ (kd:Int)]:=Gl (J.st.read O) (j:=0) rfl
 by_cases hk:(kd:Int)=1
 ·have z:((kd:Int)=1)=True:=eq_true hk;simp only [seval,go_sem,w0,z];generalize hS:(H.at _ _ _)=S;have Z:Gro h G S:=by
   subst hS;exact (((((J.new).at (Or.inl tM) (by simp only [Ac];omega) (D.none tM)).new).at (Or.inl tM) (by simp only [Ac,Ag];omega) (D.none tM)))
  have C:Cn S G (h.nx+1) h.nx (h.nx+2) 0:=by
   refine ⟨Z.st,?_,?_,?_,D.none tM,tM⟩
   ·subst hS;simp (disch:=first | omega | (simp only [Ac,Ag,Ai] <;> omega) | fail) only [Bh,Ca,Cd,Bb,Az];rfl
   ·subst hS;exact gL
   ·subst hS;exact gL
  refine Ae (e174 _ C O U E (lv:=1) tM tM) fun _ h4 ⟨⟨ub,eu,c4,C4,_⟩,p4⟩=>?_;subst eu;have Y:Gro h G h4:=Z.in p4 (fun i hi hh=>by omega);cases ub
  ·simp only [seval,go_sem];exact ⟨⟨_,rfl⟩,Y⟩
  ·simp only [seval,go_sem,C4.rc];exact ⟨⟨_,rfl⟩,Y⟩
 ·have z:((kd:Int)=1)=False:=eq_false hk;simp only [seval,go_sem,w0,z];exact ⟨⟨_,rfl⟩,J⟩
theorem count48 {p:PT} {X:List AV} (E:St h G) (D:RP G p X) (z:okP p=true):Ans ctx 48 [gQ X] h fun v h'=>(∃ n:Int,v=iQ wQ n)∧Gro h G h':=by
 refine aO Tryz.f48 ?_;simp only [Tryz.f48];have xo:=D.one;have Z:=D.len;simp only [seval,go_sem];have U:Gro h G (h.new (cQ X 31)):=(Stp.refl E).new;have I:=(U.frz (i:=h.nx) (Nat.le_refl _) Au);have O:(G.add h.nx (cQ X 31)).read h.nx 0 6=some X:=by rw [Fz.rd_b Fz.add_at,← Z];exact Aj
 refine Ae (walk115 I.st O (D.mono (Fz.add_le (E.none (Nat.le_refl _)))) z) fun _ h2 ⟨⟨n,J⟩,Y⟩=>?_;subst J;simp only [seval,go_sem];exact ⟨⟨_,rfl⟩,(I.trans Y).less E⟩
theorem check17 {p:PT} {X:List AV} (U:St h G) (E:RP G p X) (D:okP p=true):Ans ctx 17 [gQ X] h fun v h'=>(v=iQ wQ 0∨v=iQ wQ 14)∧Gro h G h':=by
 refine aO Tryz.f17 ?_;simp only [Tryz.f17];have xo:=E.one;have Z:=E.len;have Y:Aq 0 6 X=some X:=by rw [← Z];exact Aj
 have I:Gro h G (h.new (cQ X 31)):=(Stp.refl U).new;simp only [seval,go_sem,Y];refine Ae (count48 I.st E D) fun _ h2 ⟨⟨n,O⟩,J⟩=>?_;subst O
 by_cases hn:n=0
 ·have z:(n=0)=True:=eq_true hn;simp only [seval,go_sem,z];exact ⟨Or.inr trivial,I.trans J⟩
 ·have z:(n=0)=False:=eq_false hn;simp only [seval,go_sem,z];exact ⟨Or.inl trivial,I.trans J⟩
end
section
variable {h h':H} {G G':Fz} {d b L p q:Nat} {m:D.M} {sl:List Sl} {k k1 k2:Hd}
structure IT where
 key:Nat
 ty:Nat
 text:Str
 marks:List Str
def okI (x:IT):Prop:=x.key < 100000∧x.marks.length≤4
def I0 (l:List Str):List AV:=l.map AV.str
def RI (G:Fz) (x:IT) (X:List AV):Prop:=∃ v,X=[iQ .u64 (x.key:Int),iQ vQ (x.ty:Int),sQ x.text,v]∧Arr G 1 v x.marks.length (I0 x.marks)
theorem RI.mono {G G':Fz} (g:Fz.Le G G') {x:IT} {X:List AV}:RI G x X→RI G' x X:=fun ⟨v,e,a⟩=>⟨v,e,a.mono g⟩
theorem RI.one {x:IT} {X:List AV} (r:RI G x X):Af X=true:=by
 obtain ⟨v,rfl,a⟩:=r;simp only [R0,Sc,Sb,a.one,Abj,Bool.and_self]
theorem RI.len {x:IT} {X:List AV} (r:RI G x X):X.length=4:=by
 obtain ⟨v,rfl,a⟩:=r;rfl
theorem Arr.str {h:H} (s:St h G) {l:List Str} {v:AV} {j:Nat} (a:Arr G 1 v l.length (I0 l)) (E:j < l.length):∃ b o,ixA 1 j v=some (jQ b (o+j))∧G.read b (o+j) 1=some [sQ l[j]]:=by
 obtain ⟨b,o,D,z⟩:=a.el s E;rw [Nat.mul_one] at D z;refine ⟨b,o,D,?_⟩;unfold I0 at z;rw [Fz.cut z tM,← List.map_drop,List.drop_eq_getElem_cons E];rfl
theorem e51 {s:Str} (E:St h G):Ans ctx 51 [sQ s] h fun v h'=>(∃ b:Bool,v=bQ b)∧Gro h G h':=by
 refine aO Tryz.f51 ?_;simp only [Tryz.f51];simp only [seval,go_sem];refine Ae (Ko E) fun _ I ⟨⟨b,z⟩,D⟩=>?_;subst z;simp only [seval,go_sem];exact ⟨⟨_,rfl⟩,D⟩
theorem e117 {v:AV} {l:List Str} (st:St h G) (a:Arr G 1 v l.length (I0 l)) (hl:l.length≤1000):Ans ctx 117 [v,.fn (.func 51) [] []] h fun v h'=>(∃ n:Int,v=iQ wQ n)∧Gro h G h':=by
 refine aO Tryz.f117 ?_;simp only [Tryz.f117];have U:=a.len;simp only [seval,go_sem,U];refine Ao (fun i e h'=>Gro h G h'∧i≤l.length∧e.get 0=some v∧e.get 1=some (.fn (.func 51) [] [])∧e.get 4=some (iQ wQ 0)∧e.get 7=some (iQ wQ l.length)∧e.get 8=some (iQ wQ i)) (fun i=>l.length - i) 0 ?_ ?_
 ·exact ⟨Stp.refl st,Nat.zero_le _,by simp [Tr.get_set]⟩
 rintro i e h2 ⟨D,hi,E,I,e4,J,O⟩ lp;simp only [seval,go_sem,E,I,e4,J,O];refine Cr (fun z=>?_) (fun z=>?_)
 ·have z:i < l.length:=by simpa using z
  have w:=wI i;obtain ⟨b,o,g1,g2⟩:=a.str D.st z;simp only [seval,go_sem,E,I,e4,J,O,g1,D.st.read g2,Bv];refine Ae (e51 D.st) fun _ h3 ⟨⟨b,Z⟩,Y⟩=>?_;subst Z;cases b
  ·simp only [seval,go_sem,E,I,e4,J,O,w];exact lp (i+1) _ _ tM ⟨D.trans Y,z,by simp [Tr.get_set,E,I,e4,J]⟩
  ·simp only [seval,go_sem,E,I,e4,J,O,w];exact ⟨⟨_,rfl⟩,D.trans Y⟩
 ·simp only [seval,go_sem];exact ⟨⟨_,rfl⟩,D⟩
theorem has50 {v:AV} {l:List Str} (I:St h G) (a:Arr G 1 v l.length (I0 l)) (D:l.length≤1000):Ans ctx 50 [v,.fn (.func 51) [] []] h fun v h'=>(∃ b:Bool,v=bQ b)∧Gro h G h':=by
 refine aO Tryz.f50 ?_;simp only [Tryz.f50];simp only [seval,go_sem];refine Ae (e117 I a D) fun _ J ⟨⟨n,z⟩,E⟩=>?_;subst z;simp only [seval,go_sem];exact ⟨⟨_,rfl⟩,E⟩
theorem check18 {x:IT} {X:List AV} (st:St h G) (Z:RI G x X) (E:okI x):Ans ctx 18 [gQ X] h fun v h'=>(v=iQ wQ 0∨v=iQ wQ 6)∧Gro h G h':=by
 have U:=Z.one;obtain ⟨v,rfl,a⟩:=Z;have D:=a.len;refine aO Tryz.f18 ?_;simp only [Tryz.f18];have I:Gro h G (h.new (cQ [iQ .u64 (x.key:Int),iQ vQ (x.ty:Int),sQ x.text,v] 43)):=(Stp.refl st).new;have J:=a.one;have g1:(h.new (cQ [iQ .u64 (x.key:Int),iQ vQ (x.ty:Int),sQ x.text,v] 43)).m.get h.nx=some (cQ [iQ .u64 (x.key:Int),iQ vQ (x.ty:Int),sQ x.text,v] 43):=Au;have rv:∀ {g:H},g.m.get h.nx=some (cQ [iQ .u64 (x.key:Int),iQ vQ (x.ty:Int),sQ x.text,v] 43)→g.read h.nx 3 1=some [v]:=fun e=>(Ab e).trans rfl
 by_cases hk:(x.key:Int)=0
 ·have z:((x.key:Int)=0)=True:=eq_true hk;simp only [seval,go_sem,U,z,J];exact ⟨Or.inr trivial,I⟩
 ·have z:((x.key:Int)=0)=False:=eq_false hk;simp only [seval,go_sem,U,z,J];refine Ae (Vn I.st) fun _ h2 ⟨⟨b,e2⟩,O⟩=>?_;subst e2;have g2:=O.gt I.st.1 g1 (fun h=>h);have r2:=rv g2;have Y:((8:Int) < (x.marks.length:Int))=False:=eq_false (by have:=E.2;omega);cases b
  ·simp only [seval,go_sem,U,J,r2,D,Y];exact ⟨Or.inr trivial,I.trans O⟩
  ·simp only [seval,go_sem,U,J,r2,D,Y];refine Ae (has50 O.st a (by have:=E.2;omega)) fun _ h3 ⟨⟨b,e3⟩,p3⟩=>?_;subst e3;have P:=(I.trans O).trans p3;cases b
   ·simp only [seval,go_sem];exact ⟨Or.inl trivial,P⟩
   ·simp only [seval,go_sem];exact ⟨Or.inr trivial,P⟩
def u8C (l:List UInt8):List AV:=l.map fun b=>AV.int vQ (b.toNat:Int)
theorem Afc:∀ l:List UInt8,I1 (u8C l)=some l
 | []=>rfl
 | b::l=>by
  have ih:=Afc l;unfold u8C at ih ⊢;rw [List.map_cons];show I1 (iQ vQ (Int.ofNat b.toNat)::_)=_;unfold I1;rw [Nat.ble_eq_true_of_le (show b.toNat≤255 by have:=b.toNat_lt;omega),ih];simp
theorem Afd:∀ {l:List UInt8} {i:Nat} {b:UInt8},i < l.length→Dt i [iQ vQ (b.toNat:Int)] (u8C l)=some (u8C (l.set i b))
 | x::l,0,b,_=>rfl
 | x::l,i+1,b,h=>by
  show Dq (some _) (Dt i [iQ vQ (b.toNat:Int)] (u8C l))=_;rw [Afd (by simpa using h)];rfl
theorem u8C_rd {l:List UInt8} {i:Nat} (h:i≤l.length):Aq i (l.length - i) (u8C l)=some (u8C (l.drop i)):=by
 have z:(u8C l).length=l.length:=by unfold u8C;simp
 rw [Bw,if_pos tM,List.take_of_length_le (by rw [List.length_drop];omega)];unfold u8C;rw [List.map_drop]
theorem u8T5:u8T ctx 5=true:=kR
theorem Ars {i j:Nat} {g:H} (z:j < 20):Al ctx g 204 (jQ i 0) (some j) none none=some (some (.sl i j (20 - j) (20 - j)),g):=by
 unfold Al;simp only [Aqw,s5,Lt,Bs,Br,F8,Option.getD];simp only [show (0 < 1)=True from eq_true tM,decide_true,Nat.le_refl,Bool.and_true,decide_eq_true (show j≤20 by omega),val,G7];cases hb:Nat.beq 20 j with
 | true=>exact absurd (Nat.eq_of_beq_eq_true hb) tM
 | false=>simp
theorem conv22 {i o n c:Nat} {g:H} {cs:List AV} {s:Str} (z:g.read i o n=some cs) (hs:I1 cs=some s):Abd ctx g 22 (.sl i o n c)=some (some (sQ s),g):=by
 unfold Abd;rw [u22];simp only [u8T5,z,hs,strR]
theorem N8 {n:Nat} (st:St h G) (hn:n < 100000):Ans ctx 55 [iQ .u64 (n:Int)] h fun v h'=>(∃ s:Str,v=sQ s)∧Gro h G h':=by
 refine aO Tryz.f55 ?_;simp only [Tryz.f55];simp only [seval,go_sem];refine Ao (fun i e h'=>(∃ m:Nat,m < 10 ^ i∧e.get 0=some (iQ .u64 (m:Int)))∧(∃ l,h'.m.get h.nx=some (cQ (u8C l) 204)∧l.length=20)∧Gro h G h'∧1≤i∧i≤5∧e.get 3=some (jQ h.nx 0)∧e.get 4=some (iQ wQ (15+i:Nat))) (fun i=>i) 5 ?_ ?_
 ·exact ⟨⟨n,hn,by simp [Tr.get_set]⟩,⟨List.replicate 20 0,Au,rfl⟩,(Stp.refl st).new,tM,tM,by simp [Tr.get_set],by simp [Tr.get_set]⟩
 rintro i e D ⟨⟨m,hm,U⟩,⟨l,Z,hl⟩,p2,ab,J,E,e4⟩ lp;have w4:IntKind.i64.wrap (((15+i:Nat):Int) - 1)=((14+i:Nat):Int):=by rw [show ((15+i:Nat):Int) - 1=((14+i:Nat):Int) by omega];exact Bz tM
 have em:(m:Int).tmod 10=((m % 10:Nat):Int):=rfl;have eq:(m:Int).tdiv 10=((m / 10:Nat):Int):=rfl;have ae:m < 100000:=Nat.lt_of_lt_of_le hm (Nat.pow_le_pow_right tM J);have wq:IntKind.u64.wrap ((m / 10:Nat):Int)=((m / 10:Nat):Int):=Ll tM;have hk:m % 10 < 10:=Nat.mod_lt _ tM;obtain ⟨c,hc⟩:∃ c,([48,49,50,51,52,53,54,55,56,57]:List UInt8)[m % 10]?=some c:=⟨_,List.getElem?_eq_getElem hk⟩;have aa:chr [48,49,50,51,52,53,54,55,56,57] (m % 10)=some (iQ vQ (c.toNat:Int)):=by unfold chr;rw [hc]
 have ix:(14+i) < 20:=tM;have hp:=Afd (l:=l) (i:=14+i) (b:=c) tM;have pS:Gro h G (D.at h.nx (cQ (u8C (l.set (14+i) c)) 204)):=p2.at (Or.inl (Nat.le_refl _)) (Ah p2.st.1 Z) (st.none (Nat.le_refl _));have Y:(D.at h.nx (cQ (u8C (l.set (14+i) c)) 204)).m.get h.nx=some (cQ (u8C (l.set (14+i) c)) 204):=Ap;simp only [seval,go_sem,U,E,e4,w4,em,eq,wq,hc,Z,hp,ix];refine Cr (fun z=>?_) (fun z=>?_)
 ·have rS:(D.at h.nx (cQ (u8C (l.set (14+i) c)) 204)).read h.nx (14+i) (20 - (14+i))=some (u8C ((l.set (14+i) c).drop (14+i))):=by
   rw [Ab Y];have:=u8C_rd (l:=l.set (14+i) c) (i:=14+i) (by rw [List.length_set];omega);rw [List.length_set,hl] at this;exact this
  have ss:=Afc ((l.set (14+i) c).drop (14+i));have b1:(20=14+i)=False:=eq_false tM;have b2:(14+i≤20)=True:=eq_true tM;generalize hSS:(D.at h.nx (cQ (u8C (l.set (14+i) c)) 204))=S at *;have O:=Ars (i:=h.nx) (g:=S) ix;have I:=conv22 (c:=20 - (14+i)) rS ss;simp only [seval,go_sem,U,E,e4,w4,b1,b2,O,I];exact ⟨⟨_,rfl⟩,pS⟩
 ·have z:m / 10≠0:=fun hh=>by rw [hh] at z;cases z
  have ac:2≤i:=by
   rcases Nat.lt_or_ge i 2 with h9 | h9
   ·have:i=1:=tM;subst this;omega
   ·exact h9
  simp only [seval,go_sem];refine lp (i - 1) _ _ tM ⟨⟨m / 10,?_,by simp [Tr.get_set]⟩,⟨l.set (14+i) c,Y,by rw [List.length_set];exact hl⟩,pS,tM,tM,by simp [Tr.get_set,E],?_⟩
  ·rw [show 10 ^ i=10 ^ (i - 1) * 10 by rw [← Nat.pow_succ];congr 1;omega] at hm;omega
  ·simp only [Tr.get_set,Option.some.injEq];simp;omega
end
section
variable {h h':H} {G G':Fz} {d b L p q:Nat} {m:D.M} {sl:List Sl} {k k1 k2:Hd}
theorem Ry {a b:Str}:∀ {l:Als} {i:Nat},i < l.length→Dt (i * 2) [sQ a,sQ b] (Ax l)=some (Ax (l.set i (a,b)))
 | (c,d)::l,0,_=>rfl
 | (c,d)::l,i+1,h=>by
  rw [show (i+1) * 2=i * 2+1+1 by omega];show Dq (some _) (Dq (some _) (Dt (i * 2) [sQ a,sQ b] (Ax l)))=_;rw [Ry (by simpa using h)];rfl
theorem Abh:∀ n:Nat,rep [AV.str [],sQ []] n=Ax (List.replicate n ([],[]))
 | 0=>rfl
 | n+1=>by
  rw [List.replicate_succ,Ax,← Abh n];rfl
theorem ob258 {e:Env} {ps:List (Nat × Operand)}:Dn ctx e h 258 ps=match evp e ps with
  | some vs=>aggR h (lay (fun i=>some (i,1)) [sQ [],sQ [],sQ [],sQ []] vs)
  | none=>none:=by
 unfold Dn;rw [Apz,Aqt];cases evp e ps with
 | none=>rfl
 | some vs=>simp only [s9,Nat.mul_one];rfl
def IB (h:H) (q t:Nat) (x:IT) (mv:AV):Prop:=h.m.get q=some (cQ [iQ .u64 (x.key:Int),iQ vQ (x.ty:Int),sQ x.text,mv] t)
theorem IB.r {q t:Nat} {x:IT} {mv:AV} (b:IB h q t x mv):h.read q 2 1=some [sQ x.text]∧h.read q 0 1=some [iQ .u64 (x.key:Int)]∧h.read q 3 1=some [mv]∧h.read q 0 4=some [iQ .u64 (x.key:Int),iQ vQ (x.ty:Int),sQ x.text,mv]:=⟨(Ab b).trans rfl,(Ab b).trans rfl,(Ab b).trans rfl,(Ab b).trans rfl⟩
theorem Ayf {x:IT} {X:List AV} {v:AV} {sl:List (Str × Nat × Str)} (st:St h G) (hr:RI G x X) (ok:okI x) (a:Arr G 3 v sl.length (Dl sl)) (hn:sl.length≤3) (h3:∀ s,s∈sl→s.2.1≤3) :
  Ans ctx 118 [gQ X,v] h fun w h'=>∃ G' al,Stp (fun _=>False) h G h' G'∧Arr G' 2 w al.length (Ax al)∧al.length=sl.length:=by
 obtain ⟨mv,rfl,am⟩:=hr;have mo:=am.one;have ml:=am.len;have ai:=a.len;refine aO Tryz.f118 ?_;simp only [Tryz.f118];have c1:decide (bytes ctx 112 * sl.length≤281474976710656)=true:=decide_eq_true (by rw [Ajg];omega);have c2:decide (sl.length≤9223372036854775807)=true:=decide_eq_true tM;simp only [seval,go_sem,mo,ai,c1,c2];have p0:Gro h G ((h.new (cQ [iQ .u64 (x.key:Int),iQ vQ (x.ty:Int),sQ x.text,mv] 70)).new (cQ (rep [sQ [],sQ []] sl.length) 112)):=(Stp.refl st).new.new;refine Ao (fun i e h'=>(∃ al,h'.m.get (h.nx+1)=some (cQ (Ax al) 112)∧al.length=sl.length)∧IB h' h.nx 70 x mv∧Gro h G h'∧i≤sl.length∧e.get 2=some (jQ h.nx 0)∧e.get 5=some (.sl (h.nx+1) 0 sl.length sl.length)∧e.get 11=some v∧e.get 12=some (iQ wQ sl.length)∧e.get 13=some (iQ wQ i)) (fun i=>sl.length - i) 0 ?_ ?_
 ·refine ⟨⟨List.replicate sl.length ([],[]),?_,by simp⟩,?_,p0,Nat.zero_le _,by simp [Tr.get_set]⟩
  ·rw [← Abh];exact gL
  ·unfold IB;exact gL
 rintro i e D ⟨⟨al,gA,hA⟩,B,E,hi,e2,e5,J,O,Y⟩ lp;simp only [seval,go_sem,J,O,Y];refine Cr (fun z=>?_) (fun z=>?_)
 ·have z:i < sl.length:=by simpa using z
  have w:=wI i;obtain ⟨cb,co,ae,Z⟩:=a.slot E.st z;have hf:=h3 _ (List.getElem_mem z);generalize sl[i]=s at Z hf;obtain ⟨nm,f,U⟩:=s;have hf:f≤3:=hf;have pS:Gro D G ((D.new (cQ [sQ [],iQ vQ 0,sQ []] 130)).at D.nx (cQ [sQ nm,iQ vQ (f:Int),sQ U] 130)):=(Stp.refl E.st).new.at (Or.inl (Nat.le_refl _)) (by simp only [Ac];omega) (E.st.none (Nat.le_refl _));have gS:((D.new (cQ [sQ [],iQ vQ 0,sQ []] 130)).at D.nx (cQ [sQ nm,iQ vQ (f:Int),sQ U] 130)).m.get D.nx=some (cQ [sQ nm,iQ vQ (f:Int),sQ U] 130):=Ap;generalize hS:((D.new (cQ [sQ [],iQ vQ 0,sQ []] 130)).at D.nx (cQ [sQ nm,iQ vQ (f:Int),sQ U] 130))=S at pS gS;have pU:Gro S G (S.up 26):=(Stp.refl pS.st).up;obtain ⟨_,h4,q4,⟨s1,rfl⟩,I⟩:=N8 (n:=x.key) pU.st ok.1;obtain ⟨_,h5,q5,⟨s2,rfl⟩,p5⟩:=N8 (n:=x.marks.length) I.st (by have:=ok.2;omega);have rr:∀ {g:H},g.m.get D.nx=some (cQ [sQ nm,iQ vQ (f:Int),sQ U] 130)→g.read D.nx 0 1=some [sQ nm]∧g.read D.nx 1 1=some [iQ vQ (f:Int)]∧g.read D.nx 2 1=some [sQ U]:=fun e=>⟨(Ab e).trans rfl,(Ab e).trans rfl,(Ab e).trans rfl⟩;have ab:=I.gt pU.st.1 gS (fun h=>h);have ah:=p5.gt I.st.1 ab (fun h=>h);obtain ⟨x1,x2,x3⟩:=rr gS;obtain ⟨y1,y2,y3⟩:=rr ab;obtain ⟨z1,z2,z3⟩:=rr ah;have BS:IB S h.nx 70 x mv:=pS.gt (i:=h.nx) E.st.1 B (fun h=>h);have B4:IB h4 h.nx 70 x mv:=I.gt pU.st.1 BS (fun h=>h);have B5:IB h5 h.nx 70 x mv:=p5.gt I.st.1 B4 (fun h=>h);obtain ⟨i1,i2,i3,_⟩:=BS.r;obtain ⟨j1,j2,j3,_⟩:=B4.r;obtain ⟨k1,k2,k3,_⟩:=B5.r;have ag:=pS.gt E.st.1 gA (fun h=>h);have af:=I.gt pU.st.1 ag (fun h=>h);have aa:=p5.gt I.st.1 af (fun h=>h)
  have P5:=(E.trans pS).trans ((pU.trans I).trans p5);have wl:IntKind.u64.wrap (x.marks.length:Int)=(x.marks.length:Int):=Ll (by have:=ok.2;omega);obtain ⟨val,ac⟩:∃ val:Str,[AV.str U,sQ x.text,sQ s1,sQ s2][f]?=some (sQ val):=by
   rcases (by omega:f=0∨f=1∨f=2∨f=3) with rfl | rfl | rfl | rfl
   all_goals exact ⟨_,rfl⟩
  have hput:=Ry (a:=nm) (b:=val) (l:=al) (i:=i) tM;have il:i < al.length:=tM;simp only [seval,go_sem,e2,e5,J,O,Y,ae,E.st.read Z,hS,x1,x2,x3,y1,y2,y3,z1,z2,z3,i1,i2,i3,j1,j2,j3,k1,k2,k3,q4,q5,w,ml,wl,ob258,hf,ac,aa,hput,z,Ed];have nA:G (h.nx+1)=none:=st.none tM;refine lp (i+1) _ _ tM ⟨⟨_,Ap,by rw [List.length_set];exact hA⟩,?_,P5.at (Or.inl tM) (Ah P5.st.1 aa) nA,z,by simp [Tr.get_set,e2,e5,J,O]⟩;unfold IB;rw [An tM];exact B5
 ·have z:sl.length≤i:=by simpa using z
  simp only [seval,go_sem,e5];refine ⟨_,al,E.frz (i:=h.nx+1) tM gA,Or.inr ⟨h.nx+1,0,Or.inl ⟨sl.length,tM,by rw [hA]⟩,?_⟩,hA⟩;rw [Fz.rd_b Fz.add_at,Ib,← L6];exact Aj
theorem Ub {x:IT} {X Y:List AV} {cv:AV} {cc:List AV} {ky:Str} {p:PT} {l:List T} (st:St h G) (hr:RI G x X) (ok:okI x) (hp:RP G p Y) (z:okP p=true) (ac:Arr G 6 cv l.length cc) (rc:RTs G l cc) :
  Ans ctx 53 [gQ X,gQ Y,sQ ky,cv] h fun w h'=>∃ G' Z al,w=gQ Z∧Stp (fun _=>False) h G h' G'∧RT G' (.nd 1 p.tag ky [] al l) Z∧al.length=p.slots.length:=by
 have xo:=hr.one;have x4:=hr.len;have yo:=hp.one;obtain ⟨kd,tg,k0,tx,sl,ch⟩:=p;obtain ⟨a,c,ak,rfl,ha,hc,an⟩:=hp;rw [okP] at z;simp only [Bool.and_eq_true,decide_eq_true_eq,List.all_eq_true] at z;obtain ⟨ao,ae,af,aj,_⟩:=z;refine aO Tryz.f53 ?_;simp only [Tryz.f53];have pS:Gro h G (((h.new (cQ X 70)).new (cQ [iQ vQ (kd:Int),sQ tg,sQ k0,a,sQ tx,c] 31)).new (cQ [iQ vQ 0,sQ [],sQ [],(():AV),sQ [],(():AV)] 36)):=(Stp.refl st).new.new.new;generalize hS:(((h.new (cQ X 70)).new (cQ [iQ vQ (kd:Int),sQ tg,sQ k0,a,sQ tx,c] 31)).new (cQ [iQ vQ 0,sQ [],sQ [],(():AV),sQ [],(():AV)] 36))=S at pS;have gX:S.m.get h.nx=some (cQ X 70):=by rw [← hS];simp (disch:=first | omega | (simp only [Ac,Ag,Ai] <;> omega) | fail) only [Bh,Ca,Cd,Bb,Az]
 have gY:S.m.get (h.nx+1)=some (cQ [iQ vQ (kd:Int),sQ tg,sQ k0,a,sQ tx,c] 31):=by rw [← hS];simp (disch:=first | omega | (simp only [Ac,Ag,Ai] <;> omega) | fail) only [Bh,Ca,Cd,Bb,Az]
 have gZ:S.m.get (h.nx+2)=some (cQ [iQ vQ 0,sQ [],sQ [],(():AV),sQ [],(():AV)] 36):=by rw [← hS];simp (disch:=first | omega | (simp only [Ac,Ag,Ai] <;> omega) | fail) only [Bh,Ca,Cd,Bb,Az]
 have ag:Aq 0 4 X=some X:=by rw [← x4];exact Aj
 have nS:S.nx=h.nx+3:=by rw [← hS];rfl
 have rX:=fun {g:H} (e:g.m.get h.nx=some (cQ X 70))=>(Ab (o:=0) (n:=4) e).trans ag;have rY:=fun {g:H} (e:g.m.get (h.nx+1)=some (cQ [iQ vQ (kd:Int),sQ tg,sQ k0,a,sQ tx,c] 31))=>(⟨(Ab e).trans rfl,(Ab e).trans rfl⟩:g.read (h.nx+1) 1 1=some [sQ tg]∧g.read (h.nx+1) 3 1=some [a]);have E:Gro S G (S.up 11):=(Stp.refl pS.st).up;obtain ⟨_,h4,q4,G4,al,D,I,U⟩:=Ayf (v:=a) E.st hr ok ha ae af;rename_i w4;have ah:=D.le E.st;obtain ⟨v5,h5,q5,J,rfl⟩:=clip119 (h:=h4) (ac.mono ah);have aa:=D.gt E.st.1 (i:=h.nx) gX (fun h=>h);have ab:=D.gt E.st.1 (i:=h.nx+1) gY (fun h=>h);have O:=D.gt E.st.1 (i:=h.nx+2) gZ (fun h=>h);have x1:=rX gX;obtain ⟨y1,y2⟩:=rY gY;have z1:=rX aa;obtain ⟨u1,u2⟩:=rY ab;have o1:=I.one;have o2:=J.one;have o3:=ha.one;have o4:=hc.one;have am:=hS;simp only [seval,go_sem,xo,yo,x4,o3,o4,hS,x1,y1,y2,z1,u1,u2,q4,q5,o1,o2,O];have p5:Stp (fun _=>False) h G h5 G4:=(pS.trans E).trans D;have n2:G4 (h.nx+2)=none:=(D.old _ (by simp only [Ai];omega)).trans (st.none tM);have ai:=p5.le st;exact ⟨G4,_,al,rfl,p5.at (Or.inl tM) (Ah p5.st.1 O) n2,⟨w4,v5,cc,rfl,I,J,rc.mono ai⟩,U⟩
end
section
variable {h h':H} {G G':Fz} {d b L p q:Nat} {m:D.M} {sl:List Sl} {k k1 k2:Hd}
def HdP (hp:Option PT) (ts:List T):Prop:=∀ p,hp=some p→p.kind=1→∃ u r,ts=u::r∧u.kind=1∧u.tag=p.tag
theorem HdP.app {z:Option PT} {ts us:List T} (a:HdP z ts):HdP z (ts++us):=fun p D E=>by
 obtain ⟨u,r,rfl,I⟩:=a p D E;exact ⟨u,r++us,rfl,I⟩
theorem HdP.step {l:List PT} {i:Nat} {ts:List T} (a:HdP (l.take i).head? ts) (I:i < l.length) (E:i=0→l[i].kind≠1):HdP (l.take (i+1)).head? ts:=fun p z D=>by
 cases l with
 | nil=>cases z
 | cons q l =>
  cases i with
  | zero =>
   have z:some q=some p:=z;cases z;exact absurd D (E rfl)
  | succ i=>exact a p z D
theorem HdP.one {l:List PT} {i:Nat} {ts:List T} {t:T} (a:HdP (l.take i).head? ts) (I:i < l.length) (h0:i=0→ts=[]) (E:t.kind=1∧t.tag=l[i].tag):HdP (l.take (i+1)).head? (ts++[t]):=fun p z D=>by
 cases l with
 | nil=>cases z
 | cons q l =>
  cases i with
  | zero =>
   have z:some q=some p:=z;cases z;rw [h0 rfl];exact ⟨t,[],rfl,E⟩
  | succ i=>exact a.app p z D
theorem Aax:∀ {l:List T} {t:T},fews l=true→few t=true→fews (l++[t])=true
 | [],t,_,h=>by rw [List.nil_append,fews,h];rfl
 | x::l,t,h,h2=>by
  rw [fews,Bool.and_eq_true] at h;rw [List.cons_append,fews,h.1,Aax h.2 h2];rfl
structure MkI (h:H) (G:Fz) (X:List AV) (hp:Option PT) (n:Nat) (v:AV) (ts:List T) (h':H) (G':Fz):Prop where
 p:Stp (fun _=>False) h G h' G'
 own:∃ cs,Own h' (h.nx+1) 36 6 v ts.length cs∧RTs G' ts cs
 vb:∀ j,VB v j∨v=.sl j 0 0 0→G' j=none
 gX:h'.m.get h.nx=some (cQ X 70)
 few:fews ts=true
 len:ts.length≤n
 hd:HdP hp ts
theorem MkI.lv {X:List AV} {z:Option PT} {n:Nat} {v:AV} {ts:List T} (a:MkI h G X z n v ts h' G'):Db v=some ts.length:=by
 obtain ⟨cs,o,_⟩:=a.own;exact o.len
theorem MkI.one {X:List AV} {z:Option PT} {n:Nat} {v:AV} {ts:List T} (a:MkI h G X z n v ts h' G'):C9 v=true:=by
 obtain ⟨cs,o,_⟩:=a.own;exact o.one
theorem MkI.mv {X:List AV} {I:Option PT} {n:Nat} {v:AV} {ts:List T} {D:H} {z:Fz} (a:MkI h G X I n v ts h' G') (p:Stp (fun _=>False) h' G' D z):MkI h G X I n v ts D z:=by
 obtain ⟨cs,o,r⟩:=a.own;exact ⟨a.p.trans p,⟨cs,o.mv p a.p.st.1 (fun _ _ h=>h),r.mono (p.le a.p.st)⟩,fun j E=>(p.old j (VB.lt o a.p.st.1 E)).trans (a.vb j E),p.gt a.p.st.1 a.gX (fun h=>h),a.few,a.len,a.hd⟩
theorem MkI.app {X:List AV} {hp J:Option PT} {n:Nat} {v:AV} {ts:List T} {t:T} {Z:List AV} (a:MkI h G X hp n v ts h' G') (hn:n≤1000) (ac:h.nx < h'.nx) (rt:RT G' t Z) (hf:Go.V.few t=true) (aa:HdP J (ts++[t])) :
  ∃ U E,Ig ctx 36 6 ts.length 1 v h' Z=some (U,E)∧C9 U = true∧MkI h G X J (n+1) U (ts++[t]) E G'∧(∀ i b,i≤h.nx→h'.m.get i=some b→E.m.get i=some b)∧Stp (fun i=>h.nx+1≤i∧G' i=none) h' G' E G'∧∀ i b,¬ VB v i→h'.m.get i=some b→E.m.get i=some b:=by
 obtain ⟨cs,o,r⟩:=a.own;have x6:=rt.len;have xo:=rt.one;have co:=r.one;have hl:=a.len;obtain ⟨U,E,c5,O,ae,z,ab⟩:=Di (C:=ctx) (k:=0) (new:=Z) o tM (Be (by rw [by36];omega) tM) (by rw [A7,co,xo];rfl) tM tM a.p.st (fun j I=>a.vb j (Or.inl I));have D:∀ j,VB v j→h.nx+1≤j:=fun j I=>o.vb I;have px:=a.p.in z (fun j I hw=>by have:=D j hw;omega);refine ⟨U,E,c5,O.one,⟨px,⟨_,by rw [List.length_append];exact O,r.app rt⟩,fun j I=>?_,z.gt a.p.st.1 a.gX (fun hw=>by have:=D _ hw;omega),Aax a.few hf,by rw [List.length_append];simp only [List.length_singleton];omega,aa⟩,fun i b hi Y=>z.gt a.p.st.1 Y (fun hw=>by have:=D _ hw;omega),z.mono fun i hi=>⟨D i hi,a.vb i (Or.inl hi)⟩,fun i b hn Y=>z.gt a.p.st.1 Y hn⟩;rw [ab] at I;rcases I with ⟨_,e⟩ | e
 ·cases e;exact a.p.st.none (Nat.le_refl _)
 ·cases e
end
section
variable {h h':H} {G G':Fz} {d b L p q:Nat} {m:D.M} {sl:List Sl} {k k1 k2:Hd}
def Apx (l:List PT):Prop:=∀ {h:H} {G:Fz} {x:IT} {X:List AV} {v:AV} {cc:List AV},St h G→RI G x X→okI x→Arr G 6 v l.length cc→RPs G l cc→okPs l=true→l.length≤11 →
 Ans ctx 19 [gQ X,v] h fun w h'=>∃ G' ts cs,Stp (fun _=>False) h G h' G'∧Arr G' 6 w ts.length cs∧RTs G' ts cs∧fews ts=true∧HdP l.head? ts
theorem MkI.frz {X:List AV} {E:Option PT} {n:Nat} {v:AV} {ts:List T} (a:MkI h G X E n v ts h' G'):∃ z cs,Stp (fun _=>False) h G h' z∧Arr z 6 v ts.length cs∧RTs z ts cs:=by
 obtain ⟨cs,o,r⟩:=a.own;obtain ⟨z,J,I,D⟩:=o.frz2 a.p tM a.vb;exact ⟨z,cs,J,D,r.mono I⟩
theorem Ahb {l:List PT} (ih:∀ j (hj:j < l.length),Apx l[j].ch):Apx l:=by
 intro h G x X v cc st hr ok hv aY aV hl;have xo:=hr.one;have x4:=hr.len;have aZ:Aq 0 4 X=some X:=by rw [← x4];exact Aj
 have aX:=hv.len;have vo:=hv.one;refine aO Tryz.f19 ?_;simp only [Tryz.f19];simp only [seval,go_sem,aX];have p0:Gro h G (h.new (cQ X 70)):=(Stp.refl st).new;refine Ao (fun i e h'=>(∃ G' u ts,MkI h G X (l.take i).head? (4 * i) u ts h' G'∧e.get 5=some u)∧h.nx < h'.nx∧i≤l.length∧e.get 2=some (jQ h.nx 0)∧e.get 10=some v∧e.get 11=some (iQ wQ l.length)∧e.get 12=some (iQ wQ i)) (fun i=>l.length - i) 0 ?_ ?_
 ·refine ⟨⟨G,(():AV),[],⟨p0,⟨[],Or.inl ⟨rfl,rfl,rfl⟩,rfl⟩,fun j hj=>by (rcases hj with ⟨_,e⟩ | e <;> cases e),Au,rfl,Nat.zero_le _,fun p hp=>by rw [List.take_zero] at hp;cases hp⟩,by simp [Tr.get_set]⟩,by simp only [Ac];omega,Nat.zero_le _,by simp [Tr.get_set]⟩
 rintro i e U ⟨⟨G2,u,ts,M,e5⟩,lx,hi,e2,D,E,z⟩ lp;simp only [seval,go_sem,D,E,z];refine Cr (fun I=>?_) (fun I=>?_)
 ·have I:i < l.length:=by simpa using I
  have w:=wI i;have a8:=M.p.le st;obtain ⟨cb,co,Y,g1,g2,hY⟩:=(hv.mono a8).part M.p.st (aY.mono a8) I;have aM:Apx l[i].ch:=ih i I;have ar:=Z9 aV (List.getElem_mem I);have aj:=fun {ts:List T} {t:T} (a:HdP (l.take i).head? ts)=>HdP.one (t:=t) a I;have aa:=fun {ts:List T} (a:HdP (l.take i).head? ts)=>HdP.step a I;generalize hpe:l[i]=p at hY aM ar aj aa;have aK:=hY;have yo:=hY.one;have y6:=hY.len;obtain ⟨kd,tg,ky,tx,sl,ch⟩:=p;obtain ⟨a,c,bl,rfl,ha,hc,aT⟩:=hY;have pS:Stp (fun _=>False) U G2 ((U.new (cQ [iQ vQ 0,sQ [],sQ [],(():AV),sQ [],(():AV)] 31)).at U.nx (cQ [iQ vQ (kd:Int),sQ tg,sQ ky,a,sQ tx,c] 31)) G2:=(Stp.refl M.p.st).new.at (Or.inl (Nat.le_refl _)) (by simp only [Ac];omega) (M.p.st.none (Nat.le_refl _));have gS:((U.new (cQ [iQ vQ 0,sQ [],sQ [],(():AV),sQ [],(():AV)] 31)).at U.nx (cQ [iQ vQ (kd:Int),sQ tg,sQ ky,a,sQ tx,c] 31)).m.get U.nx=some (cQ [iQ vQ (kd:Int),sQ tg,sQ ky,a,sQ tx,c] 31):=Ap;have be:((U.new (cQ [iQ vQ 0,sQ [],sQ [],(():AV),sQ [],(():AV)] 31)).at U.nx (cQ [iQ vQ (kd:Int),sQ tg,sQ ky,a,sQ tx,c] 31)).nx=U.nx+1:=rfl;generalize hS:((U.new (cQ [iQ vQ 0,sQ [],sQ [],(():AV),sQ [],(():AV)] 31)).at U.nx (cQ [iQ vQ (kd:Int),sQ tg,sQ ky,a,sQ tx,c] 31))=S at pS gS be;have MS:=M.mv pS;have ao:=ha.one;have aQ:=hc.one;have rY:∀ {g:H},g.m.get U.nx=some (cQ [iQ vQ (kd:Int),sQ tg,sQ ky,a,sQ tx,c] 31)→g.read U.nx 0 6=some [iQ vQ (kd:Int),sQ tg,sQ ky,a,sQ tx,c]∧g.read U.nx 0 1=some [iQ vQ (kd:Int)]∧g.read U.nx 2 1=some [sQ ky]∧g.read U.nx 4 1=some [sQ tx]∧g.read U.nx 5 1=some [c]:=fun e=>⟨(Ab e).trans rfl,(Ab e).trans rfl,(Ab e).trans rfl,(Ab e).trans rfl,(Ab e).trans rfl⟩
  have rX:∀ {g:H},g.m.get h.nx=some (cQ X 70)→g.read h.nx 0 4=some X:=fun e=>(Ab e).trans aZ;obtain ⟨s6,s0,s2,s4,s5⟩:=rY gS;have sX:=rX MS.gX;have uo:=M.one;have ul:=M.lv;have aW:i=0→ts=[]:=fun h0=>by have:=M.len;exact List.length_eq_zero_iff.1 tM
  simp only [seval,go_sem,e2,D,E,z,g1,M.p.st.read g2,yo,y6,ao,aQ,hS,s0];have ap:=ar;rw [okP] at ap;simp only [Bool.and_eq_true,decide_eq_true_eq,List.all_eq_true] at ap;obtain ⟨bn,bp,bq,aL,aU⟩:=ap;have a6:=hr.mono a8;have lU:h.nx < S.nx:=tM;have ml:=M.len
  by_cases k1:kd=1
  ·have ab:((kd:Int)=1)=True:=eq_true tM;have pU:Gro S G2 (S.up 13):=(Stp.refl pS.st).up;obtain ⟨w3,h3,q3,G3,kids,kc,p3,a3,r3,f3,_⟩:=aM pU.st a6 ok hc aT aU aL;have aq:=p3.le pU.st;obtain ⟨_,h4,q4,G4,Z,al,rfl,p4,aD,a0⟩:=Ub (ky:=ky) p3.st (a6.mono aq) ok (RP.mono aq _ _ aK) ar a3 r3;have n3:=p3.nx;have n4:=p4.nx;simp only [Ai] at n3;have nb:G4 (S.nx+10)=none:=by rw [p4.old _ tM,p3.old _ (by simp only [Ai];omega)];exact pS.st.none tM
   have pB:Stp (fun _=>False) S G2 (h4.at (S.nx+10) (cQ Z 36)) G4:=((pU.trans p3).trans p4).at (Or.inl tM) tM nb;have MB:=MS.mv pB;have O:=MS.mv (pU.trans p3);have M4:=O.mv p4;have ae:=p3.gt pU.st.1 (i:=U.nx) gS (fun h=>h);have aw:=p4.gt p3.st.1 ae (fun h=>h);have ay:=pB.gt pS.st.1 gS (fun h=>h);have hs:=a0.trans (show (PT.nd kd tg ky tx sl ch).slots.length=sl.length from rfl);obtain ⟨v',h5,c5,o5,J,kp,ah,ai⟩:=MB.app (t:=.nd 1 tg ky [] al kids) tM (by simp only [Ag];omega) aD (by rw [few,f3,Bool.and_true,decide_eq_true_eq];omega) (aj M.hd aW ⟨rfl,rfl⟩);have aC:¬ VB u U.nx:=fun hh=>by
    obtain ⟨cs,o,_⟩:=M.own;have:=VB.lt o M.p.st.1 (Or.inl hh);omega
   have ax:=ai _ _ aC ay;obtain ⟨t6,aF,t2,t4,t5⟩:=rY ae;obtain ⟨aH,y0,y2,y4,y5⟩:=rY aw;obtain ⟨z6,z0,z2,z4,z5⟩:=rY ax;have x3:=rX O.gX;have aG:=rX M4.gX;have x5:=rX J.gX;have Zo:=aD.one;have Z6:=aD.len;have ov:Cl Aw Z=some Z:=by
    have:=Bd [] Aw [] Z (by rw [Z6];rfl);rw [List.append_nil,List.append_nil] at this;exact this
   have az:Aq 0 6 Z=some Z:=by rw [← Z6];exact Aj
   have aA:(U.nx=S.nx+10)=False:=eq_false tM;have aB:(h.nx=S.nx+10)=False:=eq_false tM;simp only [seval,go_sem,e2,e5,D,E,z,ab,s6,s0,s2,s4,s5,sX,t6,aF,t2,t4,t5,aH,y0,y2,y4,y5,z6,z0,z2,z4,z5,x3,aG,x5,q3,q4,yo,y6,xo,x4,Zo,Z6,ov,az,uo,ul,c5,o5,aA,aB,w];have:=ah.nx;simp only [Ag] at this;exact lp (i+1) _ _ tM ⟨⟨G4,v',_,⟨J.p,J.own,J.vb,J.gX,J.few,by have:=J.len;omega,J.hd⟩,by simp [Tr.get_set]⟩,tM,I,by simp [Tr.get_set,e2,D,E,z]⟩
  have rT:∀ {g:H},g.m.get h.nx=some (cQ X 70)→g.read h.nx 2 1=some [sQ x.text]∧g.read h.nx 0 1=some [iQ .u64 (x.key:Int)]∧∃ mv,g.read h.nx 3 1=some [mv]∧Arr G 1 mv x.marks.length (I0 x.marks):=fun e=>by
   obtain ⟨mv,rfl,am⟩:=hr;exact ⟨(Ab e).trans rfl,(Ab e).trans rfl,mv,(Ab e).trans rfl,am⟩
  obtain ⟨j2,j0,mv,j3,am⟩:=rT MS.gX
  by_cases k2:kd=2
  ·skip
   have ab:((kd:Int)=1)=False:=eq_false tM;have ac:((kd:Int)=2)=True:=eq_true tM;simp only [seval,go_sem,e2,e5,D,E,z,ab,ac,s4];refine Ae (Pc pS.st) fun _ h3 ⟨e3,p3⟩=>?_;subst e3;have P3:Gro S G2 h3:=p3;have Wr:RT G2 (.nd 2 [] [] tx [] []) [iQ vQ 2,sQ [],sQ [],(():AV),sQ tx,(():AV)]:=⟨_,_,[],rfl,Or.inl ⟨rfl,rfl,rfl⟩,Or.inl ⟨rfl,rfl,rfl⟩,rfl⟩;have pB:Gro S G2 (h3.new (cQ [iQ vQ 2,sQ [],sQ [],(():AV),sQ tx,(():AV)] 36)):=P3.new;have MB:=MS.mv pB;have n3:=P3.nx;obtain ⟨v',h5,c5,o5,J,kp,ah,ai⟩:=MB.app (t:=.nd 2 [] [] tx [] []) tM (by simp only [Ac];omega) Wr rfl (aa M.hd (fun _=>by show kd≠1;omega)).app;simp only [seval,go_sem,e2,e5,D,E,z,uo,ul,c5,o5,w];have:=ah.nx;simp only [Ac] at this;exact lp (i+1) _ _ tM ⟨⟨G2,v',_,⟨J.p,J.own,J.vb,J.gX,J.few,by have:=J.len;omega,J.hd⟩,by simp [Tr.get_set]⟩,tM,I,by simp [Tr.get_set,e2,D,E,z]⟩
  by_cases k3:kd=3
  ·skip
   have ab:((kd:Int)=1)=False:=eq_false tM;have ac:((kd:Int)=2)=False:=eq_false tM;have ag:((kd:Int)=3)=True:=eq_true tM;simp only [seval,go_sem,e2,e5,D,E,z,ab,ac,ag,j2];refine Ae (Pc pS.st) fun _ h3 ⟨e3,p3⟩=>?_;subst e3;have P3:Gro S G2 h3:=p3;have Wr:RT G2 (.nd 2 [] [] x.text [] []) [iQ vQ 2,sQ [],sQ [],(():AV),sQ x.text,(():AV)]:=⟨_,_,[],rfl,Or.inl ⟨rfl,rfl,rfl⟩,Or.inl ⟨rfl,rfl,rfl⟩,rfl⟩;have pB:Gro S G2 (h3.new (cQ [iQ vQ 2,sQ [],sQ [],(():AV),sQ x.text,(():AV)] 36)):=P3.new;have MB:=MS.mv pB;have n3:=P3.nx;obtain ⟨v',h5,c5,o5,J,kp,ah,ai⟩:=MB.app (t:=.nd 2 [] [] x.text [] []) tM (by simp only [Ac];omega) Wr rfl (aa M.hd (fun _=>by show kd≠1;omega)).app;simp only [seval,go_sem,e2,e5,D,E,z,uo,ul,c5,o5,w];have:=ah.nx;simp only [Ac] at this;exact lp (i+1) _ _ tM ⟨⟨G2,v',_,⟨J.p,J.own,J.vb,J.gX,J.few,by have:=J.len;omega,J.hd⟩,by simp [Tr.get_set]⟩,tM,I,by simp [Tr.get_set,e2,D,E,z]⟩
  by_cases k4:kd=4
  ·skip
   have ab:((kd:Int)=1)=False:=eq_false tM;have ac:((kd:Int)=2)=False:=eq_false tM;have ag:((kd:Int)=3)=False:=eq_false tM;have ak:((kd:Int)=4)=True:=eq_true tM;simp only [seval,go_sem,e2,e5,D,E,z,ab,ac,ag,ak,j0];refine Ae (N8 pS.st ok.1) fun _ bm ⟨⟨sd,aR⟩,aN⟩=>?_;subst aR;simp only [seval,go_sem];refine Ae (Pc aN.st) fun _ h3 ⟨e3,p3⟩=>?_;subst e3;have P3:Gro S G2 h3:=aN.trans p3;have Wr:RT G2 (.nd 2 [] [] sd [] []) [iQ vQ 2,sQ [],sQ [],(():AV),sQ sd,(():AV)]:=⟨_,_,[],rfl,Or.inl ⟨rfl,rfl,rfl⟩,Or.inl ⟨rfl,rfl,rfl⟩,rfl⟩;have pB:Gro S G2 (h3.new (cQ [iQ vQ 2,sQ [],sQ [],(():AV),sQ sd,(():AV)] 36)):=P3.new;have MB:=MS.mv pB;have n3:=P3.nx;obtain ⟨v',h5,c5,o5,J,kp,ah,ai⟩:=MB.app (t:=.nd 2 [] [] sd [] []) tM (by simp only [Ac];omega) Wr rfl (aa M.hd (fun _=>by show kd≠1;omega)).app;simp only [seval,go_sem,e2,e5,D,E,z,uo,ul,c5,o5,w];have:=ah.nx;simp only [Ac] at this;exact lp (i+1) _ _ tM ⟨⟨G2,v',_,⟨J.p,J.own,J.vb,J.gX,J.few,by have:=J.len;omega,J.hd⟩,by simp [Tr.get_set]⟩,tM,I,by simp [Tr.get_set,e2,D,E,z]⟩
  by_cases k5:kd=5
  ·skip
   have ab:((kd:Int)=1)=False:=eq_false tM;have ac:((kd:Int)=2)=False:=eq_false tM;have ag:((kd:Int)=3)=False:=eq_false tM;have ak:((kd:Int)=4)=False:=eq_false tM;have a7:((kd:Int)=5)=True:=eq_true tM;have aP:=am.len;simp only [seval,go_sem,e2,e5,D,E,z,ab,ac,ag,ak,a7,j3,aP];have bo:=ok.2;refine Ao (fun k e h'=>(∃ G' u ts,MkI h G X (l.take (i+1)).head? (4 * i+k) u ts h' G'∧Fz.Le G2 G'∧e.get 5=some u)∧h'.m.get U.nx=some (cQ [iQ vQ (kd:Int),sQ tg,sQ ky,a,sQ tx,c] 31)∧U.nx < h'.nx∧k≤x.marks.length∧e.get 2=some (jQ h.nx 0)∧e.get 7=some (jQ U.nx 0)∧e.get 10=some v∧e.get 11=some (iQ wQ l.length)∧e.get 12=some (iQ wQ i)∧e.get 63=some mv∧e.get 64=some (iQ wQ x.marks.length)∧e.get 65=some (iQ wQ k)) (fun k=>x.marks.length - k) 0 ?_ ?_
   ·exact ⟨⟨G2,u,ts,⟨MS.p,MS.own,MS.vb,MS.gX,MS.few,MS.len,aa M.hd (fun _=>by show kd≠1;omega)⟩,Fz.Le.refl,by simp [Tr.get_set,e5]⟩,gS,tM,Nat.zero_le _,by simp [Tr.get_set,e2,D,E,z]⟩
   clear e5 uo ul;clear e2 D E z;clear e;rintro k e h3 ⟨⟨G3,u3,bj,O,aq,e5⟩,ae,br,hk,e2,e7,D,E,z,au,av,aI⟩ bb;simp only [seval,go_sem,au,av,aI];refine Cr (fun af=>?_) (fun af=>?_)
   ·have af:k < x.marks.length:=by simpa using af
    have wk:=wI k;obtain ⟨mb,mo,m1,m2⟩:=(am.mono (O.p.le st)).str O.p.st af;generalize x.marks[k]=mk at m2;have pU:Gro h3 G3 (h3.up 11):=(Stp.refl O.p.st).up;obtain ⟨_,h4,q4,rfl,p4⟩:=Pc (s:=mk) pU.st;have n4:=p4.nx;simp only [Ai] at n4;have n6:G3 (h3.nx+6)=none:=O.p.st.none tM;have p6:Stp (fun _=>False) h3 G3 (h4.at (h3.nx+6) (cQ [iQ vQ 2,sQ [],sQ [],(():AV),sQ mk,(():AV)] 36)) G3:=(pU.trans p4).at (Or.inl tM) tM n6;have p7:=p6.frz (i:=h3.nx+6) tM Ap;have ba:=p7.le O.p.st;have Wa:Arr (G3.add (h3.nx+6) (cQ [iQ vQ 2,sQ [],sQ [],(():AV),sQ mk,(():AV)] 36)) 6 (.sl (h3.nx+6) 0 1 1) [T.nd 2 [] [] mk [] []].length [iQ vQ 2,sQ [],sQ [],(():AV),sQ mk,(():AV)]:=Or.inr ⟨h3.nx+6,0,Or.inl ⟨1,Nat.le_refl _,rfl⟩,by rw [Fz.rd_b Fz.add_at];rfl⟩;have Wr:RTs (G3.add (h3.nx+6) (cQ [iQ vQ 2,sQ [],sQ [],(():AV),sQ mk,(():AV)] 36)) [T.nd 2 [] [] mk [] []] [iQ vQ 2,sQ [],sQ [],(():AV),sQ mk,(():AV)]:=⟨_,[],by rw [List.append_nil];rfl,⟨_,_,[],rfl,Or.inl ⟨rfl,rfl,rfl⟩,Or.inl ⟨rfl,rfl,rfl⟩,rfl⟩,rfl⟩;have an:=aq.trans ba;obtain ⟨_,h5,q5,G5,Z,al,rfl,p5,aE,a0⟩:=Ub (ky:=mk) p7.st (a6.mono an) ok (RP.mono an _ _ aK) ar Wa Wr;have n5:=p5.nx;simp only [Ag] at n5;have n8:G5 (h3.nx+8)=none:=by rw [p5.old _ (by simp only [Ag];omega),Fz.add_ne tM];exact O.p.st.none tM
    have pB:Stp (fun _=>False) h3 G3 (h5.at (h3.nx+8) (cQ Z 36)) G5:=(p7.trans p5).at (Or.inl tM) tM n8;have M4:=O.mv (pU.trans p4);have M6:=O.mv p6;have J:=O.mv (p7.trans p5);have MB:=O.mv pB;have aw:=p4.gt pU.st.1 (i:=U.nx) ae (fun h=>h);have aS:=p6.gt O.p.st.1 ae (fun h=>h);have ax:=p5.gt p7.st.1 aS (fun h=>h);have ay:=pB.gt O.p.st.1 ae (fun h=>h);have hs:=a0.trans (show (PT.nd kd tg ky tx sl ch).slots.length=sl.length from rfl);obtain ⟨v',h7,c7,o7,M7,kp,bh,ai⟩:=MB.app (t:=.nd 1 tg mk [] al [T.nd 2 [] [] mk [] []]) tM (by simp only [Ag];omega) aE (by rw [few];rw [Bool.and_eq_true,decide_eq_true_eq];exact ⟨tM,rfl⟩) O.hd.app;have aC:¬ VB u3 U.nx:=fun hh=>by
     have h1:=O.vb _ (Or.inl hh);obtain ⟨cs,o,_⟩:=O.own;obtain ⟨kq,ek⟩:=hh;rcases o with ⟨rfl,_⟩ | ⟨q,_,rfl,_⟩ | ⟨q,_,rfl,hb,_⟩
     ·cases ek
     ·cases ek
     ·cases ek;rw [ae] at hb;cases hb
    have aJ:=ai _ _ aC ay;obtain ⟨t6,aF,t2,t4,t5⟩:=rY ae;obtain ⟨aH,y0,y2,y4,y5⟩:=rY aw;obtain ⟨bk,v0,v2,v4,v5⟩:=rY ax;obtain ⟨z6,z0,z2,z4,z5⟩:=rY aJ;have x3:=rX O.gX;have aG:=rX M4.gX;have x5:=rX J.gX;have x7:=rX M7.gX;have Zo:=aE.one;have Z6:=aE.len;have ov:Cl Aw Z=some Z:=by
     have:=Bd [] Aw [] Z (by rw [Z6];rfl);rw [List.append_nil,List.append_nil] at this;exact this
    have az:Aq 0 6 Z=some Z:=by rw [← Z6];exact Aj
    have uo:=O.one;have ul:=O.lv;have aA:(U.nx=h3.nx+8)=False:=eq_false tM;have aB:(h.nx=h3.nx+8)=False:=eq_false tM;have bf:(U.nx=h3.nx+6)=False:=eq_false tM;have bg:(h.nx=h3.nx+6)=False:=eq_false tM;simp only [seval,go_sem,e2,e5,e7,D,E,z,au,av,aI,m1,O.p.st.read m2,t6,aF,t2,t4,t5,aH,y0,y2,y4,y5,bk,v0,v2,v4,v5,z6,z0,z2,z4,z5,x3,aG,x5,x7,q4,q5,yo,y6,xo,x4,Zo,Z6,ov,az,uo,ul,c7,o7,aA,aB,bf,bg,wk];have:=bh.nx;simp only [Ag] at this;exact bb (k+1) _ _ tM ⟨⟨G5,v',_,⟨M7.p,M7.own,M7.vb,M7.gX,M7.few,by have:=M7.len;omega,M7.hd⟩,an.trans (p5.le p7.st),by simp [Tr.get_set]⟩,aJ,tM,af,by simp [Tr.get_set,e2,e7,D,E,z,au,av]⟩
   ·have af:x.marks.length≤k:=by simpa using af
    simp only [seval,go_sem,z,w];exact lp (i+1) _ _ tM ⟨⟨G3,u3,bj,⟨O.p,O.own,O.vb,O.gX,O.few,by have:=O.len;omega,O.hd⟩,by simp [Tr.get_set,e5]⟩,tM,I,by simp [Tr.get_set,e2,D,E,z]⟩
  have ab:((kd:Int)=1)=False:=eq_false tM;have ac:((kd:Int)=2)=False:=eq_false tM;have ag:((kd:Int)=3)=False:=eq_false tM;have ak:((kd:Int)=4)=False:=eq_false tM;have a7:((kd:Int)=5)=False:=eq_false tM;simp only [seval,go_sem,e2,e5,D,E,z,ab,ac,ag,ak,a7,w];exact lp (i+1) _ _ tM ⟨⟨G2,u,_,⟨MS.p,MS.own,MS.vb,MS.gX,MS.few,by have:=MS.len;omega,aa M.hd (fun _=>by show kd≠1;omega)⟩,by simp [Tr.get_set,e5]⟩,tM,I,by simp [Tr.get_set,e2,D,E,z]⟩
 ·have I:l.length≤i:=by simpa using I
  simp only [seval,go_sem,e5];obtain ⟨G3,cs,p3,a3,r3⟩:=M.frz;refine ⟨G3,ts,cs,p3,a3,r3,M.few,?_⟩;have:=M.hd;rw [List.take_of_length_le I] at this;exact this
mutual
theorem mk_p:∀ p:PT,Apx p.ch
 | .nd _ _ _ _ _ ch=>Ahb fun j hj=>mk_ps ch j hj
theorem mk_ps:∀ (l:List PT) (j:Nat) (hj:j < l.length),Apx l[j].ch
 | p::l,0,_=>mk_p p
 | p::l,j+1,hj=>mk_ps l j (by simpa using hj)
end
theorem make19 (l:List PT):Apx l:=Ahb fun j z=>mk_ps l j z
end
end Go.V
