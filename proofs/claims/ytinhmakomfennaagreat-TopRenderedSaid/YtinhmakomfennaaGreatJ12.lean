/- Own lemmas. -/
import Derived.Test.YtinhmakomfennaaGreatJ11
import Derived.Test.YtinhmakomfennaaGreatJ7
set_option linter.unusedSimpArgs false
set_option linter.unusedVariables false
set_option linter.unusedSectionVars false
set_option maxRecDepth 10000
set_option maxHeartbeats 2000000
namespace Go.V
open AV renaming int→iQ,ptr→jQ,str→sQ,bool→bQ,raw→kQ,agg→gQ
open Blk renaming cells→cQ,row→oQ
open IntKind renaming u32→uQ,i64→wQ,u8→vQ
open Go Go.Proofs
open D (Hd Nd HT Als Str)
attribute [local go_sem] Nj Nh Kd Hz Ng Hy Ni H0 Akm Sy Kc Ke Alp Alo Aln Alm Acp Acq Kg Akk Akl Ane Akn Ako Akf Akg Akh Akp Kf Nz Iq N1 Ky N0 Tz Ty T1 T0 N2 Nl H1 Nk Kk S9 Kj Ald Nn Ki S7 Ta Akq Np Akv Aku Akt Akr Ala Akz Aky Akx Akw Aks S8 r_b Aoq Alc Alb Apt Sj Kv H7 Oa Kw Ajx Lt F8 J2 N4 H8 N3 K1 Ud Kz Aoa N5 e_nil Ue Anq N6 Anu Ant Anr Anz Anx Anw Anv Uc e_b H.eta Je Ai Ac Acg Zt Abz Aby Ib Ha Q4 Tl Amo Amn Ams Amq Amr Ed O6 Apk Apw Tx Ts Tt Acr Z0 Acv Acu Ann Anm Ano T4 T3 Apq Apo App Apr Uq Apn Aof N7 K3 Aoc Aod Aoi S3 Alr Aoh Aog Aol Aop Aom Aoo Aon de Aok Aoj vj Alk All Nf Aki Tf Th Td Uo Un Anb Amz Ana T5 Ale Apm Ag Ami Amg Q2 Amd Qv Bc Qw Ck Ca Bh Cd Bb Az pt_u Alg Akj T6 Anl Anj Ank Gt Aed Ang Abn Aeu Apc Apb Aoy Apa Aot Aov Aox Aou Aow Aoz Aos S4 Lh Ug Aoe Abi Ti Apg Apd Amu Apl Sc Amc Sb Alv Aly Alu Alx Amb Alw Alt Ama Alz Abj R0 gd Il envOf O3 Fw En rd1 I6 O1 O4 I4 Nr chr oUn I2 Da Sg Lj elem Tr.get_set bin Y1 Y0 Abg asB Aaf nat? O5 Eo Jc Jd Fb I9 nth Cm tb mgJ Rn E9 O8 K9 Ld I3 Bv O2 I5 Hr Jg wr Fx Fu opt Bs Ji Br Gj Hn G7 Fv Eh Jq Lg Hm zOk append Oq Lk Em rep eqL Option.getD
attribute [local go_sem] a3 a4 a5 a9 a22 a24 a25 a27 a28 a29 a31 a33 a34 a36 a37 a40 a41 a43 a45 a46 a48 a50 a53 a55 a70 a77 a85 a100 a103 a106 a110 a112 a119 a121 a124 a130 a179 a180 a181 a189 a195 a200 a205 a212 a234 a243 a251 a256 a274 a279 s1 s2 s3 s4 s5 s9 s22 s24 s25 s27 s28 s29 s31 s33 s34 s36 s37 s40 s41 s43 s45 s46 s48 s50 s53 s55 s70 s77 s85 s100 s103 s105 s106 s110 Ake s119 s121 s124 s130 Auc s180 s181 Aub s195 s200 s205 s212 s232 s234 s243 Aua s256 s274 s279 u3 u9 u22 u25 u28 u29 u33 u34 u40 u41 u48 u53 u77 u103 u106 Aqx u131 u180 Aqw u216 Aqv u243 Aqu Aqt Aqs Ais Air Aiq Aip Aio Ain Aim Ail Aik Aij Aii Aih Aig Aif Aie Aid Aic Aib Aia Ahz Ahy Ahx Ahw Ahv Ahu Aht Ahs Ahr Ahq Ahp Yp Yn Ym Yl Yk Yj Yi Yh Yg Yf Ye Yd Yb Ya X9 X8 X7 X5 X4 X3 X0 Xz Xy Xx Xw Xv Xu Xt Xs Xr Xq Xn Xm Xl Xk Xj Xi Xh Xg z3 z4 z9 z28 z29 z31 z33 z34 z36 z37 z41 z43 z50 z53 z55 z70 z77 z85 z100 z103 z106 z108 z110 z112 z118 z119 z121 z126 z130 z179 z180 z181 z189 z191 z204 z205 z212 z216 z232 z234 z243 z251 Aqa z256 Apz Abs z279 Apy k31 Aha Agz Agy Agx Agw Agv k36 Agu Agt Ags Agr Agq Agp k43 Ago Agn Agm Agl k50 Agk Agj k55 Agi Agh Agg Agf Age Agd Agc Agb Aga k70 Afz k108 Wt Ws Wq Wp k112 Wo Wn k118 Wm k126 Wl Wk k130 Wj Wi Wh k179 Wg We Wd k189 Wc Wb V9 V8 V7 V6 V5 k212 V4 V3 V2 V1 k232 V0 Vz k251 Vy k279 Vx Vw Vv Vu e4 e33 e46 e50 l50 e53 e77 e112 l112 e144
attribute [local go_sem] Nat.mul_one Nat.one_mul Nat.add_eq_left Nat.left_eq_add Nat.le_refl Nat.lt_irrefl Nat.zero_le Nat.not_le not_false_eq_true not_true_eq_false Bool.false_eq_true Bool.not_true Bool.not_false List.length_cons List.length_nil List.nil_append List.cons_append Nat.zero_add Nat.add_zero Nat.add_assoc decide_true decide_false true_and and_true List.getElem?_cons_succ List.getElem?_cons_zero bne_self_eq_false beq_self_eq_true Bool.not_eq_true decide_not exists_eq_left exists_eq_left' Option.some.injEq List.all_cons List.all_nil Bool.and_true Bool.true_and Bool.false_and Bool.and_false Bool.and_self Bool.false_or Bool.or_false Bool.true_or Bool.or_true
section
variable {h h':H} {G G':Fz} {d b L p q:Nat} {m:D.M} {sl:List Sl} {k k1 k2:Hd}
def RndP (p:PT) (G:Fz) (h:H) (v:AV) (h':H):Prop:=∃ G' Z,∃ e:Int,v=.tup [gQ Z,iQ wQ e]∧Stp (fun _=>False) h G h' G'∧Z.length=6∧Af Z=true∧(0≤e∧e≤20)∧(e=0→∃ t,RT G' t Z∧A8 t∧few t=true∧t.kind=1∧t.tag=p.tag)
theorem Afs {x:IT} {X Y:List AV} {p:PT} (st:St h G) (hr:RI G x X) (ok:okI x) (hY:RP G p Y) (ag:okP p=true) (hk:p.kind=1):Ans ctx 5 [gQ Y,gQ X,iQ wQ 64] h (RndP p G h):=by
 have aw:=hr;have av:=hY;have xo:=hr.one;have yo:=hY.one;have x4:=hr.len;have y6:=hY.len;have ap:Aq 0 4 X=some X:=by rw [← x4];exact Aj
 have ae:Aq 0 6 Y=some Y:=by rw [← y6];exact Aj
 refine aO Tryz.f5 ?_;simp only [Tryz.f5];have D:Gro h G (((h.new (cQ Y 31)).new (cQ X 43)).new (cQ [iQ vQ 0,sQ [],sQ [],(():AV),sQ [],(():AV)] 36)):=(Stp.refl st).new.new.new;generalize hS:(((h.new (cQ Y 31)).new (cQ X 43)).new (cQ [iQ vQ 0,sQ [],sQ [],(():AV),sQ [],(():AV)] 36))=S at D;have gY:S.m.get h.nx=some (cQ Y 31):=by rw [← hS];simp (disch:=first | omega | (simp only [Ac,Ag,Ai] <;> omega) | fail) only [Bh,Ca,Cd,Bb,Az]
 have gX:S.m.get (h.nx+1)=some (cQ X 43):=by rw [← hS];simp (disch:=first | omega | (simp only [Ac,Ag,Ai] <;> omega) | fail) only [Bh,Ca,Cd,Bb,Az]
 have gZ:S.m.get (h.nx+2)=some (cQ [iQ vQ 0,sQ [],sQ [],(():AV),sQ [],(():AV)] 36):=by rw [← hS];simp (disch:=first | omega | (simp only [Ac,Ag,Ai] <;> omega) | fail) only [Bh,Ca,Cd,Bb,Az]
 have nS:S.nx=h.nx+3:=by rw [← hS];rfl
 have rY:=fun {g:H} (e:g.m.get h.nx=some (cQ Y 31))=>(Ab (o:=0) (n:=6) e).trans ae;have rX:=fun {g:H} (e:g.m.get (h.nx+1)=some (cQ X 43))=>(Ab (o:=0) (n:=4) e).trans ap;have z:∀ {g:H} {G2:Fz} {B} {e:Int},Stp (fun _=>False) S G g G2→g.m.get (h.nx+2)=some B→0 < e∧e≤20→RndP p G h (.tup [gQ [iQ vQ 0,sQ [],sQ [],(():AV),sQ [],(():AV)],iQ wQ e]) (g.at (h.nx+2) (cQ [iQ vQ 0,sQ [],sQ [],(():AV),sQ [],(():AV)] 36)):=fun {g G2 B e} q gz he =>
  ⟨G2,_,e,rfl,(D.trans q).at (Or.inl tM) (Ah q.st.1 gz) ((q.old _ tM).trans (st.none tM)),rfl,rfl,tM,fun h0=>by omega⟩
 have y0:=rY gY;simp only [seval,go_sem,xo,yo,hS,y0];refine Ae (check17 D.st hY ag) fun v1 h1 ⟨e1,I⟩=>?_;have ac:=I.gt D.st.1 gX (fun h=>h);have ak:=I.gt D.st.1 gY (fun h=>h);have O:=I.gt D.st.1 gZ (fun h=>h);have x1:=rX ac;rcases e1 with rfl | rfl
 rotate_left
 ·simp only [seval,go_sem,O];exact z I O tM
 simp only [seval,go_sem,x1];refine Ae (check18 I.st hr ok) fun v2 h2 ⟨e2,p2⟩=>?_;have aj:=p2.gt I.st.1 ac (fun h=>h);have am:=p2.gt I.st.1 ak (fun h=>h);have U:=p2.gt I.st.1 O (fun h=>h);have J:=I.trans p2;rcases e2 with rfl | rfl
 rotate_left
 ·simp only [seval,go_sem,U];exact z J U tM
 have x2:=rX aj;have y2:=rY am;have ar:Cl [iQ vQ 0,sQ [],sQ [],(():AV),sQ [],(():AV)] Y=some Y:=by
  have:=Bd [] [iQ vQ 0,sQ [],sQ [],(():AV),sQ [],(():AV)] [] Y (by rw [y6];rfl);rw [List.append_nil,List.append_nil] at this;exact this
 have aq:∀ {a b c d:AV},Cl [a,b,c,d] X=some X:=fun {a b c d}=>by
  have:=Bd [] [a,b,c,d] [] X (by rw [x4];rfl);rw [List.append_nil,List.append_nil] at this;exact this
 simp only [seval,go_sem,x2,y2,ar,aq,x4,y6,yo,xo];have pF:=((D.trans J).new (b:=cQ Y 31)).frz (i:=h2.nx) (by have:=(D.trans J).nx;omega) Au;have af:=pF.le st;have hm:=make19 [p] (v:=.sl h2.nx 0 1 1) (cc:=Y) pF.st (hr.mono af) ok (Or.inr ⟨h2.nx,0,Or.inl ⟨1,Nat.le_refl _,rfl⟩,by rw [Fz.rd_b Fz.add_at,Ib];exact ae⟩) ⟨Y,[],by rw [List.append_nil],RP.mono af _ _ hY,rfl⟩ (by rw [okPs,ag];rfl) (by simp);have l2:=(D.trans J).nx;refine Ae hm fun v3 h3 ⟨G3,ts,cs,p3,a3,r3,f3,hd⟩=>?_;obtain ⟨t,rs,rfl,tk,tt⟩:=hd p rfl hk;obtain ⟨b,o,Z,g1,g2,rt⟩:=a3.tree p3.st r3 (j:=0) (by simp);have rt:RT G3 t Z:=rt;have Zo:=rt.one;have Z6:=rt.len;have aa:Aq 0 6 Z=some Z:=by rw [← Z6];exact Aj
 have ah:Cl [iQ vQ 0,sQ [],sQ [],(():AV),sQ [],(():AV)] Z=some Z:=by
  have:=Bd [] [iQ vQ 0,sQ [],sQ [],(():AV),sQ [],(():AV)] [] Z (by rw [Z6];rfl);rw [List.append_nil,List.append_nil] at this;exact this
 rw [Nat.zero_mul,Nat.add_zero] at g1 g2;simp only [seval,go_sem,g1,p3.st.read g2,Zo,Z6,ah,aa];have p4:Gro h3 G3 ((h3.new (cQ [iQ vQ 0,sQ [],sQ [],(():AV),sQ [],(():AV)] 36)).at h3.nx (cQ Z 36)):=(Stp.refl p3.st).new.at (Or.inl (Nat.le_refl _)) (by simp only [Ac];omega) (p3.st.none (Nat.le_refl _));refine Ae (count p4.st rt) fun _ h5 ⟨e5,p5⟩=>?_;subst e5;have ai:=p5.gt p4.st.1 (i:=h3.nx) Ap (fun h=>h);have an:(h2.new (cQ Y 31)).m.get (h.nx+2)=some (cQ [iQ vQ 0,sQ [],sQ [],(():AV),sQ [],(():AV)] 36):=(Awn (by have:=J.nx;omega)).trans U;have E:=(p4.trans p5).gt p3.st.1 (p3.gt pF.st.1 an (fun h=>h)) (fun h=>h);have PF:Stp (fun _=>False) S G h5 G3:=((J.new (b:=cQ Y 31)).frz (i:=h2.nx) (by have:=J.nx;omega) Au).trans (p3.trans (p4.trans p5))
 by_cases hc:Iu t=0
 ·have ab:((Iu t:Int)=0)=True:=eq_true tM;simp only [seval,go_sem,ab,E];exact z PF E tM
 ·have ab:((Iu t:Int)=0)=False:=eq_false tM;have vt:=cnt_inv hc;have ao:((64:Int) < (Iu t:Int))=False:=eq_false (by rw [Axv vt];have:=vt.2.2;omega);have au:h5.read h3.nx 0 6=some Z:=(Ab ai).trans aa;simp only [seval,go_sem,ab,ao,au,E,Zo,Z6,ah,aa];rw [fews,Bool.and_eq_true] at f3;have nz:G3 (h.nx+2)=none:=(PF.old _ tM).trans (st.none tM);exact ⟨G3,Z,0,rfl,(D.trans PF).at (Or.inl tM) (Ah PF.st.1 E) nz,Z6,Zo,tM,fun _=>⟨t,rt,vt,f3.1,tk,tt⟩⟩
end
section
variable {h h':H} {G G':Fz} {d b L p q:Nat} {m:D.M} {sl:List Sl} {k k1 k2:Hd}
theorem by130:bytes ctx 130=40:=kR
theorem Lo:∀ {a b:List (Str × Nat × Str)},Dl (a++b)=Dl a++Dl b
 | [],b=>rfl
 | (x,y,z)::a,b=>by
  show _::_::_::Dl (a++b)=_;rw [Lo];rfl
theorem Ln:∀ {a:List (Str × Nat × Str)},Af (Dl a)=true
 | []=>rfl
 | (x,y,z)::a=>by
  show (true && (true && (true && Af (Dl a))))=true;rw [Ln];rfl
theorem kuu:decide (IntKind.u8=IntKind.i64)=false:=rfl
theorem kuw:decide (IntKind.u8=IntKind.u64)=false:=rfl
theorem kb8:IntKind.u8.bits=8:=rfl
theorem dv2 {n i:Nat}:(n:Int) / 2 ^ i=((n / 2 ^ i:Nat):Int):=by simp
theorem U0 {n:Nat} (st:St h G) (hn:n < 256):Ans ctx 15 [iQ vQ (n:Int)] h fun w h'=>∃ G' sl,Stp (fun _=>False) h G h' G'∧Arr G' 3 w sl.length (Dl sl)∧sl.length≤3∧∀ s,s∈sl→s.2.1≤3:=by
 refine aO Tryz.f15 ?_;simp only [Tryz.f15];simp only [seval,go_sem];refine Ao (fun i e h'=>(∃ u sl,Own h' (h.nx+1) 130 3 u sl.length (Dl sl)∧e.get 3=some u∧sl.length≤i∧∀ s,s∈sl→s.2.1≤3)∧Gro h G h'∧h'.m.get h.nx=some (cQ [sQ [99,108,97,115,115],sQ [105,100],sQ [122,57]] 9)∧h.nx < h'.nx∧i≤3∧e.get 0=some (iQ vQ (n:Int))∧e.get 4=some (.sl h.nx 0 3 3)∧e.get 5=some (iQ wQ i)) (fun i=>3 - i) 0 ?_ ?_
 ·exact ⟨⟨_,[],Or.inl ⟨rfl,rfl,rfl⟩,by simp [Tr.get_set],Nat.le_refl _,fun s hs=>by cases hs⟩,(Stp.refl st).new,Au,by simp only [Ac];omega,tM,by simp [Tr.get_set]⟩
 rintro i e z ⟨⟨u,sl,D,U,am,aa⟩,O,gN,lx,hi,Z,e4,e5⟩ lp;simp only [seval,go_sem,e5];refine Cr (fun E=>?_) (fun E=>?_)
 ·have E:i < 3:=by have:=of_decide_eq_true E;omega
  have w:=wI i;have w3:IntKind.i64.wrap ((3:Int)+(i:Int))=((3+i:Nat):Int):=by rw [show (3:Int)+(i:Int)=((3+i:Nat):Int) by omega];exact Bz tM
  have t2:((n / 2 ^ i:Nat):Int).tmod 2=((n / 2 ^ i % 2:Nat):Int):=rfl;have t4:((n / 2 ^ (3+i):Nat):Int).tmod 4=((n / 2 ^ (3+i) % 4:Nat):Int):=rfl;have ag:n / 2 ^ (3+i) % 4 < 4:=Nat.mod_lt _ tM;generalize hf:n / 2 ^ (3+i) % 4=f at t4 ag;have i8:i≤8:=tM;have i9:3+i≤8:=tM;obtain ⟨nm,ah⟩:∃ nm:Str,z.read h.nx i 1=some [sQ nm]:=by
   rw [Ab gN];rcases (by omega:i=0∨i=1∨i=2) with rfl | rfl | rfl
   all_goals exact ⟨_,rfl⟩
  simp only [seval,go_sem,Z,U,e4,e5,kuu,Arw,kb8,dv2,t2,i8];refine Cr (fun ae=>?_) (fun ae=>?_)
  ·simp only [seval,go_sem,Z,U,e4,e5,kuu,Arw,kb8,dv2,t2,t4,i8,i9,w3,ah,E,Ed];have pS:∀ {B1 B2},Gro z G ((((z.up 12).at (z.nx+10) B1)).at (z.nx+10) B2):=fun {B1 B2}=>(((Stp.refl O.st).up).at (Or.inl tM) (by simp only [Ai];omega) (O.st.none tM)).at (Or.inl tM) (by simp only [Ag,Ai];omega) (O.st.none tM);generalize hS:H.at (H.at _ (z.nx+10) _) (z.nx+10) _=S;have gS:S.m.get (z.nx+10)=some (cQ [sQ nm,iQ vQ (f:Int),sQ []] 130):=by rw [← hS];exact Ap
   have pS:Gro z G S:=by rw [← hS];exact pS
   have nS:=pS.nx;have rS:S.read (z.nx+10) 0 3=some [sQ nm,iQ vQ (f:Int),sQ []]:=(Ab gS).trans rfl;refine Cr (fun af=>?_) (fun af=>?_)
   ·have h7:n / 128 < 2:=tM;obtain ⟨vl,aj⟩:∃ vl:Str,Aq (n / 128) 1 [AV.str [],sQ [118]]=some [sQ vl]:=by
     rcases (by omega:n / 128=0∨n / 128=1) with e | e <;> rw [e] <;> exact ⟨_,rfl⟩
    have i7:((7:Nat)≤8)=True:=eq_true tM;have d7:(n:Int) / 128=((n / 128:Nat):Int):=rfl;have lS:S.nx≤z.nx+10↔False:=⟨fun hh=>by have:=Ah pS.st.1 gS;omega,False.elim⟩;have pW:∀ {B1 B2},Gro z G ((S.new B1).at (z.nx+10) B2):=fun {B1 B2}=>pS.new.at (Or.inl tM) (by simp only [Ac];have:=Ah pS.st.1 gS;omega) (O.st.none tM);simp only [seval,go_sem,Z,U,e4,e5,kuw,Arw,kb8,i7,d7,h7,Ed,aj,gS,lS];generalize hW:H.at (H.new S _) (z.nx+10) _=W;have gW:W.m.get (z.nx+10)=some (cQ [sQ nm,iQ vQ (f:Int),sQ vl] 130):=by rw [← hW];exact Ap
    have pW:Gro z G W:=by rw [← hW];exact pW
    have rW:W.read (z.nx+10) 0 3=some [sQ nm,iQ vQ (f:Int),sQ vl]:=(Ab gW).trans rfl;have ac:=D.len;simp only [seval,go_sem,Z,U,e4,e5,rW,ac];have gT:=gW;have I:Gro z G (W.new (cQ [sQ nm,iQ vQ (f:Int),sQ vl] 130)):=pW.new;have ab:=D.mv I O.st.1 (fun _ _ h=>h);have ul:=D.len;obtain ⟨u',h5,c5,Y,ak,J,ai⟩:=Di (C:=ctx) (k:=0) (new:=[sQ nm,iQ vQ (f:Int),sQ vl]) ab tM (Be (by rw [by130];omega) tM) (by rw [A7,Ln];rfl) rfl (by have:=I.nx;omega) I.st (fun q hq=>st.none (by have:=D.vb hq;omega));have uo:=Y.one;simp only [seval,go_sem,Z,U,e4,e5,ul,c5,w];have px:=(O.trans I).in J (fun j hj hw=>by have:=D.vb hw;omega);have n5:=J.nx;have nV:=I.nx;exact lp (i+1) _ _ tM ⟨⟨u',sl++[(nm,f,vl)],by rw [Lo,List.length_append];exact Y,by simp [Tr.get_set,U],by rw [List.length_append];simp only [List.length_singleton];omega,fun s hs=>by
     rcases List.mem_append.1 hs with hs | hs
     ·exact aa s hs
     ·rw [List.mem_singleton.1 hs];show f≤3;omega⟩,px,J.gt I.st.1 (I.gt O.st.1 gN (fun h=>h)) (fun hw=>by have:=D.vb hw;omega),tM,E,by simp [Tr.get_set,Z,e4]⟩
   ·have ac:=D.len;simp only [seval,go_sem,Z,U,e4,e5,rS,ac];have gT:=gS;have I:Gro z G (S.new (cQ [sQ nm,iQ vQ (f:Int),sQ []] 130)):=pS.new;have ab:=D.mv I O.st.1 (fun _ _ h=>h);have ul:=D.len;obtain ⟨u',h5,c5,Y,ak,J,ai⟩:=Di (C:=ctx) (k:=0) (new:=[sQ nm,iQ vQ (f:Int),sQ []]) ab tM (Be (by rw [by130];omega) tM) (by rw [A7,Ln];rfl) rfl (by have:=I.nx;omega) I.st (fun q hq=>st.none (by have:=D.vb hq;omega));have uo:=Y.one;simp only [seval,go_sem,Z,U,e4,e5,ul,c5,w];have px:=(O.trans I).in J (fun j hj hw=>by have:=D.vb hw;omega);have n5:=J.nx;have nV:=I.nx;exact lp (i+1) _ _ tM ⟨⟨u',sl++[(nm,f,[])],by rw [Lo,List.length_append];exact Y,by simp [Tr.get_set,U],by rw [List.length_append];simp only [List.length_singleton];omega,fun s hs=>by
     rcases List.mem_append.1 hs with hs | hs
     ·exact aa s hs
     ·rw [List.mem_singleton.1 hs];show f≤3;omega⟩,px,J.gt I.st.1 (I.gt O.st.1 gN (fun h=>h)) (fun hw=>by have:=D.vb hw;omega),tM,E,by simp [Tr.get_set,Z,e4]⟩
  ·simp only [seval,go_sem,e5,w];exact lp (i+1) _ _ tM ⟨⟨u,sl,D,by simp [Tr.get_set,U],tM,aa⟩,O,gN,lx,E,by simp [Tr.get_set,Z,e4]⟩
 ·simp only [seval,go_sem,U];obtain ⟨G2,p3,_,ax⟩:=D.frz2 O tM (fun q hq=>st.none (by
   rcases hq with hq | hq
   ·have:=D.vb hq;omega
   ·rcases D with ⟨rfl,_⟩ | ⟨q',h1,rfl,_⟩ | ⟨q',h1,rfl,_⟩ <;> cases hq
    omega))
  exact ⟨G2,sl,p3,ax,tM,aa⟩
end
section
variable {h h':H} {G G':Fz} {d b L p q:Nat} {m:D.M} {sl:List Sl} {k k1 k2:Hd}
theorem by31:bytes ctx 31=104:=kR
theorem Aqg {k:Nat} (h:k < 256):IntKind.u8.wrap (k:Int)=k:=by simp [IntKind.wrap,IntKind.signed,IntKind.bits];omega
theorem RPs.one {G:Fz}:∀ {l:List PT} {cs:List AV},RPs G l cs→Af cs=true
 | [],cs,h=>by rw [show cs=[] from h];rfl
 | t::l,cs,⟨x,r,h1,h2,h3⟩=>by rw [h1,A7,h2.one,RPs.one h3];rfl
theorem Arr.u8 {h:H} (s:St h G) {l:List UInt8} {v:AV} {j:Nat} (a:Arr G 1 v l.length (u8C l)) (E:j < l.length):∃ b o,ixA 1 j v=some (jQ b (o+j))∧G.read b (o+j) 1=some [iQ vQ (l[j].toNat:Int)]:=by
 obtain ⟨b,o,D,z⟩:=a.el s E;rw [Nat.mul_one] at D z;refine ⟨b,o,D,?_⟩;unfold u8C at z;rw [Fz.cut z tM,← List.map_drop,List.drop_eq_getElem_cons E];rfl
structure BdI (h:H) (G:Fz) (v:AV) (ts:List PT) (h':H) (G':Fz):Prop where
 p:Stp (fun _=>False) h G h' G'
 own:∃ cs,Own h' h.nx 31 6 v ts.length cs∧RPs G' ts cs
 vb:∀ j,VB v j∨v=.sl j 0 0 0→G' j=none
 ok:okPs ts=true
theorem BdI.lv {v:AV} {ts:List PT} (a:BdI h G v ts h' G'):Db v=some ts.length:=by
 obtain ⟨cs,o,_⟩:=a.own;exact o.len
theorem BdI.one {v:AV} {ts:List PT} (a:BdI h G v ts h' G'):C9 v=true:=by
 obtain ⟨cs,o,_⟩:=a.own;exact o.one
theorem BdI.mv {v:AV} {ts:List PT} {D:H} {z:Fz} (a:BdI h G v ts h' G') (p:Stp (fun _=>False) h' G' D z):BdI h G v ts D z:=by
 obtain ⟨cs,o,r⟩:=a.own;exact ⟨a.p.trans p,⟨cs,o.mv p a.p.st.1 (fun _ _ h=>h),RPs.mono (p.le a.p.st) _ _ r⟩,fun j E=>(p.old j (VB.lt o a.p.st.1 E)).trans (a.vb j E),a.ok⟩
theorem BdI.app {v:AV} {ts:List PT} {t:PT} {Z:List AV} (a:BdI h G v ts h' G') (hn:ts.length≤1000) (O:RP G' t Z) (hf:okP t=true) :
  ∃ E I,Ig ctx 31 6 ts.length 1 v h' Z=some (E,I)∧C9 E = true∧BdI h G E (ts++[t]) I G':=by
 obtain ⟨cs,o,r⟩:=a.own;have x6:=RP.len _ _ O;have xo:=O.one;have co:=r.one;obtain ⟨E,I,Y,D,aa,U,J⟩:=Di (C:=ctx) (k:=0) (new:=Z) o tM (Be (by rw [by31];omega) tM) (by rw [A7,co,xo];rfl) tM a.p.nx a.p.st (fun j z=>a.vb j (Or.inl z));have px:=a.p.in U (fun j z hw=>by have:=o.vb hw;omega);refine ⟨E,I,Y,D.one,⟨px,⟨_,by rw [List.length_append];exact D,r.snoc O⟩,fun j z=>?_,Aaa a.ok hf⟩⟩;rw [J] at z;rcases z with ⟨_,e⟩ | e
 ·cases e;exact a.p.st.none (Nat.le_refl _)
 ·cases e
theorem BdI.frz {v:AV} {ts:List PT} (a:BdI h G v ts h' G'):∃ z cs,Stp (fun _=>False) h G h' z∧Arr z 6 v ts.length cs∧RPs z ts cs:=by
 obtain ⟨cs,o,r⟩:=a.own;obtain ⟨z,I,E,D⟩:=o.frz2 a.p (Nat.le_refl _) a.vb;exact ⟨z,cs,I,D,RPs.mono E _ _ r⟩
def BdOk (at_:Nat) (G:Fz) (h:H) (w:AV) (h':H):Prop:=∃ G' u ps cs,∃ z:Nat,w=.tup [u,iQ wQ (z:Int)]∧Stp (fun _=>False) h G h' G'∧Arr G' 6 u ps.length cs∧RPs G' ps cs∧okPs ps=true∧ps.length+at_≤z∧z≤max at_ 11
def Bd16 (k:Nat):Prop:=∀ {h:H} {G:Fz} {v:AV} {l:List UInt8} {at_ lv:Nat},St h G→Arr G 1 v l.length (u8C l)→lv+k=4→Ans ctx 16 [v,iQ wQ (at_:Int),iQ wQ (lv:Int)] h (BdOk at_ G h)
theorem bd_step {k:Nat} (ih:∀ j,j < k→Bd16 j):Bd16 k:=by
 intro h G v l at_ lv st hv av;have ac:=hv.len;refine aO Tryz.f16 ?_;simp only [Tryz.f16];simp only [seval,go_sem];refine Ao (fun a e h'=>(∃ G' u ps,BdI h G u ps h' G'∧e.get 8=some u∧ps.length+at_≤a)∧a≤max at_ 11∧e.get 0=some v∧e.get 1=some (iQ wQ (a:Int))∧e.get 2=some (iQ wQ (lv:Int))) (fun a=>11 - a) at_ ?_ ?_
 ·exact ⟨⟨G,_,[],⟨Stp.refl st,⟨[],Or.inl ⟨rfl,rfl,rfl⟩,rfl⟩,fun j hj=>by (rcases hj with ⟨_,e⟩ | e <;> cases e),rfl⟩,by simp [Tr.get_set],by simp⟩,tM,by simp [Tr.get_set]⟩
 rintro a e h2 ⟨⟨G2,u,ps,M,J,am⟩,ha,D,Y,E⟩ lp;have ul:=M.lv;have uo:=M.one;have fin:∀ z:Nat,ps.length+at_≤z→z≤max at_ 11→BdOk at_ G h (.tup [u,iQ wQ (z:Int)]) h2:=fun z h1 ao=>by
  obtain ⟨G3,cs,p3,a3,r3⟩:=M.frz;exact ⟨G3,u,ps,cs,z,rfl,p3,a3,r3,M.ok,h1,ao⟩
 by_cases c1:a < l.length
 rotate_left
 ·have aa:((a:Int) < (l.length:Int))=False:=eq_false tM;simp only [seval,go_sem,D,Y,E,J,ac,aa];exact fin a am ha
 have aa:((a:Int) < (l.length:Int))=True:=eq_true tM
 by_cases c2:a < 11
 rotate_left
 ·have ab:((a:Int) < 11)=False:=eq_false tM;simp only [seval,go_sem,D,Y,E,J,ac,aa,ab];exact fin a am ha
 have ab:((a:Int) < 11)=True:=eq_true tM;have wa:=wI a;obtain ⟨vb,vo,v1,v2⟩:=(hv.mono (M.p.le st)).u8 M.p.st c1;have ag:=l[a].toNat_lt;generalize l[a].toNat=c at v2 ag;have ag:c < 256:=ag;have dm:∀ k:Nat,(c:Int).tmod (k:Int)=((c % k:Nat):Int):=fun _=>rfl;have m8:(c:Int).tmod 8=((c % 8:Nat):Int):=rfl;have d8:(c:Int).tdiv 8=((c / 8:Nat):Int):=rfl;have d4:(c:Int).tdiv 4=((c / 4:Nat):Int):=rfl;have d2:(c:Int).tdiv 2=((c / 2:Nat):Int):=rfl;have w8:IntKind.u8.wrap ((c / 8:Nat):Int)=((c / 8:Nat):Int):=Aqg tM;have w4:IntKind.u8.wrap ((c / 4:Nat):Int)=((c / 4:Nat):Int):=Aqg tM;have w2:IntKind.u8.wrap ((c / 2:Nat):Int)=((c / 2:Nat):Int):=Aqg tM;have t2:((c / 8:Nat):Int).tmod 2=((c / 8 % 2:Nat):Int):=rfl;have an:c / 8 % 2 < 2:=Nat.mod_lt _ tM;have aq:c % 8 < 8:=Nat.mod_lt _ tM;generalize hm:c % 8=m at m8 aq;have au:ps.length≤11:=tM
 by_cases k0:m=0
 ·skip
  have q0:((m:Int)=0)=True:=eq_true tM;simp only [seval,go_sem,D,Y,E,J,dm,wa,ac,aa,ab,v1,M.p.st.read v2,m8,q0];exact fin (a+1) tM tM
 by_cases k1:m=1
 ·skip
  have q0:((m:Int)=0)=False:=eq_false tM;have q1:((m:Int)=1)=True:=eq_true tM;obtain ⟨tx,ar⟩:∃ tx:Str,Aq (c / 8 % 2) 1 [AV.str [],sQ [120]]=some [sQ tx]:=by
   rcases (by omega:c / 8 % 2=0∨c / 8 % 2=1) with e | e <;> rw [e] <;> exact ⟨_,rfl⟩
  simp only [seval,go_sem,D,Y,E,J,dm,wa,ac,aa,ab,v1,M.p.st.read v2,m8,q0,q1,d8,w8,t2,an,Ed,ar,ul];have pV:Stp (fun _=>False) h2 G2 ((h2.new (cQ [sQ [],sQ [120]] 9)).new (cQ [iQ vQ 2,sQ [],sQ [],(():AV),sQ tx,(():AV)] 31)) G2:=(Stp.refl M.p.st).new.new;have MV:=M.mv pV;have Wr:RP G2 (.nd 2 [] [] tx [] []) [iQ vQ 2,sQ [],sQ [],(():AV),sQ tx,(():AV)]:=⟨_,_,[],rfl,Or.inl ⟨rfl,rfl,rfl⟩,Or.inl ⟨rfl,rfl,rfl⟩,rfl⟩;obtain ⟨u',h9,c9,o9,M9⟩:=MV.app (t:=.nd 2 [] [] tx [] []) tM Wr rfl;simp only [seval,go_sem,D,E,J,ul,c9];exact lp (a+1) _ _ tM ⟨⟨G2,u',_,M9,by simp [Tr.get_set],by rw [List.length_append];simp only [List.length_singleton];omega⟩,tM,by simp [Tr.get_set,D,E]⟩
 by_cases k2:m=2
 ·skip
  have q0:((m:Int)=0)=False:=eq_false tM;have q1:((m:Int)=1)=False:=eq_false tM;have q2:((m:Int)=2)=True:=eq_true tM;simp only [seval,go_sem,D,Y,E,J,dm,wa,ac,aa,ab,v1,M.p.st.read v2,m8,q0,q1,q2,ul];have pV:Stp (fun _=>False) h2 G2 (h2.new (cQ [iQ vQ 3,sQ [],sQ [],(():AV),sQ [],(():AV)] 31)) G2:=(Stp.refl M.p.st).new;have MV:=M.mv pV;have Wr:RP G2 (.nd 3 [] [] [] [] []) [iQ vQ 3,sQ [],sQ [],(():AV),sQ [],(():AV)]:=⟨_,_,[],rfl,Or.inl ⟨rfl,rfl,rfl⟩,Or.inl ⟨rfl,rfl,rfl⟩,rfl⟩;obtain ⟨u',h9,c9,o9,M9⟩:=MV.app (t:=.nd 3 [] [] [] [] []) tM Wr rfl;simp only [seval,go_sem,D,E,J,ul,c9];exact lp (a+1) _ _ tM ⟨⟨G2,u',_,M9,by simp [Tr.get_set],by rw [List.length_append];simp only [List.length_singleton];omega⟩,tM,by simp [Tr.get_set,D,E]⟩
 by_cases k3:m=3
 ·skip
  have q0:((m:Int)=0)=False:=eq_false tM;have q1:((m:Int)=1)=False:=eq_false tM;have q2:((m:Int)=2)=False:=eq_false tM;have q3:((m:Int)=3)=True:=eq_true tM;simp only [seval,go_sem,D,Y,E,J,dm,wa,ac,aa,ab,v1,M.p.st.read v2,m8,q0,q1,q2,q3,ul];have pV:Stp (fun _=>False) h2 G2 (h2.new (cQ [iQ vQ 4,sQ [],sQ [],(():AV),sQ [],(():AV)] 31)) G2:=(Stp.refl M.p.st).new;have MV:=M.mv pV;have Wr:RP G2 (.nd 4 [] [] [] [] []) [iQ vQ 4,sQ [],sQ [],(():AV),sQ [],(():AV)]:=⟨_,_,[],rfl,Or.inl ⟨rfl,rfl,rfl⟩,Or.inl ⟨rfl,rfl,rfl⟩,rfl⟩;obtain ⟨u',h9,c9,o9,M9⟩:=MV.app (t:=.nd 4 [] [] [] [] []) tM Wr rfl;simp only [seval,go_sem,D,E,J,ul,c9];exact lp (a+1) _ _ tM ⟨⟨G2,u',_,M9,by simp [Tr.get_set],by rw [List.length_append];simp only [List.length_singleton];omega⟩,tM,by simp [Tr.get_set,D,E]⟩
 by_cases k4:m=4
 ·skip
  have q0:((m:Int)=0)=False:=eq_false tM;have q1:((m:Int)=1)=False:=eq_false tM;have q2:((m:Int)=2)=False:=eq_false tM;have q3:((m:Int)=3)=False:=eq_false tM;have q4:((m:Int)=4)=True:=eq_true tM;simp only [seval,go_sem,D,Y,E,J,dm,wa,ac,aa,ab,v1,M.p.st.read v2,m8,q0,q1,q2,q3,q4,ul,d8,w8];refine Ae (Arh M.p.st (show c / 8 < 256 by omega)) fun _ h3 ⟨⟨I,e3⟩,p3⟩=>?_;subst e3;simp only [seval,go_sem,D,Y,E,J,dm,wa,d4,w4];refine Ae (U0 p3.st (show c / 4 < 256 by omega)) fun sv U ⟨G4,sl,p4,sa,aj,ak⟩=>?_;have so:=sa.one;have P4:Stp (fun _=>False) h2 G2 U G4:=p3.trans p4;have O:(decide (sl.length≤3) && sl.all fun s=>decide (s.2.1≤3))=true:=by
   rw [Bool.and_eq_true,List.all_eq_true];exact ⟨decide_eq_true aj,fun s hs=>decide_eq_true (ak s hs)⟩
  rw [Bool.and_eq_true] at O;simp only [seval,go_sem,D,Y,E,J,dm,wa,so,ul];have pV:Stp (fun _=>False) h2 G2 (U.new (cQ [iQ vQ 5,sQ I,sQ [],sv,sQ [],(():AV)] 31)) G4:=P4.new;have MV:=M.mv pV;have Wr:RP G4 (.nd 5 I [] [] sl []) [iQ vQ 5,sQ I,sQ [],sv,sQ [],(():AV)]:=⟨_,_,[],rfl,sa,Or.inl ⟨rfl,rfl,rfl⟩,rfl⟩;obtain ⟨u',h9,c9,o9,M9⟩:=MV.app (t:=.nd 5 I [] [] sl []) tM Wr (by rw [okP,O.1,O.2];rfl);simp only [seval,go_sem,D,E,J,ul,c9];exact lp (a+1) _ _ tM ⟨⟨G4,u',_,M9,by simp [Tr.get_set],by rw [List.length_append];simp only [List.length_singleton];omega⟩,tM,by simp [Tr.get_set,D,E]⟩
 have q0:((m:Int)=0)=False:=eq_false tM;have q1:((m:Int)=1)=False:=eq_false tM;have q2:((m:Int)=2)=False:=eq_false tM;have q3:((m:Int)=3)=False:=eq_false tM;have q4:((m:Int)=4)=False:=eq_false tM;simp only [seval,go_sem,D,Y,E,J,dm,wa,ac,aa,ab,v1,M.p.st.read v2,m8,q0,q1,q2,q3,q4,ul,d8,w8];refine Ae (Arh M.p.st (show c / 8 < 256 by omega)) fun _ h3 ⟨⟨I,e3⟩,p3⟩=>?_;subst e3;simp only [seval,go_sem,D,Y,E,J,dm,wa,d2,w2];refine Ae (U0 p3.st (show c / 2 < 256 by omega)) fun sv U ⟨G4,sl,p4,sa,aj,ak⟩=>?_;have so:=sa.one;have P4:Stp (fun _=>False) h2 G2 U G4:=p3.trans p4;have O:(decide (sl.length≤3) && sl.all fun s=>decide (s.2.1≤3))=true:=by
  rw [Bool.and_eq_true,List.all_eq_true];exact ⟨decide_eq_true aj,fun s hs=>decide_eq_true (ak s hs)⟩
 rw [Bool.and_eq_true] at O;have pT:∀ {B1 B2},Stp (fun _=>False) h2 G2 ((U.new B1).at U.nx B2) G4:=fun {B1 B2}=>P4.new.at (Or.inl P4.nx) (by simp only [Ac];omega) (P4.st.none (Nat.le_refl _));simp only [seval,go_sem,D,Y,E,J,dm,wa,so,m8];generalize hS:H.at (H.new U _) U.nx _=S;have gS:S.m.get U.nx=some (cQ [iQ vQ 1,sQ I,sQ [],sv,sQ [],(():AV)] 31):=by rw [← hS];exact Ap
 have pS:Stp (fun _=>False) h2 G2 S G4:=by rw [← hS];exact pT
 refine Cr (fun c7=>?_) (fun c7=>?_)
 ·obtain ⟨ky,ap⟩:∃ ky:Str,Aq (c / 8 % 2) 1 [AV.str [117],sQ [107]]=some [sQ ky]:=by
   rcases (by omega:c / 8 % 2=0∨c / 8 % 2=1) with e | e <;> rw [e] <;> exact ⟨_,rfl⟩
  have lS:S.nx≤U.nx↔False:=⟨fun hh=>by have:=Ah pS.st.1 gS;omega,False.elim⟩;have pW:∀ {B1 B2},Stp (fun _=>False) h2 G2 ((S.new B1).at U.nx B2) G4:=fun {B1 B2}=>pS.new.at (Or.inl P4.nx) (by simp only [Ac];have:=Ah pS.st.1 gS;omega) (P4.st.none (Nat.le_refl _));simp only [seval,go_sem,D,Y,E,J,dm,wa,d8,w8,t2,an,Ed,ap,gS,lS,so];generalize hW:H.at (H.new S _) U.nx _=W;have gW:W.m.get U.nx=some (cQ [iQ vQ 1,sQ I,sQ ky,sv,sQ [],(():AV)] 31):=by rw [← hW];exact Ap
  have pW:Stp (fun _=>False) h2 G2 W G4:=by rw [← hW];exact pW
  have rK:W.read U.nx 0 6=some [iQ vQ 1,sQ I,sQ ky,sv,sQ [],(():AV)]:=(Ab gW).trans rfl;have ah:=Ah pW.st.1 gW
  by_cases lv4:lv < 4
  ·have Z:((lv:Int) < 4)=True:=eq_true tM;have wl:=wI lv;simp only [seval,go_sem,D,Y,E,J,dm,wa,Z,wl];refine Ae (ih (k - 1) tM pW.st ((hv.mono (M.p.le st)).mono (pW.le M.p.st)) (at_:=a+1) (lv:=lv+1) tM) fun _ h5 ⟨G5,u5,ae,af,z,e5,p5,a5,r5,ai,z1,z2⟩=>?_;subst e5;have g5:=p5.gt pW.st.1 gW (fun h=>h);have o5:=a5.one;have n5:G5 U.nx=none:=(p5.old _ ah).trans (P4.st.none (Nat.le_refl _));have pQ:Stp (fun _=>False) h2 G2 (h5.at U.nx (cQ [iQ vQ 1,sQ I,sQ ky,sv,sQ [],u5] 31)) G5:=(pW.trans p5).at (Or.inl P4.nx) (Ah p5.st.1 g5) n5;have rQ:(h5.at U.nx (cQ [iQ vQ 1,sQ I,sQ ky,sv,sQ [],u5] 31)).read U.nx 0 6=some [iQ vQ 1,sQ I,sQ ky,sv,sQ [],u5]:=(Ab Ap).trans rfl;simp only [seval,go_sem,D,Y,E,J,dm,wa,g5,o5,so];have pV:Stp (fun _=>False) h2 G2 ((h5.at U.nx (cQ [iQ vQ 1,sQ I,sQ ky,sv,sQ [],u5] 31)).new (cQ [iQ vQ 1,sQ I,sQ ky,sv,sQ [],u5] 31)) G5:=pQ.new;have MV:=M.mv pV;have Wr:RP G5 (.nd 1 I ky [] sl ae) [iQ vQ 1,sQ I,sQ ky,sv,sQ [],u5]:=⟨_,_,af,rfl,sa.mono (p5.le pW.st),a5,r5⟩;obtain ⟨u',h9,c9,o9,M9⟩:=MV.app (t:=.nd 1 I ky [] sl ae) tM Wr (by rw [okP,O.1,O.2,ai,decide_eq_true (show ae.length≤11 by omega)];rfl);simp only [seval,go_sem,D,Y,E,J,ul,c9];exact lp (z) _ _ tM ⟨⟨G5,u',_,M9,by simp [Tr.get_set],by rw [List.length_append];simp only [List.length_singleton];omega⟩,tM,by simp [Tr.get_set,D,E]⟩
  ·have Z:((lv:Int) < 4)=False:=eq_false tM;simp only [seval,go_sem,D,Y,E,J,dm,wa,Z,rK,so];have pV:Stp (fun _=>False) h2 G2 (W.new (cQ [iQ vQ 1,sQ I,sQ ky,sv,sQ [],(():AV)] 31)) G4:=pW.new;have MV:=M.mv pV;have Wr:RP G4 (.nd 1 I ky [] sl []) [iQ vQ 1,sQ I,sQ ky,sv,sQ [],(():AV)]:=⟨_,_,[],rfl,sa,Or.inl ⟨rfl,rfl,rfl⟩,rfl⟩;obtain ⟨u',h9,c9,o9,M9⟩:=MV.app (t:=.nd 1 I ky [] sl []) tM Wr (by rw [okP,O.1,O.2];rfl);simp only [seval,go_sem,D,Y,E,J,ul,c9];exact lp (a+1) _ _ tM ⟨⟨G4,u',_,M9,by simp [Tr.get_set],by rw [List.length_append];simp only [List.length_singleton];omega⟩,tM,by simp [Tr.get_set,D,E]⟩
 ·simp only [seval,go_sem];have rK:S.read U.nx 0 6=some [iQ vQ 1,sQ I,sQ [],sv,sQ [],(():AV)]:=(Ab gS).trans rfl;have ah:=Ah pS.st.1 gS
  by_cases lv4:lv < 4
  ·have Z:((lv:Int) < 4)=True:=eq_true tM;have wl:=wI lv;simp only [seval,go_sem,D,Y,E,J,dm,wa,Z,wl];refine Ae (ih (k - 1) tM pS.st ((hv.mono (M.p.le st)).mono (pS.le M.p.st)) (at_:=a+1) (lv:=lv+1) tM) fun _ h5 ⟨G5,u5,ae,af,z,e5,p5,a5,r5,ai,z1,z2⟩=>?_;subst e5;have g5:=p5.gt pS.st.1 gS (fun h=>h);have o5:=a5.one;have n5:G5 U.nx=none:=(p5.old _ ah).trans (P4.st.none (Nat.le_refl _));have pQ:Stp (fun _=>False) h2 G2 (h5.at U.nx (cQ [iQ vQ 1,sQ I,sQ [],sv,sQ [],u5] 31)) G5:=(pS.trans p5).at (Or.inl P4.nx) (Ah p5.st.1 g5) n5;have rQ:(h5.at U.nx (cQ [iQ vQ 1,sQ I,sQ [],sv,sQ [],u5] 31)).read U.nx 0 6=some [iQ vQ 1,sQ I,sQ [],sv,sQ [],u5]:=(Ab Ap).trans rfl;simp only [seval,go_sem,D,Y,E,J,dm,wa,g5,o5,so];have pV:Stp (fun _=>False) h2 G2 ((h5.at U.nx (cQ [iQ vQ 1,sQ I,sQ [],sv,sQ [],u5] 31)).new (cQ [iQ vQ 1,sQ I,sQ [],sv,sQ [],u5] 31)) G5:=pQ.new;have MV:=M.mv pV;have Wr:RP G5 (.nd 1 I [] [] sl ae) [iQ vQ 1,sQ I,sQ [],sv,sQ [],u5]:=⟨_,_,af,rfl,sa.mono (p5.le pS.st),a5,r5⟩;obtain ⟨u',h9,c9,o9,M9⟩:=MV.app (t:=.nd 1 I [] [] sl ae) tM Wr (by rw [okP,O.1,O.2,ai,decide_eq_true (show ae.length≤11 by omega)];rfl);simp only [seval,go_sem,D,Y,E,J,ul,c9];exact lp (z) _ _ tM ⟨⟨G5,u',_,M9,by simp [Tr.get_set],by rw [List.length_append];simp only [List.length_singleton];omega⟩,tM,by simp [Tr.get_set,D,E]⟩
  ·have Z:((lv:Int) < 4)=False:=eq_false tM;simp only [seval,go_sem,D,Y,E,J,dm,wa,Z,rK,so];have pV:Stp (fun _=>False) h2 G2 (S.new (cQ [iQ vQ 1,sQ I,sQ [],sv,sQ [],(():AV)] 31)) G4:=pS.new;have MV:=M.mv pV;have Wr:RP G4 (.nd 1 I [] [] sl []) [iQ vQ 1,sQ I,sQ [],sv,sQ [],(():AV)]:=⟨_,_,[],rfl,sa,Or.inl ⟨rfl,rfl,rfl⟩,rfl⟩;obtain ⟨u',h9,c9,o9,M9⟩:=MV.app (t:=.nd 1 I [] [] sl []) tM Wr (by rw [okP,O.1,O.2];rfl);simp only [seval,go_sem,D,Y,E,J,ul,c9];exact lp (a+1) _ _ tM ⟨⟨G4,u',_,M9,by simp [Tr.get_set],by rw [List.length_append];simp only [List.length_singleton];omega⟩,tM,by simp [Tr.get_set,D,E]⟩
theorem build16:∀ k,Bd16 k:=fun k=>by
 induction k using Nat.strongRecOn with
 | _ k ih=>exact bd_step fun j z=>ih j z
end
section
variable {h h':H} {G G':Fz} {d b L p q:Nat} {m:D.M} {sl:List Sl} {k k1 k2:Hd}
theorem of4 {a b:Nat} {cv:AV} {l:List UInt8} (st:St h G) (ha:a < 256) (hb:b < 256) (hc:Arr G 1 cv l.length (u8C l)):Ans ctx 4 [gQ [iQ vQ (a:Int),iQ vQ (b:Int),cv]] h fun v h'=>∃ G' X p,v=gQ X∧Stp (fun _=>False) h G h' G'∧RP G' p X∧okP p=true∧p.kind=1:=by
 have co:=hc.one;refine aO Tryz.f4 ?_;simp only [Tryz.f4];have E:Gro h G ((h.new (cQ [iQ vQ (a:Int),iQ vQ (b:Int),cv] 24)).new (cQ [iQ vQ 0,sQ [],sQ [],(():AV),sQ [],(():AV)] 31)):=(Stp.refl st).new.new;generalize hS:((h.new (cQ [iQ vQ (a:Int),iQ vQ (b:Int),cv] 24)).new (cQ [iQ vQ 0,sQ [],sQ [],(():AV),sQ [],(():AV)] 31))=S at E;have gP:S.m.get h.nx=some (cQ [iQ vQ (a:Int),iQ vQ (b:Int),cv] 24):=by rw [← hS];simp (disch:=first | omega | (simp only [Ac,Ag,Ai] <;> omega) | fail) only [Bh,Ca,Cd,Bb,Az]
 have gZ:S.m.get (h.nx+1)=some (cQ [iQ vQ 0,sQ [],sQ [],(():AV),sQ [],(():AV)] 31):=by rw [← hS];simp (disch:=first | omega | (simp only [Ac,Ag,Ai] <;> omega) | fail) only [Bh,Ca,Cd,Bb,Az]
 have nS:S.nx=h.nx+2:=by rw [← hS];rfl
 have rP:∀ {g:H},g.m.get h.nx=some (cQ [iQ vQ (a:Int),iQ vQ (b:Int),cv] 24)→g.read h.nx 0 1=some [iQ vQ (a:Int)]∧g.read h.nx 1 1=some [iQ vQ (b:Int)]∧g.read h.nx 2 1=some [cv]:=fun e=>⟨(Ab e).trans rfl,(Ab e).trans rfl,(Ab e).trans rfl⟩;have pU:Gro S G (S.up 9):=(Stp.refl E.st).up;obtain ⟨_,h3,q3,⟨tg,rfl⟩,p3⟩:=Arh (n:=a) pU.st ha;obtain ⟨sv,h4,q4,G4,sl,p4,sa,ak,am⟩:=U0 (n:=b) p3.st hb;have so:=sa.one;have P3:=pU.trans p3;have P4:=P3.trans p4;have O:=P3.gt E.st.1 gP (fun h=>h);have ab:=p4.gt p3.st.1 O (fun h=>h);have ao:=P4.gt E.st.1 gZ (fun h=>h);obtain ⟨x0,x1,x2⟩:=rP gP;obtain ⟨y0,y1,y2⟩:=rP O;obtain ⟨z0,z1,z2⟩:=rP ab;have n3:=p3.nx;have n4:=p4.nx;simp only [Ai] at n3;have n7:G4 (S.nx+7)=none:=(P4.old (S.nx+7) |> fun _=>by rw [p4.old _ tM];exact E.st.none tM);have D:∀ {B1 B2},Stp (fun _=>False) S G ((h4.at (S.nx+7) B1).at (S.nx+7) B2) G4:=fun {B1 B2}=>(P4.at (Or.inl tM) tM n7).at (Or.inl tM) (by simp only [Ag];omega) n7;have ah:(h.nx=S.nx+7)=False:=eq_false tM;simp only [seval,go_sem,hS,co,x0,x1,x2,y0,y1,y2,z0,z1,z2,q3,q4,so,ah];generalize hW:H.at (H.at h4 (S.nx+7) _) (S.nx+7) _=W;have gW:W.m.get (S.nx+7)=some (cQ [iQ vQ 1,sQ tg,sQ [],sv,sQ [],(():AV)] 31):=by rw [← hW];exact Ap
 have D:Stp (fun _=>False) S G W G4:=by rw [← hW];exact D
 have ac:=D.gt E.st.1 gP (fun h=>h);have Y:=D.gt E.st.1 gZ (fun h=>h);obtain ⟨w0,w1,w2⟩:=rP ac;have ae:=(E.trans D).le st;refine Ae (build16 2 D.st (hc.mono ae) (at_:=0) (lv:=2) tM) fun _ h5 ⟨G5,u5,Z,aa,z,e5,I,a5,r5,aj,e51,an⟩=>?_;subst e5;have g5:=I.gt D.st.1 gW (fun h=>h);have o5:=a5.one;have U:=I.gt D.st.1 Y (fun h=>h);have ai:(h.nx+1=S.nx+7)=False:=eq_false tM;have rQ:(h5.at (S.nx+7) (cQ [iQ vQ 1,sQ tg,sQ [],sv,sQ [],u5] 31)).read (S.nx+7) 0 6=some [iQ vQ 1,sQ tg,sQ [],sv,sQ [],u5]:=(Ab Ap).trans rfl;simp only [seval,go_sem,g5,o5,so,ai,U];have P5:=(E.trans D).trans I;have lW:=Ah D.st.1 gW;have ag:G5 (S.nx+7)=none:=(I.old _ lW).trans ((D.old (S.nx+7) |> fun _=>n7));have af:G5 (h.nx+1)=none:=(I.old _ (Ah D.st.1 Y)).trans ((D.old _ tM).trans (st.none tM));refine ⟨G5,[iQ vQ 1,sQ tg,sQ [],sv,sQ [],u5],.nd 1 tg [] [] sl Z,rfl,(P5.at (Or.inl tM) (Ah I.st.1 g5) ag).at (Or.inl tM) (by simp only [Ag];exact Ah I.st.1 U) af,⟨_,_,aa,rfl,sa.mono ((I.le D.st)),a5,r5⟩,?_,rfl⟩;have J:(decide (sl.length≤3) && sl.all fun s=>decide (s.2.1≤3))=true:=by
  rw [Bool.and_eq_true,List.all_eq_true];exact ⟨decide_eq_true ak,fun s hs=>decide_eq_true (am s hs)⟩
 rw [Bool.and_eq_true] at J;rw [okP,J.1,J.2,aj,decide_eq_true (show Z.length≤11 by omega)];rfl
end
section
variable {h h':H} {G G':Fz} {d b L p q:Nat} {m:D.M} {sl:List Sl} {k k1 k2:Hd}
theorem by9:bytes ctx 9=16:=kR
theorem Sk:∀ {l:List Str},Af (I0 l)=true
 | []=>rfl
 | x::l=>by
  show (true && Af (I0 l))=true;rw [Sk];rfl
theorem of6 {a b:Nat} {cv:AV} {l:List UInt8} (st:St h G) (ha:a < 65536) (hb:b < 256) (hc:Arr G 1 cv l.length (u8C l)):Ans ctx 6 [gQ [iQ .u16 (a:Int),iQ vQ (b:Int),cv]] h fun v h'=>∃ G' X x,v=gQ X∧Stp (fun _=>False) h G h' G'∧RI G' x X∧okI x:=by
 have co:=hc.one;have cl:=hc.len;refine aO Tryz.f6 ?_;simp only [Tryz.f6];have Z:Gro h G ((h.new (cQ [iQ .u16 (a:Int),iQ vQ (b:Int),cv] 27)).new (cQ [iQ .u64 0,iQ vQ 0,sQ [],(():AV)] 43)):=(Stp.refl st).new.new;generalize hS:((h.new (cQ [iQ .u16 (a:Int),iQ vQ (b:Int),cv] 27)).new (cQ [iQ .u64 0,iQ vQ 0,sQ [],(():AV)] 43))=S at Z;have gP:S.m.get h.nx=some (cQ [iQ .u16 (a:Int),iQ vQ (b:Int),cv] 27):=by rw [← hS];simp (disch:=first | omega | (simp only [Ac,Ag,Ai] <;> omega) | fail) only [Bh,Ca,Cd,Bb,Az]
 have gZ:S.m.get (h.nx+1)=some (cQ [iQ .u64 0,iQ vQ 0,sQ [],(():AV)] 43):=by rw [← hS];simp (disch:=first | omega | (simp only [Ac,Ag,Ai] <;> omega) | fail) only [Bh,Ca,Cd,Bb,Az]
 have nS:S.nx=h.nx+2:=by rw [← hS];rfl
 have rP:∀ {g:H},g.m.get h.nx=some (cQ [iQ .u16 (a:Int),iQ vQ (b:Int),cv] 27)→g.read h.nx 0 1=some [iQ .u16 (a:Int)]∧g.read h.nx 1 1=some [iQ vQ (b:Int)]∧g.read h.nx 2 1=some [cv]:=fun e=>⟨(Ab e).trans rfl,(Ab e).trans rfl,(Ab e).trans rfl⟩;obtain ⟨x0,x1,x2⟩:=rP gP;have wa:IntKind.u64.wrap (a:Int)=(a:Int):=Ll tM;have wb:IntKind.u64.wrap (1+(a:Int))=((a+1:Nat):Int):=by rw [show (1:Int)+(a:Int)=((a+1:Nat):Int) by omega];exact Ll tM
 have m4:(b:Int).tmod 4=((b % 4:Nat):Int):=rfl;have h4:b % 4 < 4:=Nat.mod_lt _ tM;obtain ⟨E,ak⟩:∃ E:Str,Aq (b % 4) 1 [AV.str [],sQ [104,105],sQ [97,32,34,98,34],sQ [48]]=some [sQ E]:=by
  rcases (by omega:b % 4=0∨b % 4=1∨b % 4=2∨b % 4=3) with e | e | e | e <;> rw [e] <;> exact ⟨_,rfl⟩
 have pW:∀ {B0 B1 B2},Gro S G ((((S.up 13).at (S.nx+4) B0).at (S.nx+11) B1).at (S.nx+11) B2):=fun {B0 B1 B2}=>((((Stp.refl Z.st).up).at (Or.inl tM) (by simp only [Ai];omega) (Z.st.none tM)).at (Or.inl tM) (by simp only [Ag,Ai];omega) (Z.st.none tM)).at (Or.inl tM) (by simp only [Ag,Ai];omega) (Z.st.none tM);have am:(h.nx=S.nx+11)=False:=eq_false tM;have an:(h.nx=S.nx+4)=False:=eq_false tM;have aw:S.read (S.nx+4) (b % 4) 1=none:=by unfold H.read;rw [Z.st.1 _ tM]
 simp only [seval,go_sem,hS,co,x0,x1,x2,wa,wb,m4,h4,Ed,ak,am,an,aw,rdw_l,or_n];generalize hW:H.at (H.at _ (S.nx+11) _) (S.nx+11) _=W;have gW:W.m.get (S.nx+11)=some (cQ [iQ .u64 ((a+1:Nat):Int),iQ vQ 0,sQ E,(():AV)] 43):=by rw [← hW];exact Ap
 have nW:W.nx=S.nx+13:=by rw [← hW];rfl
 have pW:Gro S G W:=by rw [← hW];exact pW
 have PW:=Z.trans pW;have ag:=pW.gt Z.st.1 gP (fun h=>h);have ah:=pW.gt Z.st.1 gZ (fun h=>h);refine Ao (fun i e h'=>(∃ u Y,Own h' W.nx 9 1 u Y.length (I0 Y)∧h'.m.get (S.nx+11)=some (cQ [iQ .u64 ((a+1:Nat):Int),iQ vQ 0,sQ E,u] 43)∧Y.length≤i)∧Gro h G h'∧W.nx≤h'.nx∧h'.m.get h.nx=some (cQ [iQ .u16 (a:Int),iQ vQ (b:Int),cv] 27)∧h'.m.get (h.nx+1)=some (cQ [iQ .u64 0,iQ vQ 0,sQ [],(():AV)] 43)∧i≤4∧e.get 1=some (jQ h.nx 0)∧e.get 2=some (jQ (h.nx+1) 0)∧e.get 3=some (jQ (S.nx+11) 0)∧e.get 4=some (iQ wQ i)) (fun i=>4 - i) 0 ?_ ?_
 ·exact ⟨⟨_,[],Or.inl ⟨rfl,rfl,rfl⟩,gW,Nat.le_refl _⟩,PW,Nat.le_refl _,ag,ah,Nat.zero_le _,by simp [Tr.get_set]⟩
 rintro i e D ⟨⟨u,Y,J,gI,a0⟩,z,lx,ae,I,hi,e1,e2,e3,e4⟩ lp;have uo:=J.one;have ul:=J.len;obtain ⟨y0,y1,y2⟩:=rP ae;have lQ:=Ah z.st.1 gI;have fin:∃ G' X x,AV.agg [iQ .u64 ((a+1:Nat):Int),iQ vQ 0,sQ E,u]=gQ X∧Stp (fun _=>False) h G (D.at (h.nx+1) (cQ [iQ .u64 ((a+1:Nat):Int),iQ vQ 0,sQ E,u] 43)) G'∧RI G' x X∧okI x:=by
  have p3:Gro h G (D.at (h.nx+1) (cQ [iQ .u64 ((a+1:Nat):Int),iQ vQ 0,sQ E,u] 43)):=z.at (Or.inl tM) (Ah z.st.1 I) (st.none tM);have aq:=J.mv (h':=D.at (h.nx+1) (cQ [iQ .u64 ((a+1:Nat):Int),iQ vQ 0,sQ E,u] 43)) (W:=fun j=>j=h.nx+1) (G:=G) (G':=G) ((Stp.refl z.st).at (Or.inr rfl) (Ah z.st.1 I) (st.none tM)) z.st.1 (fun j U hw=>by omega);obtain ⟨G2,p4,l4,ax⟩:=aq.frz2 p3 tM (fun j U=>st.none (by
   rcases U with U | U
   ·have:=J.vb U;omega
   ·rcases J with ⟨rfl,_⟩ | ⟨q',h1,rfl,_⟩ | ⟨q',h1,rfl,_⟩ <;> cases U
    omega))
  exact ⟨G2,_,⟨a+1,0,E,Y⟩,rfl,p4,⟨u,rfl,ax⟩,show a+1 < 100000 by omega,show Y.length≤4 by omega⟩
 have rI:D.read (S.nx+11) 0 4=some [iQ .u64 ((a+1:Nat):Int),iQ vQ 0,sQ E,u]:=(Ab gI).trans rfl;have a7:(h.nx+1=S.nx+11)=False:=eq_false tM
 by_cases c1:i < l.length
 rotate_left
 ·have O:((i:Int) < (l.length:Int))=False:=eq_false tM;simp only [seval,go_sem,e1,e2,e3,e4,y2,cl,O,rI,I,uo];exact fin
 have O:((i:Int) < (l.length:Int))=True:=eq_true tM
 by_cases c2:i < 4
 rotate_left
 ·have ab:((i:Int) < 4)=False:=eq_false tM;simp only [seval,go_sem,e1,e2,e3,e4,y2,cl,O,ab,rI,I,uo];exact fin
 have ab:((i:Int) < 4)=True:=eq_true tM;have wi:=wI i;obtain ⟨vb,vo,v1,v2⟩:=hc.u8 z.st c1;have ai:=l[i].toNat_lt;generalize l[i].toNat=c at v2 ai;have m6:(c:Int).tmod 6=((c % 6:Nat):Int):=rfl;have h6:c % 6 < 6:=Nat.mod_lt _ tM;obtain ⟨mk,aj⟩:∃ mk:Str,Aq (c % 6) 1 [AV.str [117],sQ [118],sQ [119],sQ [107],sQ [109,53],sQ [109,54]]=some [sQ mk]:=by
  rcases (by omega:c % 6=0∨c % 6=1∨c % 6=2∨c % 6=3∨c % 6=4∨c % 6=5) with e | e | e | e | e | e <;> rw [e] <;> exact ⟨_,rfl⟩
 have ay:D.read (D.nx+2) (c % 6) 1=none:=by unfold H.read;rw [z.st.1 _ tM]
 have av:D.read (S.nx+11) 3 1=some [u]:=(Ab gI).trans rfl;have pX:Gro D G (((D.up 15).at (D.nx+2) (cQ [AV.str [117],sQ [118],sQ [119],sQ [107],sQ [109,53],sQ [109,54]] 9)).at (D.nx+11) (cQ [sQ mk] 9)):=(((Stp.refl z.st).up).at (Or.inl tM) (by simp only [Ai];omega) (z.st.none tM)).at (Or.inl tM) (by simp only [Ag,Ai];omega) (z.st.none tM);have ar:=J.mv pX z.st.1 (fun _ _ h=>h);obtain ⟨u',h5,c5,af,a8,aa,a6⟩:=Di (C:=ctx) (k:=0) (new:=[sQ mk]) ar tM (Be (by rw [by9];omega) tM) (by rw [A7,Sk];rfl) rfl (by simp only [Ag,Ai];omega) pX.st (fun q hq=>st.none (by have:=J.vb hq;omega));have az:=af.one;have ac:=aa.gt pX.st.1 (pX.gt z.st.1 gI (fun h=>h)) (fun hw=>by have:=J.vb hw;omega);have ao:(S.nx+11=D.nx+2)=False:=eq_false tM;have ap:(S.nx+11=D.nx+11)=False:=eq_false tM;simp only [seval,go_sem,e1,e2,e3,e4,y2,cl,O,ab,rI,av,v1,z.st.read v2,m6,h6,Ed,aj,ay,rdw_l,or_n,uo,ul,c5,az,ac,ao,ap,wi];have px:=(z.trans pX).in aa (fun j U hw=>by have:=J.vb hw;omega);have n5:=aa.nx;simp only [Ag,Ai] at n5;have pY:Gro h G (h5.at (S.nx+11) (cQ [iQ .u64 ((a+1:Nat):Int),iQ vQ 0,sQ E,u'] 43)):=px.at (Or.inl tM) (Ah px.st.1 ac) (st.none tM);have au:=af.mv (h':=h5.at (S.nx+11) (cQ [iQ .u64 ((a+1:Nat):Int),iQ vQ 0,sQ E,u'] 43)) (W:=fun j=>j=S.nx+11) (G:=G) (G':=G) ((Stp.refl px.st).at (Or.inr rfl) (Ah px.st.1 ac) (st.none tM)) px.st.1 (fun j U hw=>by omega);have kp:∀ {j:Nat} {B:Blk},j < S.nx→D.m.get j=some B→(h5.at (S.nx+11) (cQ [iQ .u64 ((a+1:Nat):Int),iQ vQ 0,sQ E,u'] 43)).m.get j=some B:=fun {j B} U hb=>by
  rw [An tM];exact aa.gt pX.st.1 (pX.gt z.st.1 hb (fun h=>h)) (fun hw=>by have:=J.vb hw;omega)
 exact lp (i+1) _ _ tM ⟨⟨u',Y++[mk],by rw [show I0 (Y++[mk])=I0 Y++[AV.str mk] by unfold I0;rw [List.map_append];rfl,List.length_append];exact au,Ap,by rw [List.length_append];simp only [List.length_singleton];omega⟩,pY,by simp only [Ag];omega,kp tM ae,kp tM I,tM,by simp [Tr.get_set,e1,e2,e3]⟩
end
section
variable {h h':H} {G G':Fz} {d b L p q:Nat} {m:D.M} {sl:List Sl} {k k1 k2:Hd}
def PatOk (d:Nat) (m:V.D.M) (sl:List Sl) (b L:Nat) (ht:HT) (o n:T) (G:Fz) (h:H) (v:AV) (h':H):Prop:=∃ G' m' sl' b' ht',v=.tup [hdA ht.x,iQ wQ 0]∧Dm h' G' d m' sl' b' (L+204800)∧V.D.R m' none ht' n∧ht'.x=ht.x∧ht'.all.Nodup∧V.D.TopK o n ht ht'∧Stp (FP d b sl) h G h' G'∧∀ i,i < h.nx→FP d b' sl' i→FP d b sl i
theorem patch11 {ht:HT} {o n:T} {X Y:List AV} (D:Dm h G d m sl b L) (hr:V.D.R m none ht o) (aA:ht.all.Nodup) (hX:RT G o X) (hY:RT G n Y) (vo:A8 o∧few o=true) (vn:A8 n∧few n=true) (hk:o.kind=n.kind) (ah:o.tag=n.tag) (hL:L+204800≤1000000) :
  Ans ctx 11 [jQ d 0,hdA ht.x,gQ X,gQ Y] h (PatOk d m sl b L ht o n G h):=by
 have xo:=hX.one;have yo:=hY.one;have x6:=hX.len;have y6:=hY.len;have aB:Aq 0 6 X=some X:=by rw [← x6];exact Aj
 have aC:Aq 0 6 Y=some Y:=by rw [← y6];exact Aj
 refine aO Tryz.f11 ?_;simp only [Tryz.f11];obtain ⟨aa,aQ⟩:=hr.x;generalize hkk:ht.x=k at *;have U:Gro h G ((((h.new k).new (cQ X 36)).new (cQ Y 36)).new (cQ [iQ uQ 0,iQ uQ 0] 50)):=(Stp.refl D.s).new.new.new.new;generalize hS0:((((h.new k).new (cQ X 36)).new (cQ Y 36)).new (cQ [iQ uQ 0,iQ uQ 0] 50))=S0 at U;have gk:S0.m.get h.nx=some (k:Blk):=by rw [← hS0];simp (disch:=first | omega | (simp only [Ac,Ag,Ai] <;> omega) | fail) only [Bh,Ca,Cd,Bb,Az]
 have gx:S0.m.get (h.nx+1)=some (cQ X 36):=by rw [← hS0];simp (disch:=first | omega | (simp only [Ac,Ag,Ai] <;> omega) | fail) only [Bh,Ca,Cd,Bb,Az]
 have gy:S0.m.get (h.nx+2)=some (cQ Y 36):=by rw [← hS0];simp (disch:=first | omega | (simp only [Ac,Ag,Ai] <;> omega) | fail) only [Bh,Ca,Cd,Bb,Az]
 have gz:S0.m.get (h.nx+3)=some (cQ [iQ uQ 0,iQ uQ 0] 50):=by rw [← hS0];simp (disch:=first | omega | (simp only [Ac,Ag,Ai] <;> omega) | fail) only [Bh,Ca,Cd,Bb,Az]
 have aT:S0.nx=h.nx+4:=by rw [← hS0];rfl
 have rk:=fun {g:H} (e:g.m.get h.nx=some (k:Blk))=>(Ab (o:=0) (n:=2) e).trans rfl;have rx:=fun {g:H} (e:g.m.get (h.nx+1)=some (cQ X 36))=>(Ab (o:=0) (n:=6) e).trans aB;have ry:=fun {g:H} (e:g.m.get (h.nx+2)=some (cQ Y 36))=>(Ab (o:=0) (n:=6) e).trans aC;have aE:=rk gk;simp only [seval,go_sem,xo,yo,hS0,aE];obtain ⟨pk,ad⟩:=D.all k (by rw [aa];exact Option.some_ne_none _);have D0:=D.gro U;refine Ae (look D0 ad aa) fun _ h1 ⟨G1,av,cv,ak,p1,ax,oc⟩=>?_;subst ak;have o1:=ax.one;have o2:=oc.one;simp only [seval,go_sem,o1,o2];have p2:∀ {A B},Gro h1 G1 ((h1.new A).at h1.nx B):=fun {A B}=>(Stp.refl p1.st).new.at (Or.inl (Nat.le_refl _)) (by simp only [Ac];omega) (p1.st.none (Nat.le_refl _));generalize hS2:H.at (H.new h1 _) h1.nx _=S2;have p2:Gro h1 G1 S2:=by rw [← hS2];exact p2
 have z:=p1.trans p2;have D2:=D0.gro z;have ac:=z.gt U.st.1 gk (fun h=>h);have af:=z.gt U.st.1 gx (fun h=>h);have aw:=z.gt U.st.1 gy (fun h=>h);have ay:=z.gt U.st.1 gz (fun h=>h);have aF:=rk ac;have aJ:=rx af;have aL:=ry aw;simp only [seval,go_sem,xo,yo,x6,y6,aF,aJ,aL];have I:=z.le U.st;have ab:=U.le D.s;refine Ae (diff44 mch z.st ((hX.mono ab).mono I) ((hY.mono ab).mono I) vo.1 vn.1 hk ah) fun _ h3 ⟨G3,wv,l,cs,am,O,al,rs,hds,aP⟩=>?_;subst am;simp only [seval,go_sem];have ai:=z.trans O;have D3:=D2.gro O;have aD:=O.le z.st;have a8:=((hX.mono ab).mono I).mono aD;have ae:=O.gt z.st.1 ac (fun h=>h);have au:=O.gt z.st.1 af (fun h=>h);have az:=O.gt z.st.1 ay (fun h=>h);have aG:=rk ae;have aK:=rx au;simp only [seval,go_sem,xo,yo,x6,y6,aG,aK];have ag:=is12 D3 hr vo.1 a8;rw [hkk] at ag;refine Ae ag fun _ Z ⟨an,p4⟩=>?_;subst an;have D4:=D3.gro p4;have aq:=p4.gt O.st.1 ae (fun h=>h);have a0:=p4.gt O.st.1 az (fun h=>h);have aH:=rk aq;simp only [seval,go_sem,aH];have pB:Gro Z G3 (Z.new (cQ [jQ d 0,iQ uQ k.ix,iQ uQ k.gen] 126)):=(Stp.refl p4.st).new;have D5:=D4.gro pB;have aS:=p4.le O.st;have hS:=V.D.ds_safe (r:=k) (Q:=fun m'=>∃ E,V.D.R m' none E n∧E.x=k∧E.all.Nodup∧V.D.TopK o n ht E) vv_ok (dep n) hds vo vn hk ah m ht none [] [] hr aA (by rw [hkk];exact .root aa rfl) (fun _ h=>by cases h) (fun m' E a1 a2 a3 _ _ a6 _=>⟨E,a1,a2.trans hkk,a3,a6⟩);rw [List.append_nil] at hS;have sz:=vn.1.2.2;have dp:=vn.1.2.1;have fq:¬ FP d b sl Z.nx:=fun J=>by have:=D4.fp_lt _ J;omega
 have aM:l.length * 64≤204800:=by have:50 * siz n≤50 * 64:=Nat.mul_le_mul_left _ sz;omega
 refine Ae (carry45 (q:=Z.nx) D5 hS (al.mono (Fz.Le.refl)) rs Au fq tM (fun s hs=>by have:=Aiw _ hds s hs;rw [List.length_nil] at this;omega)) fun _ h6 ⟨ao,G6,m6,aj,b6,⟨E,q1,q2,q3,q4⟩,D6,p6,f6⟩=>?_;subst ao;have ar:=p6.gt D5.s.1 (i:=Z.nx) Au fq;have fz:¬ FP d b sl (h.nx+3):=fun J=>by have:=D.fp_lt _ J;omega
 have aR:=ai.nx;have l4:=p4.nx;have a7:=p6.gt D5.s.1 (pB.gt p4.st.1 a0 (fun h=>h)) fz;have aI:h6.read Z.nx 1 2=some [iQ uQ k.ix,iQ uQ k.gen]:=(Ab ar).trans rfl;simp only [seval,go_sem,aI,a7];have aN:Gro Z G3 (Z.new (cQ [jQ d 0,iQ uQ k.ix,iQ uQ k.gen] 126)):=pB;have Pa:Stp (FP d b sl) h G h6 G6:=(((((U.trans ai).trans p4).trans pB).mono (fun _ h=>h.elim)).trans p6);have n3:G6 (h.nx+3)=none:=by
  rw [p6.old _ (by simp only [Ac];omega),O.old _ (by have:=z.nx;omega),p1.old _ tM];exact D.s.none tM
 have l6:=p6.nx;simp only [Ac] at l6;have pZ:∀ {B},Stp (fun i=>i=h.nx+3) h6 G6 (h6.at (h.nx+3) B) G6:=fun {B}=>(Stp.refl D6.s).at (Or.inr rfl) tM n3;have ap:∀ i,i=h.nx+3→¬ FP d b6 aj i:=fun i hi J=>by subst hi;exact fz (f6 _ (by simp only [Ac];omega) J)
 exact ⟨G6,m6,aj,b6,E,by rw [hkk],(D6.loc (pZ.mono fun i hi J=>ap i hi J)).up tM hL,q1,q2.trans hkk.symm,q3,q4,Pa.in pZ (fun i hi J=>by omega),fun i hi J=>f6 i (by simp only [Ac];omega) J⟩
end
section
variable {h h':H} {G G':Fz} {d b L p q:Nat} {m:D.M} {sl:List Sl} {k k1 k2:Hd}
theorem fit13g {o n:T} {X Y:List AV} (s:St h G) (hX:RT G o X) (hY:RT G n Y):Ans ctx 13 [gQ X,gQ Y] h fun v h'=>(∃ c:Bool,v=bQ c∧(c=true→o.kind=n.kind∧o.tag=n.tag))∧Gro h G h':=by
 have U:=hX.one;have Z:=hY.one;obtain ⟨E,O,ah,ai,af,ag⟩:=o;obtain ⟨D,J,ac,ae,aa,ab⟩:=n;obtain ⟨xa,xc,aj,rfl,_⟩:=hX;obtain ⟨ya,yc,ak,rfl,_⟩:=hY;refine aO Tryz.f13 ?_;simp only [Tryz.f13]
 by_cases k1:(E:Int)=(D:Int)
 ·have z:((E:Int)=(D:Int))=True:=eq_true k1
  by_cases k2:O=J
  ·have I:(O=J)=True:=eq_true k2;simp only [seval,go_sem,U,Z,z,I];exact ⟨⟨_,rfl,fun _=>⟨show E=D by omega,k2⟩⟩,(Stp.refl s).new.new⟩
  ·have I:(O=J)=False:=eq_false k2;simp only [seval,go_sem,U,Z,z,I];exact ⟨⟨_,rfl,fun h=>by cases h⟩,(Stp.refl s).new.new⟩
 ·have z:((E:Int)=(D:Int))=False:=eq_false k1;simp only [seval,go_sem,U,Z,z];exact ⟨⟨_,rfl,fun h=>by cases h⟩,(Stp.refl s).new.new⟩
theorem live7 (z:LiveP):FW ctx 7 [] h=some (bQ true,h):=Fa (by
 show some (Aey [] h)=_;unfold Aey;rw [if_pos z];rfl)
theorem dm_new (E:St h G):Dm (h.new (cQ (Ia (slV [] h.nx) 0 0 [0,0,0,0,0,0,0,0]) 108)) G h.nx (fun _=>none) [] h.nx 0 :=
 ⟨(Stp.refl (W:=fun _=>False) E).new.st,⟨0,0,[0,0,0,0,0,0,0,0],[],Au,rfl,.nil,List.nodup_nil⟩,fun h=>absurd rfl h,E.none (Nat.le_refl _),E.none (Nat.le_refl _),fun _=>rfl,fun k p D=>by (obtain ⟨s,z⟩:=D;simp at z),fun k J p D=>by (obtain ⟨s,z⟩:=D;simp at z),fun k I=>absurd rfl I,fun i s hs=>by simp at hs,⟨Nat.le_refl _,tM⟩,fun k nd e=>by cases e⟩
theorem RT.last {t:T} {Z:List AV} (r:RT G t Z):∃ c cc,Aq 5 1 Z=some [c]∧Arr G 6 c t.ch.length cc∧RTs G t.ch cc:=by
 obtain ⟨kd,E,ky,I,al,ch⟩:=t;obtain ⟨a,c,cc,rfl,_,z,D⟩:=r;exact ⟨c,cc,rfl,z,D⟩
theorem RT.ky {t:T} {Z:List AV} (r:RT G t Z):Aq 2 1 Z=some [sQ t.key]:=by
 obtain ⟨kd,E,ky,I,al,ch⟩:=t;obtain ⟨a,c,cc,rfl,_,z,D⟩:=r;rfl
end
section
variable {h h':H} {G G':Fz} {d b L p q:Nat} {m:D.M} {sl:List Sl} {k k1 k2:Hd}
theorem top3 (c9:LiveP) {a b a1 b1 a2 b2:Nat} {cv af ag:AV} {l l1 l2:List UInt8} (st:St h G) (ha:a < 256) (hb:b < 256) (hc:Arr G 1 cv l.length (u8C l)) (dJ:a1 < 65536) (dM:b1 < 256) (aa:Arr G 1 af l1.length (u8C l1)) (dL:a2 < 65536) (dN:b2 < 256) (ab:Arr G 1 ag l2.length (u8C l2)) :
  Ans ctx 3 [gQ [iQ vQ (a:Int),iQ vQ (b:Int),cv],gQ [iQ .u16 (a1:Int),iQ vQ (b1:Int),af],gQ [iQ .u16 (a2:Int),iQ vQ (b2:Int),ag]] h fun v h'=>v=bQ true∧∀ i,i < h.nx→h'.m.get i=h.m.get i:=by
 have o0:=hc.one;have o1:=aa.one;have o2:=ab.one;refine aO Tryz.f3 ?_;simp only [Tryz.f3];have p0:Gro h G (((h.new (cQ [iQ vQ (a:Int),iQ vQ (b:Int),cv] 24)).new (cQ [iQ .u16 (a1:Int),iQ vQ (b1:Int),af] 27)).new (cQ [iQ .u16 (a2:Int),iQ vQ (b2:Int),ag] 27)):=(Stp.refl st).new.new.new;generalize hS0:(((h.new (cQ [iQ vQ (a:Int),iQ vQ (b:Int),cv] 24)).new (cQ [iQ .u16 (a1:Int),iQ vQ (b1:Int),af] 27)).new (cQ [iQ .u16 (a2:Int),iQ vQ (b2:Int),ag] 27))=S0 at p0;have gp:S0.m.get h.nx=some (cQ [iQ vQ (a:Int),iQ vQ (b:Int),cv] 24):=by rw [← hS0];simp (disch:=first | omega | (simp only [Ac,Ag,Ai] <;> omega) | fail) only [Bh,Ca,Cd,Bb,Az]
 have ga:S0.m.get (h.nx+1)=some (cQ [iQ .u16 (a1:Int),iQ vQ (b1:Int),af] 27):=by rw [← hS0];simp (disch:=first | omega | (simp only [Ac,Ag,Ai] <;> omega) | fail) only [Bh,Ca,Cd,Bb,Az]
 have gc:S0.m.get (h.nx+2)=some (cQ [iQ .u16 (a2:Int),iQ vQ (b2:Int),ag] 27):=by rw [← hS0];simp (disch:=first | omega | (simp only [Ac,Ag,Ai] <;> omega) | fail) only [Bh,Ca,Cd,Bb,Az]
 have fd:S0.nx=h.nx+3:=by rw [← hS0];rfl
 have rp:S0.read h.nx 0 3=some [iQ vQ (a:Int),iQ vQ (b:Int),cv]:=(Ab gp).trans rfl;simp only [seval,go_sem,o0,o1,o2,hS0,rp];refine Ae (of4 p0.st ha hb hc) fun _ h1 ⟨G1,Xp,p,du,p1,ap,cN,hk⟩=>?_;subst du;have xo:=ap.one;have x6:=RP.len _ _ ap;have dT:Aq 0 6 Xp=some Xp:=by rw [← x6];exact Aj
 have cO:Cl [iQ vQ 0,sQ [],sQ [],(():AV),sQ [],(():AV)] Xp=some Xp:=by
  have:=Bd [] [iQ vQ 0,sQ [],sQ [],(():AV),sQ [],(():AV)] [] Xp (by rw [x6];rfl);rw [List.append_nil,List.append_nil] at this;exact this
 have pA:Stp (fun _=>False) S0 G ((h1.new (cQ [iQ vQ 0,sQ [],sQ [],(():AV),sQ [],(():AV)] 31)).at h1.nx (cQ Xp 31)) G1:=p1.new.at (Or.inl p1.nx) (by simp only [Ac];omega) (p1.st.none (Nat.le_refl _));have nA:((h1.new (cQ [iQ vQ 0,sQ [],sQ [],(():AV),sQ [],(():AV)] 31)).at h1.nx (cQ Xp 31)).nx=h1.nx+1:=rfl;generalize hA:((h1.new (cQ [iQ vQ 0,sQ [],sQ [],(():AV),sQ [],(():AV)] 31)).at h1.nx (cQ Xp 31))=A at pA nA;have bE:=p0.trans pA;have dW:=bE.le st;have aV:A.m.get h1.nx=some (cQ Xp 31):=by rw [← hA];exact Ap
 have b6:=pA.gt p0.st.1 ga (fun h=>h);have dB:=pA.gt p0.st.1 gc (fun h=>h);have aH:=fun {g:H} (e:g.m.get h1.nx=some (cQ Xp 31))=>(Ab (o:=0) (n:=6) e).trans dT;have aP:Gro A G1 (A.up 10):=(Stp.refl pA.st).up;obtain ⟨_,dP,eu,eP,X1,x1,rfl,aq,dC,eo⟩:=of6 aP.st dJ dM (aa.mono dW);have c7:=RP.mono (aq.le aP.st) _ _ ap;obtain ⟨_,z,ex,Gr1,Z1,e1,rfl,bG,aS,bR,eT,dF⟩:=Afs aq.st dC eo c7 cN hk;have bv:=(aP.trans aq).trans bG;have eh:=aq.nx;have fe:=bG.nx;simp only [Ai] at eh;have cJ:Gr1 (A.nx+7)=none:=by rw [bG.old _ tM,aq.old _ (by simp only [Ai];omega)];exact pA.st.none tM
 have es:∀ {B1 B2},Stp (fun _=>False) A G1 ((z.at (A.nx+7) B1).at (A.nx+7) B2) Gr1:=fun {B1 B2}=>(bv.at (Or.inl tM) tM cJ).at (Or.inl tM) (by simp only [Ag];omega) cJ;have cm:=(aP.trans aq).gt pA.st.1 aV (fun h=>h);have c0:=(aP.trans aq).gt pA.st.1 b6 (fun h=>h);have cr:=bv.gt pA.st.1 aV (fun h=>h);have c4:=bv.gt pA.st.1 b6 (fun h=>h);have eA:=aH aV;have cX:=aH cm;have cZ:=aH cr;have eC:A.read (h.nx+1) 0 3=some [iQ .u16 (a1:Int),iQ vQ (b1:Int),af]:=(Ab b6).trans rfl;have db:dP.read (h.nx+1) 0 3=some [iQ .u16 (a1:Int),iQ vQ (b1:Int),af]:=(Ab c0).trans rfl;have df:z.read (h.nx+1) 0 3=some [iQ .u16 (a1:Int),iQ vQ (b1:Int),af]:=(Ab c4).trans rfl;have dU:Aq 0 6 Z1=some Z1:=by rw [← aS];exact Aj
 have eq:Cl [iQ vQ 0,sQ [],sQ [],(():AV),sQ [],(():AV)] Z1=some Z1:=by
  have:=Bd [] [iQ vQ 0,sQ [],sQ [],(():AV),sQ [],(():AV)] [] Z1 (by rw [aS];rfl);rw [List.append_nil,List.append_nil] at this;exact this
 simp only [seval,go_sem,xo,x6,cO,hA,eA,cX,cZ,eC,db,df,o1,eu,ex,bR,aS,eq];generalize hB:H.at (H.at z (A.nx+7) _) (A.nx+7) _=B;have pB:Stp (fun _=>False) A G1 B Gr1:=by rw [← hB];exact es
 have g8:B.m.get (A.nx+7)=some (cQ Z1 36):=by rw [← hB];exact Ap
 have b4:=pB.gt pA.st.1 aV (fun h=>h);have b7:=pB.gt pA.st.1 dB (fun h=>h);have dX:=(bE.trans pB).le st;have dE:=RP.mono (pB.le pA.st) _ _ ap;have fc:B.nx=z.nx:=by rw [← hB];rfl
 have nB:=pB.nx;have aG:Gro B Gr1 (B.up 10):=(Stp.refl pB.st).up;obtain ⟨_,dQ,ew,eQ,X2,x2,rfl,ak,dD,ep⟩:=of6 aG.st dL dN (ab.mono dX);have c8:=RP.mono (ak.le aG.st) _ _ dE;obtain ⟨_,b9,ey,Gr2,Z2,e2,rfl,bH,aT,bS,eU,dG⟩:=Afs ak.st dD ep c8 cN hk;have bw:=(aG.trans ak).trans bH;have ei:=ak.nx;have ff:=bH.nx;simp only [Ai] at ei;have cK:Gr2 (z.nx+7)=none:=by rw [bH.old _ tM,ak.old _ (by simp only [Ai];omega)];exact pB.st.none tM
 have et:∀ {B1 B2},Stp (fun _=>False) B Gr1 ((b9.at (z.nx+7) B1).at (z.nx+7) B2) Gr2:=fun {B1 B2}=>(bw.at (Or.inl tM) tM cK).at (Or.inl tM) (by simp only [Ag];omega) cK;have cq:=(aG.trans ak).gt pB.st.1 b4 (fun h=>h);have c3:=(aG.trans ak).gt pB.st.1 b7 (fun h=>h);have ct:=bw.gt pB.st.1 b4 (fun h=>h);have c5:=bw.gt pB.st.1 b7 (fun h=>h);have eB:=aH b4;have cY:=aH cq;have da:=aH ct;have eE:B.read (h.nx+2) 0 3=some [iQ .u16 (a2:Int),iQ vQ (b2:Int),ag]:=(Ab b7).trans rfl;have dd:dQ.read (h.nx+2) 0 3=some [iQ .u16 (a2:Int),iQ vQ (b2:Int),ag]:=(Ab c3).trans rfl;have dg:b9.read (h.nx+2) 0 3=some [iQ .u16 (a2:Int),iQ vQ (b2:Int),ag]:=(Ab c5).trans rfl;have dV:Aq 0 6 Z2=some Z2:=by rw [← aT];exact Aj
 have er:Cl [iQ vQ 0,sQ [],sQ [],(():AV),sQ [],(():AV)] Z2=some Z2:=by
  have:=Bd [] [iQ vQ 0,sQ [],sQ [],(():AV),sQ [],(():AV)] [] Z2 (by rw [aT];rfl);rw [List.append_nil,List.append_nil] at this;exact this
 have eM:=(aG.trans ak).gt pB.st.1 g8 (fun h=>h);simp only [seval,go_sem,xo,x6,cO,hB,eB,cY,da,eE,dd,dg,o2,ew,ey,bS,aT,er];generalize hC:H.at (H.at b9 (z.nx+7) _) (z.nx+7) _=C;have pC:Stp (fun _=>False) B Gr1 C Gr2:=by rw [← hC];exact et
 have bZ:C.m.get (z.nx+7)=some (cQ Z2 36):=by rw [← hC];exact Ap
 have cu:=pC.gt pB.st.1 g8 (fun h=>h);have PC:=(bE.trans pB).trans pC;have nC:=pC.nx;have we:IntKind.i64.wrap (e1+e2)=e1+e2:=by
  have:(e1+e2)=(((e1+e2).toNat:Nat):Int):=tM;rw [this];exact Bz tM
 by_cases hz:e1+e2=0
 rotate_left
 ·have bB:(e1+e2=0)=False:=eq_false hz;simp only [seval,go_sem,we,bB,live7 c9];exact fun i hi=>PC.same i hi (fun h=>h)
 have bB:(e1+e2=0)=True:=eq_true hz;obtain ⟨Z,bh,aR,d0,eF,eH⟩:=dF tM;obtain ⟨t2,e9,bj,d3,eG,eI⟩:=dG tM;have bh:=bh.mono (pC.le pB.st);simp only [seval,go_sem,we,bB];refine Ae (new8 PC.st) fun _ hD ⟨ed,eD⟩=>?_;subst ed eD;have D0:=dm_new PC.st;have pD:Gro C Gr2 (C.new (cQ (Ia (slV [] C.nx) 0 0 [0,0,0,0,0,0,0,0]) 108)):=(Stp.refl PC.st).new;have b5:=pD.gt PC.st.1 cu (fun h=>h);have bk:=pD.gt PC.st.1 bZ (fun h=>h);generalize hDD:(C.new (cQ (Ia (slV [] C.nx) 0 0 [0,0,0,0,0,0,0,0]) 108))=D at D0 pD b5 bk;have r8:=fun {g:H} (e:g.m.get (A.nx+7)=some (cQ Z1 36))=>(Ab (o:=0) (n:=6) e).trans dU;have cP:=fun {g:H} (e:g.m.get (z.nx+7)=some (cQ Z2 36))=>(Ab (o:=0) (n:=6) e).trans dV;have ez:=r8 b5;simp only [seval,go_sem,ez,bR,aS,hDD];have fi:=aR.2.2;have fj:=bj.2.2;refine Ae (Avq D0 tM aR bh) fun _ hM ⟨GM,ht,mM,bO,bM,dw,DM,RM,eg,_,_,pM,fM⟩=>?_;subst dw;have aZ:∀ i,i < C.nx→¬ FP C.nx C.nx [] i:=fun i hi hh=>by
  rcases hh with rfl | ⟨_,hh⟩ | ⟨k,hh⟩
  ·omega
  ·exact hh rfl
  ·obtain ⟨n,h1⟩:=hh;simp at h1
 have nD:D.nx=C.nx+1:=by rw [← hDD];rfl
 have bD:∀ i,i < C.nx→¬ FP C.nx bM bO i:=fun i hi hh=>aZ i hi (fM i tM hh);have l8:A.nx+7 < C.nx:=by have:=Ah PC.st.1 cu;exact this
 have cE:z.nx+7 < C.nx:=by have:=Ah PC.st.1 bZ;exact this
 have d7:=pM.gt D0.s.1 b5 (aZ _ l8);have ca:=pM.gt D0.s.1 bk (aZ _ cE);have nM:=pM.nx;have aF:Gro hM GM ((hM.new (cQ [iQ uQ 0,iQ uQ 0] 50)).at hM.nx (cQ [iQ uQ ht.x.ix,iQ uQ ht.x.gen] 50)):=(Stp.refl DM.s).new.at (Or.inl (Nat.le_refl _)) (by simp only [Ac];omega) (DM.s.none (Nat.le_refl _));have ec:((hM.new (cQ [iQ uQ 0,iQ uQ 0] 50)).at hM.nx (cQ [iQ uQ ht.x.ix,iQ uQ ht.x.gen] 50)).nx=hM.nx+1:=rfl;generalize hM1:((hM.new (cQ [iQ uQ 0,iQ uQ 0] 50)).at hM.nx (cQ [iQ uQ ht.x.ix,iQ uQ ht.x.gen] 50))=M1 at aF ec;have aE:=DM.gro aF;have cd:M1.m.get hM.nx=some (cQ [iQ uQ ht.x.ix,iQ uQ ht.x.gen] 50):=by rw [← hM1];exact Ap
 have cy:=aF.gt DM.s.1 d7 (fun h=>h);have bx:=aF.gt DM.s.1 ca (fun h=>h);have bL:=fun {g:H} (e:g.m.get hM.nx=some (cQ [iQ uQ ht.x.ix,iQ uQ ht.x.gen] 50))=>(Ab (o:=0) (n:=2) e).trans rfl;have cU:=bL cd;simp only [seval,go_sem,hdA,hM1,cU];obtain ⟨cC,br⟩:=RM.x;obtain ⟨pk,ad⟩:=DM.all ht.x (by rw [cC];exact Option.some_ne_none _);refine Ae (look aE ad cC) fun _ hL ⟨GL,av,cw,dv,pL,dr,cL⟩=>?_;subst dv;obtain ⟨GL2,bg,eX,bW⟩:=cL.frz pL (Nat.le_refl _);have ej:=dr.one;have ek:=cL.one;have ai:Stp (fun _=>False) M1 GM ((hL.new (cQ [iQ vQ 0,sQ [],(():AV),sQ [],iQ wQ 0,iQ wQ 0,bQ false,iQ uQ 0,iQ uQ 0,(():AV)] 55)).at hL.nx (cQ [iQ vQ Z.kind,sQ Z.tag,av,sQ Z.text,iQ wQ 0,iQ wQ 0,bQ false,iQ uQ (Ba none).ix,iQ uQ (Ba none).gen,cw] 55)) GL2:=bg.new.at (Or.inl bg.nx) (by simp only [Ac];omega) (bg.st.none (Nat.le_refl _));have eb:((hL.new (cQ [iQ vQ 0,sQ [],(():AV),sQ [],iQ wQ 0,iQ wQ 0,bQ false,iQ uQ 0,iQ uQ 0,(():AV)] 55)).at hL.nx (cQ [iQ vQ Z.kind,sQ Z.tag,av,sQ Z.text,iQ wQ 0,iQ wQ 0,bQ false,iQ uQ (Ba none).ix,iQ uQ (Ba none).gen,cw] 55)).nx=hL.nx+1:=rfl;generalize hL1:((hL.new (cQ [iQ vQ 0,sQ [],(():AV),sQ [],iQ wQ 0,iQ wQ 0,bQ false,iQ uQ 0,iQ uQ 0,(():AV)] 55)).at hL.nx (cQ [iQ vQ Z.kind,sQ Z.tag,av,sQ Z.text,iQ wQ 0,iQ wQ 0,bQ false,iQ uQ (Ba none).ix,iQ uQ (Ba none).gen,cw] 55))=L1 at ai eb;have aD:=aE.gro ai;have d5:L1.m.get hL.nx=some (cQ [iQ vQ Z.kind,sQ Z.tag,av,sQ Z.text,iQ wQ 0,iQ wQ 0,bQ false,iQ uQ (Ba none).ix,iQ uQ (Ba none).gen,cw] 55):=by rw [← hL1];exact Ap
 have bn:=ai.gt aE.s.1 cd (fun h=>h);have cx:=ai.gt aE.s.1 cy (fun h=>h);have bl:=ai.gt aE.s.1 bx (fun h=>h);have nL:=bg.nx;have cT:=bL bn;have e0:=r8 cx;have cR:=cP bl;simp only [seval,go_sem,ej,ek,hL1,cT,e0,cR,bR,bS,aS,aT];have cG:=pM.le D0.s;have bt:=ai.le aE.s;have bu:=(bh.mono cG).mono bt;have aQ:=(e9.mono cG).mono bt;refine Ae (patch11 aD RM eg bu aQ ⟨aR,d0⟩ ⟨bj,d3⟩ (eF.trans eG.symm) (eH.trans eI.symm) tM) fun _ hP ⟨GP,mP,fh,bP,bA,dx,DP,bT,cD,nd',tk,pP,fP⟩=>?_;subst dx;have nP:=pP.nx;have cH:¬ FP C.nx bM bO hM.nx:=fun hh=>by have:=DM.fp_lt _ hh;omega
 have cI:¬ FP C.nx bM bO hL.nx:=fun hh=>by have:=DM.fp_lt _ hh;omega
 have ce:=pP.gt aD.s.1 bn cH;have ci:=pP.gt aD.s.1 d5 cI;have d8:=pP.gt aD.s.1 cx (bD _ l8);have cb:=pP.gt aD.s.1 bl (bD _ cE);have aj:Gro hP GP ((hP.new (cQ [iQ uQ 0,iQ uQ 0] 50)).at hP.nx (cQ [iQ uQ ht.x.ix,iQ uQ ht.x.gen] 50)):=(Stp.refl DP.s).new.at (Or.inl (Nat.le_refl _)) (by simp only [Ac];omega) (DP.s.none (Nat.le_refl _));have ee:((hP.new (cQ [iQ uQ 0,iQ uQ 0] 50)).at hP.nx (cQ [iQ uQ ht.x.ix,iQ uQ ht.x.gen] 50)).nx=hP.nx+1:=rfl;generalize ap:((hP.new (cQ [iQ uQ 0,iQ uQ 0] 50)).at hP.nx (cQ [iQ uQ ht.x.ix,iQ uQ ht.x.gen] 50))=P1 at aj ee;have ae:=DP.gro aj;have ck:P1.m.get hP.nx=some (cQ [iQ uQ ht.x.ix,iQ uQ ht.x.gen] 50):=by rw [← ap];exact Ap
 have b0:=aj.gt DP.s.1 ce (fun h=>h);have b3:=aj.gt DP.s.1 ci (fun h=>h);have cz:=aj.gt DP.s.1 d8 (fun h=>h);have bz:=aj.gt DP.s.1 cb (fun h=>h);have bN:=fun {g:H} (e:g.m.get hP.nx=some (cQ [iQ uQ ht.x.ix,iQ uQ ht.x.gen] 50))=>(Ab (o:=0) (n:=2) e).trans rfl;have cV:=bN ck;simp only [seval,go_sem,hdA,ap,cV];obtain ⟨aN,bs⟩:=bT.x;rw [cD] at aN;obtain ⟨fg,dq⟩:=DP.all ht.x (by rw [aN];exact Option.some_ne_none _);refine Ae (look ae dq aN) fun _ hQ ⟨GQ,aI,ao,dy,pQ,dt,cM⟩=>?_;subst dy;obtain ⟨GQ2,bF,eZ,bY⟩:=cM.frz pQ (Nat.le_refl _);have em:=dt.one;have en:=cM.one;have ac:Stp (fun _=>False) P1 GP ((hQ.new (cQ [iQ vQ 0,sQ [],(():AV),sQ [],iQ wQ 0,iQ wQ 0,bQ false,iQ uQ 0,iQ uQ 0,(():AV)] 55)).at hQ.nx (cQ [iQ vQ t2.kind,sQ t2.tag,aI,sQ t2.text,iQ wQ 0,iQ wQ 0,bQ false,iQ uQ (Ba none).ix,iQ uQ (Ba none).gen,ao] 55)) GQ2:=bF.new.at (Or.inl bF.nx) (by simp only [Ac];omega) (bF.st.none (Nat.le_refl _));have ef:((hQ.new (cQ [iQ vQ 0,sQ [],(():AV),sQ [],iQ wQ 0,iQ wQ 0,bQ false,iQ uQ 0,iQ uQ 0,(():AV)] 55)).at hQ.nx (cQ [iQ vQ t2.kind,sQ t2.tag,aI,sQ t2.text,iQ wQ 0,iQ wQ 0,bQ false,iQ uQ (Ba none).ix,iQ uQ (Ba none).gen,ao] 55)).nx=hQ.nx+1:=rfl;generalize hQ1:((hQ.new (cQ [iQ vQ 0,sQ [],(():AV),sQ [],iQ wQ 0,iQ wQ 0,bQ false,iQ uQ 0,iQ uQ 0,(():AV)] 55)).at hQ.nx (cQ [iQ vQ t2.kind,sQ t2.tag,aI,sQ t2.text,iQ wQ 0,iQ wQ 0,bQ false,iQ uQ (Ba none).ix,iQ uQ (Ba none).gen,ao] 55))=Q1 at ac ef;have am:=ae.gro ac;have d6:Q1.m.get hQ.nx=some (cQ [iQ vQ t2.kind,sQ t2.tag,aI,sQ t2.text,iQ wQ 0,iQ wQ 0,bQ false,iQ uQ (Ba none).ix,iQ uQ (Ba none).gen,ao] 55):=by rw [← hQ1];exact Ap
 have cf:=ac.gt ae.s.1 b0 (fun h=>h);have cj:=ac.gt ae.s.1 b3 (fun h=>h);have bp:=ac.gt ae.s.1 ck (fun h=>h);have d9:=ac.gt ae.s.1 cz (fun h=>h);have bm:=ac.gt ae.s.1 bz (fun h=>h);have cW:=bN bp;have cS:=cP bm;have ah:=(pP.le aD.s).trans (ac.le ae.s);simp only [seval,go_sem,em,en,hQ1,cW,cS,bS,aT];have c6:=is12 am bT bj (aQ.mono ah);rw [cD] at c6;refine Ae c6 fun _ hR ⟨dz,pR⟩=>?_;subst dz;have cg:=pR.gt am.s.1 cf (fun h=>h);have aL:=pR.gt am.s.1 cj (fun h=>h);have cl:=pR.gt am.s.1 bp (fun h=>h);have aM:=pR.gt am.s.1 d6 (fun h=>h);have aW:=pR.gt am.s.1 d9 (fun h=>h);have ar:=pR.gt am.s.1 bm (fun h=>h);have kR:∀ i,i < h.nx→i < hR.nx∧hR.m.get i=h.m.get i:=fun i hi=>by
  have n1:=PC.nx;have n2:=pD.nx;have n3:=pM.nx;have n4:=aF.nx;have n5:=ai.nx;have n6:=pP.nx;have n7:=aj.nx;have n8:=ac.nx;have n9:=pR.nx;refine ⟨tM,?_⟩;rw [pR.same i tM (fun h=>h),ac.same i tM (fun h=>h),aj.same i tM (fun h=>h),pP.same i tM (bD i tM),ai.same i tM (fun h=>h),aF.same i tM (fun h=>h),pM.same i tM (aZ i tM),pD.same i tM (fun h=>h),PC.same i hi (fun h=>h)]
 have eY:=ah;obtain ⟨c1,eR,e3,bU,e6⟩:=(bu.mono ah).last;obtain ⟨c2,eS,e5,bV,e7⟩:=(aQ.mono ah).last;have bC:=bU.len;have cF:=bV.len;have eV:Z.ch.length≤64:=by have:=aR.1;have:=(J5 aR).2;omega
 have eW:t2.ch.length≤64:=by have:=(J5 bj).2;omega
 have cA:(ht.ch.map HT.x).length=Z.ch.length:=by rw [List.length_map];exact br.len
 have cB:(bA.ch.map HT.x).length=t2.ch.length:=by rw [List.length_map];exact bs.len
 have dZ:Db cw=some Z.ch.length:=by rw [← cA];exact bW.len
 have ea:Db ao=some t2.ch.length:=by rw [← cB];exact bY.len
 have bX:=bW.mono ah;have q8:=fun {g:H} (e:g.m.get (A.nx+7)=some (cQ Z1 36))=>(Ab (o:=5) (n:=1) e).trans e3;have bI:=fun {g:H} (e:g.m.get (z.nx+7)=some (cQ Z2 36))=>(Ab (o:=5) (n:=1) e).trans e5;have bJ:∀ {g:H},g.m.get hL.nx=some (cQ [iQ vQ Z.kind,sQ Z.tag,av,sQ Z.text,iQ wQ 0,iQ wQ 0,bQ false,iQ uQ (Ba none).ix,iQ uQ (Ba none).gen,cw] 55)→g.read hL.nx 9 1=some [cw]:=fun e=>(Ab e).trans rfl;have bK:∀ {g:H},g.m.get hQ.nx=some (cQ [iQ vQ t2.kind,sQ t2.tag,aI,sQ t2.text,iQ wQ 0,iQ wQ 0,bQ false,iQ uQ (Ba none).ix,iQ uQ (Ba none).gen,ao] 55)→g.read hQ.nx 9 1=some [ao]:=fun e=>(Ab e).trans rfl;have a8:=q8 aW;have dj:=bI ar;have dm:=bJ aL;have dp:=bK aM;have dk:=bL cg;have dn:=bN cl;have eJ:IntKind.i64.wrap 0=0:=rfl;have eN:e1=0:=tM;have eO:e2=0:=tM;simp only [seval,go_sem,a8,dj,dm,dp,dk,dn,eJ,dZ,ea,bC,cF];refine Ao (fun m e h'=>Gro hR GQ2 h'∧m≤Z.ch.length∧e.get 8=some (jQ (A.nx+7) 0)∧e.get 10=some (jQ (z.nx+7) 0)∧e.get 14=some (jQ hL.nx 0)∧e.get 17=some (jQ hQ.nx 0)∧e.get 21=some (iQ wQ m)) (fun m=>Z.ch.length - m) 0 ⟨Stp.refl pR.st,Nat.zero_le _,by simp [Tr.get_set]⟩ ?_;rintro m e Y ⟨E,hm,e8,I,J,O,U⟩ lp;have aX:=E.gt pR.st.1 aW (fun h=>h);have au:=E.gt pR.st.1 ar (fun h=>h);have b8:=q8 aX;have an:=bI au;have lA:A.nx+7 < hR.nx:=Ah pR.st.1 aW;have lB:z.nx+7 < hR.nx:=Ah pR.st.1 ar;have lC:hL.nx < hR.nx:=Ah pR.st.1 aL;have lD:hQ.nx < hR.nx:=Ah pR.st.1 aM;simp only [seval,go_sem,e8,I,J,O,U,b8,bC];refine Cr (fun aa=>?_) (fun aa=>?_);rotate_left
 ·simp only [seval,go_sem,live7 c9];exact fun i hi=>(E.same i (kR i hi).1 (fun h=>h)).trans (kR i hi).2
 have aa:m < Z.ch.length:=by simpa using aa
 have wm:=wI m;simp only [seval,go_sem,e8,I,J,O,U];refine Ao (fun n e h'=>Gro hR GQ2 h'∧n≤t2.ch.length∧e.get 8=some (jQ (A.nx+7) 0)∧e.get 10=some (jQ (z.nx+7) 0)∧e.get 14=some (jQ hL.nx 0)∧e.get 17=some (jQ hQ.nx 0)∧e.get 21=some (iQ wQ m)∧e.get 22=some (iQ wQ n)) (fun n=>t2.ch.length - n) 0 ⟨E,Nat.zero_le _,by simp [Tr.get_set,e8,I,J,O,U]⟩ ?_;clear b8 an aX au e8 I J O U e E;clear Y;rintro n e Y ⟨E,hn,e8,I,J,O,U,aK⟩ dY;have aX:=E.gt pR.st.1 aW (fun h=>h);have au:=E.gt pR.st.1 ar (fun h=>h);have bo:=E.gt pR.st.1 aL (fun h=>h);have bq:=E.gt pR.st.1 aM (fun h=>h);have b8:=q8 aX;have an:=bI au;have n2:=E.nx;simp only [seval,go_sem,e8,I,J,O,U,aK,b8,an,bC,cF];refine Cr (fun ab=>?_) (fun ab=>?_);rotate_left
 ·simp only [seval,go_sem,U,wm];exact lp (m+1) _ _ tM ⟨E,aa,by simp [Tr.get_set,e8,I,J,O]⟩
 have ab:n < t2.ch.length:=by simpa using ab
 have wn:=wI n;obtain ⟨ub,uo,Xc,u1,u2,rX⟩:=bU.tree E.st e6 aa;obtain ⟨vb,vo,Yc,v1,v2,rY⟩:=bV.tree E.st e7 ab;have Xo:=rX.one;have Yo:=rY.one;have X6:=rX.len;have Y6:=rY.len;have dH:Aq 0 6 Xc=some Xc:=by rw [← X6];exact Aj
 have dI:Aq 0 6 Yc=some Yc:=by rw [← Y6];exact Aj
 have be:Cl [iQ vQ 0,sQ [],sQ [],(():AV),sQ [],(():AV)] Xc=some Xc:=by
  have:=Bd [] [iQ vQ 0,sQ [],sQ [],(():AV),sQ [],(():AV)] [] Xc (by rw [X6];rfl);rw [List.append_nil,List.append_nil] at this;exact this
 have bf:Cl [iQ vQ 0,sQ [],sQ [],(():AV),sQ [],(():AV)] Yc=some Yc:=by
  have:=Bd [] [iQ vQ 0,sQ [],sQ [],(():AV),sQ [],(():AV)] [] Yc (by rw [Y6];rfl);rw [List.append_nil,List.append_nil] at this;exact this
 have fa:ub < Y.nx:=Cq E.st.1 (E.st.read u2);have fb:vb < Y.nx:=Cq E.st.1 (E.st.read v2);have aw:(ub=Y.nx+10)=False:=eq_false tM;have ax:(ub=Y.nx+11)=False:=eq_false tM;have ay:(vb=Y.nx+10)=False:=eq_false tM;have az:(vb=Y.nx+11)=False:=eq_false tM;have a0:(A.nx+7=Y.nx+10)=False:=eq_false tM;have a7:(A.nx+7=Y.nx+11)=False:=eq_false tM;have aA:(z.nx+7=Y.nx+10)=False:=eq_false tM;have aB:(z.nx+7=Y.nx+11)=False:=eq_false tM;have ba:(Y.nx+10=Y.nx+11)=False:=eq_false tM;have bb:(Y.nx+11=Y.nx+10)=False:=eq_false tM;obtain ⟨V,hV⟩:∃ V,((((Y.up 14).at (Y.nx+10) (cQ [iQ vQ 0,sQ [],sQ [],(():AV),sQ [],(():AV)] 36)).at (Y.nx+11) (cQ [iQ vQ 0,sQ [],sQ [],(():AV),sQ [],(():AV)] 36)).at (Y.nx+10) (cQ Xc 36)).at (Y.nx+11) (cQ Yc 36)=V:=⟨_,rfl⟩;have pV:Gro Y GQ2 V:=by
  rw [← hV];exact (((((Stp.refl E.st).up).at (Or.inl tM) (by simp only [Ai];omega) (E.st.none tM)).at (Or.inl tM) (by simp only [Ag,Ai];omega) (E.st.none tM)).at (Or.inl tM) (by simp only [Ag,Ai];omega) (E.st.none tM)).at (Or.inl tM) (by simp only [Ag,Ai];omega) (E.st.none tM)
 have gX:V.m.get (Y.nx+10)=some (cQ Xc 36):=by rw [← hV,An tM];exact Ap
 have gY:V.m.get (Y.nx+11)=some (cQ Yc 36):=by rw [← hV];exact Ap
 have k1:V.read (Y.nx+10) 2 1=some [sQ Z.ch[m].key]:=(Ab gX).trans rX.ky;have k2:V.read (Y.nx+11) 2 1=some [sQ t2.ch[n].key]:=(Ab gY).trans rY.ky;have f1:V.read (Y.nx+10) 0 6=some Xc:=(Ab gX).trans dH;have f2:V.read (Y.nx+11) 0 6=some Yc:=(Ab gY).trans dI;have aC:∀ {e':Env} {g:H},Gro Y GQ2 g→e'.get 8=some (jQ (A.nx+7) 0)→e'.get 10=some (jQ (z.nx+7) 0)→e'.get 14=some (jQ hL.nx 0)→e'.get 17=some (jQ hQ.nx 0)→e'.get 21=some (iQ wQ m)→e'.get 22=some (iQ wQ ((n+1:Nat):Int))→_:=fun {e' g} q a1 a2 a3 a4 a5 a6=>dY (n+1) e' g tM ⟨E.trans q,ab,a1,a2,a3,a4,a5,a6⟩
 by_cases d1:Z.ch[m].key=[]
 ·have aJ:(Z.ch[m].key=[])=True:=eq_true d1;simp only [seval,go_sem,e8,I,J,O,U,aK,b8,an,u1,v1,E.st.read u2,E.st.read v2,Xo,Yo,X6,Y6,be,bf,ba,bb,aw,ax,ay,az,a0,a7,aA,aB,hV,k1,k2,f1,f2,aJ,wn];refine aC (pV.up (n:=28)) ?_ ?_ ?_ ?_ ?_ ?_ <;> simp [Tr.get_set,e8,I,J,O,U]
 have aJ:(Z.ch[m].key=[])=False:=eq_false d1
 by_cases d2:Z.ch[m].key=t2.ch[n].key
 rotate_left
 ·have aU:(Z.ch[m].key=t2.ch[n].key)=False:=eq_false d2;simp only [seval,go_sem,e8,I,J,O,U,aK,b8,an,u1,v1,E.st.read u2,E.st.read v2,Xo,Yo,X6,Y6,be,bf,ba,bb,aw,ax,ay,az,a0,a7,aA,aB,hV,k1,k2,f1,f2,aJ,aU,wn];refine aC (pV.up (n:=28)) ?_ ?_ ?_ ?_ ?_ ?_ <;> simp [Tr.get_set,e8,I,J,O,U]
 have aU:(Z.ch[m].key=t2.ch[n].key)=True:=eq_true d2;have pU:Gro V GQ2 (V.up 28):=(Stp.refl pV.st).up;obtain ⟨_,hF,qF,⟨c,rfl,dO⟩,pF⟩:=fit13g pU.st rX rY;have PF:=pV.trans (pU.trans pF);cases c
 ·simp only [seval,go_sem,e8,I,J,O,U,aK,b8,an,u1,v1,E.st.read u2,E.st.read v2,Xo,Yo,X6,Y6,be,bf,ba,bb,aw,ax,ay,az,a0,a7,aA,aB,hV,k1,k2,f1,f2,aJ,aU,qF,wn];refine aC PF ?_ ?_ ?_ ?_ ?_ ?_ <;> simp [Tr.get_set,e8,I,J,O,U]
 obtain ⟨fk,d4⟩:=dO rfl;have eK:=bJ (PF.gt E.st.1 bo (fun h=>h));have eL:=bK (PF.gt E.st.1 bq (fun h=>h));have dh:=bJ (pV.gt E.st.1 bo (fun h=>h));have di:=bK (pV.gt E.st.1 bq (fun h=>h));obtain ⟨wb,wo,w1,w2⟩:=bX.hd E.st (j:=m) (by rw [cA];exact aa);obtain ⟨yb,yo,y1,y2⟩:=bY.hd E.st (j:=n) (by rw [cB];exact ab);have aY:=tk n m t2.ch[n] Z.ch[m] (List.getElem?_eq_getElem ab) (List.getElem?_eq_getElem aa) (by rw [← d2];exact d1) fk d4 d2;have dR:m < ht.ch.length:=by have:=br.len;omega
 have dS:n < bA.ch.length:=by have:=bs.len;omega
 rw [List.getElem?_eq_getElem dR,List.getElem?_eq_getElem dS] at aY;have aY:(bA.ch[n]).x=(ht.ch[m]).x:=Option.some.inj aY;rw [List.getElem_map] at w2 y2;rw [aY] at y2;simp only [seval,go_sem,e8,I,J,O,U,aK,b8,an,u1,v1,E.st.read u2,E.st.read v2,Xo,Yo,X6,Y6,be,bf,ba,bb,aw,ax,ay,az,a0,a7,aA,aB,hV,k1,k2,f1,f2,aJ,aU,qF,wn,eK,eL,dh,di,w1,y1,PF.st.read w2,PF.st.read y2,pV.st.read w2,pV.st.read y2];refine aC PF ?_ ?_ ?_ ?_ ?_ ?_ <;> simp [Tr.get_set,e8,I,J,O,U]
end
theorem U2 (ρ:Nm):∀ l:List Value,∃ xs,VRs ρ xs l∧∀ (i:Nat) (k:IntKind) (n:Int),l[i]?=some (Value.int k n)→xs[i]?=some (AV.int k n)
 | []=>⟨[],rfl,fun i k n h=>by simp at h⟩
 | v::l=>by
  obtain ⟨xs,h1,h2⟩:=U2 ρ l;obtain ⟨x,hx,hx2⟩:∃ x,VR ρ x v∧∀ (k:IntKind) (n:Int),v=Value.int k n→x=AV.int k n:=by
   by_cases h:∃ (k:IntKind) (n:Int),v=Value.int k n
   ·obtain ⟨k,n,rfl⟩:=h;exact ⟨.int k n,rfl,fun k' n' e=>by cases e;rfl⟩
   ·obtain ⟨x,hx⟩:=Acn ρ v;exact ⟨x,hx,fun k n e=>absurd ⟨k,n,e⟩ h⟩
  refine ⟨x::xs,⟨v,l,rfl,hx,h1⟩,fun i k n hi=>?_⟩;cases i with
  | zero =>
   simp only [List.getElem?_cons_zero,Option.some.injEq] at hi ⊢;exact hx2 k n hi
  | succ i =>
   simp only [List.getElem?_cons_succ] at hi ⊢;exact h2 i k n hi
noncomputable def Aji (W:World) (ρ:Nm) (b:Nat):Blk:=match W.heap[b]? with
 | some (.cells cur t mk)=>.fix (Classical.choose (U2 ρ cur.toList)) t mk
 | _=>.fix [] 0 (0,0)
noncomputable def Jr (W:World) (ρ:Nm):List Nat→Tr Blk
 | []=>.lf
 | b::bs=>(Jr W ρ bs).set b (Aji W ρ b)
theorem Gg (W:World) (ρ:Nm):∀ (bs:List Nat) (i:Nat),(Jr W ρ bs).get i=if i∈bs then some (Aji W ρ i) else none
 | [],i=>by rw [if_neg (by simp)];rfl
 | b::bs,i=>by
  show ((Jr W ρ bs).set b _).get i=_;rw [Tr.get_set,Gg W ρ bs i]
  by_cases h:i=b
  ·rw [if_pos h,if_pos (by simp [h]),h]
  ·rw [if_neg h]
   by_cases h2:i∈bs
   ·rw [if_pos h2,if_pos (List.mem_cons_of_mem _ h2)]
   ·rw [if_neg h2,if_neg (by simp [h,h2])]
section
variable {W:World} {bs:List Nat}
def H3 (bs:List Nat):Nm:=fun i=>if i∈bs then some (i,0) else none
def ghIn (W:World) (bs:List Nat):Y.Ghost:=fun r=>if r∈bs then none else W.heap[r]?
theorem Wu {b:Nat} (h:b∈bs):H3 bs b=some (b,0):=if_pos h
theorem Rr (E:∀ b∈bs,∃ z t mk,W.heap[b]?=some (.cells z t mk)) {b:Nat} (h:b∈bs) (ρ:Nm):∃ z t mk xs,W.heap[b]?=some (.cells z t mk)∧Aji W ρ b=.fix xs t mk∧VRs ρ xs z.toList∧∀ (i:Nat) (k:IntKind) (n:Int),z[i]?=some (Value.int k n)→xs[i]?=some (AV.int k n):=by
 obtain ⟨z,t,mk,D⟩:=E b h;have hs:=Classical.choose_spec (U2 ρ z.toList);refine ⟨z,t,mk,Classical.choose (U2 ρ z.toList),D,?_,hs.1,fun i k n I=>hs.2 i k n (by simpa using I)⟩;unfold Aji;rw [D]
theorem hr_in (I:bs.Nodup) (hb:∀ b∈bs,∃ z t mk,W.heap[b]?=some (.cells z t mk)):HR (H3 bs) W (ghIn W bs) [] ⟨Jr W (H3 bs) bs,W.heap.size⟩ W:=by
 refine ⟨bs.map fun b=>.obj b ((W.heap[b]?).getD (.cells #[] 0 (0,0))),⟨bs,by simp,I,fun i k E=>?_,fun q i r hq Y=>?_⟩,?_⟩
 ·have E:(Jr W (H3 bs) bs).get i=some k:=E;rw [Gg] at E;split at E
  ·assumption
  ·cases E
 ·rw [List.getElem?_map,hq] at Y;simp only [Option.map_some,Option.some.injEq] at Y;have D:i∈bs:=List.mem_of_getElem? hq;obtain ⟨z,t,mk,xs,J,h2,h3,_⟩:=Rr hb D (H3 bs);refine ⟨_,i,0,by show (Jr W (H3 bs) bs).get i=_;rw [Gg,if_pos D],Wu D,?_⟩;rw [h2,← Y,J];exact ⟨z.toList,h3,by simp⟩
 ·rw [List.append_nil];refine ⟨rfl,rfl,rfl,Nat.le_refl _,fun r o h=>?_,fun x Z=>?_,fun x Z b O=>?_,?_⟩
  ·unfold ghIn at h;split at h
   ·cases h
   ·exact h
  ·obtain ⟨b,D,rfl⟩:=List.mem_map.1 Z;obtain ⟨z,t,mk,J⟩:=hb b D;show W.heap[b]?=_;rw [J];rfl
  ·obtain ⟨b',D,rfl⟩:=List.mem_map.1 Z;cases O;exact if_pos D
  ·rw [List.pairwise_map];exact I.imp fun h b O U=>by
    cases O;exact h (by injection U with h;exact h.symm)
theorem hr_out {ρ':Nm} {h':H} {w':World} (hb:∀ b∈bs,∃ z t mk,W.heap[b]?=some (.cells z t mk)) (Z:Aft (H3 bs) ρ' W.heap.size h'.nx) (hk:∀ i,i < W.heap.size→h'.m.get i=(Jr W (H3 bs) bs).get i) (E:HR ρ' W (ghIn W bs) [] h' w'):Y.Mem W (Y.G0 W) [] w':=by
 obtain ⟨L,hc,M⟩:=E;refine ⟨M.os,M.tape,M.output,M.grow,fun r o I=>?_,by simp,by simp,List.Pairwise.nil⟩;have I:W.heap[r]?=some o:=I
 by_cases hm:r∈bs
 ·obtain ⟨z,t,mk,xs,h1,h2,h3,_⟩:=Rr hb hm (H3 bs);have D:r < W.heap.size:=Y.lt_of_heap I;have hg:h'.m.get r=some (.fix xs t mk):=by rw [hk r D,Gg,if_pos hm,h2]
  obtain ⟨q,rr,b,c,e1,U,⟨vs,e3,rfl⟩,_⟩:=hc.at hg;rw [Z.2.1 r D,Wu hm] at U;cases U;have O:Le (H3 bs) ρ':=fun i x J=>by
   rcases Nat.lt_or_ge i W.heap.size with hl | hl
   ·rw [Z.2.1 i hl];exact J
   ·unfold H3 at J;split at J
    ·rename_i hi;obtain ⟨z,t,mk,h⟩:=hb i hi;have:=Y.lt_of_heap h;omega
    ·cases J
  have:=VRs.uniq _ _ _ e3 (h3.mono O);subst this;have hh:w'.heap[r]?=some (.cells z.toList.toArray t mk):=M.own _ (List.mem_append_left _ (List.mem_of_getElem? e1));rw [hh,← I,h1]
 ·exact M.pers r o (by unfold ghIn;rw [if_neg hm];exact I)
theorem Awp (D:∀ b∈bs,∃ z t mk,W.heap[b]?=some (.cells z t mk)):Bt (H3 bs) W.heap.size:=fun i E=>by
 unfold H3;split
 ·rename_i h;obtain ⟨z,t,mk,h⟩:=D i h;have:=Y.lt_of_heap h;omega
 ·rfl
end
def avS (ad:Option Addr) (n c:Nat):AV:=match ad with
 | none=>.raw (.slice none 0 0)
 | some x=>.sl x.block x.off n c
def Abo (l:List Nat):Option Addr→List Nat
 | none=>l
 | some x=>if x.block∈l then l else x.block::l
theorem K4 {l:List Nat} {x:Addr}:Abo l (some x)=if x.block∈l then l else x.block::l:=rfl
theorem Y5 {l:List Nat} (h:l.Nodup) (ad:Option Addr):(Abo l ad).Nodup:=by
 cases ad with
 | none=>exact h
 | some x =>
  rw [K4];split
  ·exact h
  ·rename_i z;exact List.nodup_cons.2 ⟨z,h⟩
theorem R4 {l:List Nat} {ad:Option Addr} {b:Nat} (h:b∈l):b∈Abo l ad:=by
 cases ad with
 | none=>exact h
 | some x =>
  rw [K4];split
  ·exact h
  ·exact List.mem_cons_of_mem _ h
theorem Y7 {l:List Nat} {x:Addr}:x.block∈Abo l (some x):=by
 rw [K4];split
 ·assumption
 ·exact List.mem_cons_self ..
theorem R5 {l:List Nat} {ad:Option Addr} {b:Nat} (h:b∈Abo l ad):b∈l∨∃ x,ad=some x∧b=x.block:=by
 cases ad with
 | none=>exact Or.inl h
 | some x =>
  rw [K4] at h;split at h
  ·exact Or.inl h
  ·rcases List.mem_cons.1 h with h | h
   ·exact Or.inr ⟨x,rfl,h⟩
   ·exact Or.inl h
def Lies (W:World) (ad:Option Addr):Prop:=∀ x,ad=some x→x.spot=none∧∃ cur t mk,W.heap[x.block]?=some (.cells cur t mk)∧x.off≤cur.size
theorem Arv {W:World} {bs:List Nat} {ad:Option Addr} {c:Nat} {l:List UInt8} (I:∀ b∈bs,∃ O t mk,W.heap[b]?=some (.cells O t mk)) (hl:Lies W ad) (hm:∀ x,ad=some x→x.block∈bs) (S:Y.RdSl Y.rdB 1 (Y.G0 W) (.slice ad l.length c) l) :
  VR (H3 bs) (avS ad l.length c) (.slice ad l.length c)∧Arr (fun i=>(Jr W (H3 bs) bs).get i) 1 (avS ad l.length c) l.length (u8C l):=by
 obtain ⟨a',c',e1,h2,h3,h4⟩:=S;simp only [Value.slice.injEq,true_and] at e1;obtain ⟨rfl,rfl⟩:=e1;cases ad with
 | none =>
  rcases h4 with ⟨rfl,rfl⟩ | ⟨b,o,h5,_⟩
  ·exact ⟨⟨rfl,rfl⟩,Or.inl ⟨rfl,rfl,rfl⟩⟩
  ·cases h5
 | some x =>
  obtain ⟨hs,z,t0,ab,D,ho⟩:=hl x rfl;obtain ⟨xb,Z,xs⟩:=x;have hs:xs=none:=hs;subst hs;have E:xb∈bs:=hm _ rfl;obtain ⟨O,t,mk,xs,h1,h5,h6,h7⟩:=Rr I E (H3 bs);have D:W.heap[xb]?=some (.cells z t0 ab):=D;rw [h1] at D;cases D;refine ⟨⟨h2,xb,0,Wu E,rfl⟩,Or.inr ⟨xb,Z,Or.inl ⟨c,h2,rfl⟩,?_⟩⟩;have ac:xs.length=z.size:=by rw [J4 h6];simp
  have ho:Z≤z.size:=ho;have U:∀ i b,l[i]?=some b→xs[Z+i]?=some (.int .u8 (b.toNat:Int)):=fun i b J=>by
   rcases h4 with ⟨_,rfl⟩ | ⟨b',o',h8,h9⟩
   ·simp at J
   ·cases h8;obtain ⟨cs,g1,_,g3,g4⟩:=h9 i b J;have g4:cs=[.int .u8 (Y.nb b)]:=g4;subst g4;have:=g3 0 _ rfl;rw [Nat.add_zero,Nat.mul_one,Y.gcell_G0] at this;simp only [World.cell?,h1] at this;exact h7 _ _ _ this
  have aa:Z+l.length≤xs.length:=by
   rcases Nat.eq_zero_or_pos l.length with h0 | h0
   ·omega
   ·obtain ⟨b,I⟩:=Y.get_of_lt (xs:=l) (i:=l.length - 1) tM;have:=Y.lt_of_get (U _ _ I);omega
  unfold Fz.read;simp only [Gg,if_pos E,h5];show Aq Z (l.length * 1) xs=_;rw [Nat.mul_one,Bw,if_pos aa];congr 1
  apply List.ext_getElem?
  intro i;rw [List.getElem?_take];unfold u8C;rw [List.getElem?_map]
  by_cases J:i < l.length
  ·obtain ⟨b,I⟩:=Y.get_of_lt J;rw [if_pos J,List.getElem?_drop,U i b I,I];rfl
  ·rw [if_neg J,List.getElem?_eq_none tM];rfl
theorem ent3:Y.Ent Tryz.prog 3:=.mk' Tryz.func3 rfl rfl
theorem toprendered_law (af:LiveP) {W:World} {a b a1 b1 a2 b2:Int} {ad ad1 ad2:Option Addr} {c c1 c2:Nat} {l l1 l2:List UInt8} (ha:Y.inKind .u8 a) (hb:Y.inKind .u8 b) (U:Y.inKind .u16 a1) (aa:Y.inKind .u8 b1) (Z:Y.inKind .u16 a2) (ab:Y.inKind .u8 b2)
  (S:Y.RdSl Y.rdB 1 (Y.G0 W) (.slice ad l.length c) l) (S1:Y.RdSl Y.rdB 1 (Y.G0 W) (.slice ad1 l1.length c1) l1) (S2:Y.RdSl Y.rdB 1 (Y.G0 W) (.slice ad2 l2.length c2) l2) (hl:Lies W ad) (ac:Lies W ad1) (ae:Lies W ad2) :
  Calls Tryz.prog 3 #[.agg #[.int .u8 a,.int .u8 b,.slice ad l.length c],.agg #[.int .u16 a1,.int .u8 b1,.slice ad1 l1.length c1],.agg #[.int .u16 a2,.int .u8 b2,.slice ad2 l2.length c2]] W (Y.RetS W (Y.G0 W) [] fun v=>v=.bool true):=by
 obtain ⟨bs,I⟩:∃ bs,bs=Abo (Abo (Abo [] ad) ad1) ad2:=⟨_,rfl⟩;have aj:bs.Nodup:=by rw [I];exact Y5 (Y5 (Y5 List.nodup_nil _) _) _
 have ag:∀ x,ad=some x→x.block∈bs:=fun x e=>by rw [I,e];exact R4 (R4 Y7)
 have ah:∀ x,ad1=some x→x.block∈bs:=fun x e=>by rw [I,e];exact R4 Y7
 have ai:∀ x,ad2=some x→x.block∈bs:=fun x e=>by rw [I,e];exact Y7
 have D:∀ b∈bs,∃ E t mk,W.heap[b]?=some (.cells E t mk):=fun b J=>by
  have key:∀ {ad:Option Addr} {x:Addr},Lies W ad→ad=some x→b=x.block→∃ E t mk,W.heap[b]?=some (.cells E t mk):=fun hl e O=>by
   obtain ⟨_,E,t,mk,h,_⟩:=hl _ e;exact ⟨E,t,mk,by rw [O];exact h⟩
  rw [I] at J;rcases R5 J with J | ⟨x,e,O⟩
  ·rcases R5 J with J | ⟨x,e,O⟩
   ·rcases R5 J with J | ⟨x,e,O⟩
    ·cases J
    ·exact key hl e O
   ·exact key ac e O
  ·exact key ae e O
 have na:∀ {k:IntKind} {z:Int},Y.inKind k z→0≤k.min→∃ n:Nat,z=n:=fun {k z} h h0=>⟨z.toNat,by have:=h.1;omega⟩;obtain ⟨a,rfl⟩:∃ n:Nat,a=n:=⟨a.toNat,by have:(0:Int)≤a:=ha.1;omega⟩;obtain ⟨b,rfl⟩:∃ n:Nat,b=n:=⟨b.toNat,by have:(0:Int)≤b:=hb.1;omega⟩;obtain ⟨a1,rfl⟩:∃ n:Nat,a1=n:=⟨a1.toNat,by have:(0:Int)≤a1:=U.1;omega⟩;obtain ⟨b1,rfl⟩:∃ n:Nat,b1=n:=⟨b1.toNat,by have:(0:Int)≤b1:=aa.1;omega⟩;obtain ⟨a2,rfl⟩:∃ n:Nat,a2=n:=⟨a2.toNat,by have:(0:Int)≤a2:=Z.1;omega⟩;obtain ⟨b2,rfl⟩:∃ n:Nat,b2=n:=⟨b2.toNat,by have:(0:Int)≤b2:=ab.1;omega⟩;have ha:(a:Int)≤255:=ha.2;have hb:(b:Int)≤255:=hb.2;have U:(a1:Int)≤65535:=U.2;have aa:(b1:Int)≤255:=aa.2;have Z:(a2:Int)≤65535:=Z.2;have ab:(b2:Int)≤255:=ab.2;obtain ⟨v0,r0⟩:=Arv D hl ag S;obtain ⟨v1,r1⟩:=Arv D ac ah S1;obtain ⟨v2,r2⟩:=Arv D ae ai S2;have st:St ⟨Jr W (H3 bs) bs,W.heap.size⟩ (fun i=>(Jr W (H3 bs) bs).get i):=⟨fun i hi=>by
  show (Jr W (H3 bs) bs).get i=none;rw [Gg,if_neg];intro J;obtain ⟨E,t,mk,h⟩:=D i J;have:=Y.lt_of_heap h;have hi:W.heap.size≤i:=hi;omega,fun i b h=>h⟩
 obtain ⟨v,h',e,rfl,hk⟩:=top3 af st (a:=a) (b:=b) (a1:=a1) (b1:=b1) (a2:=a2) (b2:=b2) tM tM r0 tM tM r1 tM tM r2;have hv:VRs (H3 bs) [.agg [.int .u8 (a:Int),.int .u8 (b:Int),avS ad l.length c],.agg [.int .u16 (a1:Int),.int .u8 (b1:Int),avS ad1 l1.length c1],.agg [.int .u16 (a2:Int),.int .u8 (b2:Int),avS ad2 l2.length c2]]
   [.agg #[.int .u8 (a:Int),.int .u8 (b:Int),.slice ad l.length c],.agg #[.int .u16 (a1:Int),.int .u8 (b1:Int),.slice ad1 l1.length c1],.agg #[.int .u16 (a2:Int),.int .u8 (b2:Int),.slice ad2 l2.length c2]] :=
  ⟨_,_,rfl,⟨[_,_,_],⟨_,_,rfl,rfl,_,_,rfl,rfl,_,_,rfl,v0,rfl⟩,rfl⟩,_,_,rfl,⟨[_,_,_],⟨_,_,rfl,rfl,_,_,rfl,rfl,_,_,rfl,v1,rfl⟩,rfl⟩,_,_,rfl,⟨[_,_,_],⟨_,_,rfl,rfl,_,_,rfl,rfl,_,_,rfl,v2,rfl⟩,rfl⟩,rfl⟩
 refine Calls.mono (Abc.calls ent3 e hv (hr_in aj D) (Awp D)) fun x w' O=>?_;obtain ⟨u,rfl,ρ',q1,q2,q3⟩:=O;exact ⟨hr_out D q1 hk q2,q3⟩
end Go.V
